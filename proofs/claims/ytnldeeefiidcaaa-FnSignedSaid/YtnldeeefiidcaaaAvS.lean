/-
What functions of the program come to, walked one by one.
Conditions: none beside those that each theorem names.
-/
import Derived.Test.YtnldeeefiidcaaaAvN
set_option linter.unusedVariables false
set_option linter.unusedSimpArgs false
namespace Go.Proofs.Ytnldeeefiidcaaa.Av
open Go.RowKit
set_option maxRecDepth 20000
set_option maxHeartbeats 4000000

def qcSigs (e : Int) (q : S31) : List S87 := q.f2.map fun w => ⟨1, e, q.f0, q.f1, w⟩
def tcSigs (e : Int) (t : S55) : List S87 := (t.f1.zip t.f2).map fun p => ⟨2, e, t.f0, p.2, p.1⟩
theorem qcSigs_len (e : Int) (q : S31) : (qcSigs e q).length = q.f2.length := by simp [qcSigs]
theorem tcSigs_len (e : Int) (t : S55) : (tcSigs e t).length = min t.f1.length t.f2.length := by simp [tcSigs]
theorem qcSigs_at {e : Int} {q : S31} {i : Nat} {w : ByteArray} (h : q.f2[i]? = some w) : (qcSigs e q)[i]? = some ⟨1, e, q.f0, q.f1, w⟩ := by simp [qcSigs, h]
theorem tcSigs_at {e : Int} {t : S55} {i : Nat} {w : ByteArray} {n : Int} (h : t.f1[i]? = some w) (hn : t.f2[i]? = some n) : (tcSigs e t)[i]? = some ⟨2, e, t.f0, n, w⟩ := by
  have : (t.f1.zip t.f2)[i]? = some (w, n) := by rw [List.getElem?_zip_eq_some]; exact ⟨h, hn⟩
  simp [tcSigs, this]
theorem app_take {α : Type} {o l : List α} {i : Int} {x : α} {q : List α} (h0 : 0 ≤ i) (hx : l[i.toNat]? = some x) (hq : q = o ++ l.take i.toNat) : q ++ [x] = o ++ l.take (i + 1).toNat := by
  rw [hq, List.append_assoc, take_succ h0 hx]
theorem app_all {α : Type} {o l : List α} {i : Int} {q : List α} (h : (l.length : Int) ≤ i) (hq : q = o ++ l.take i.toNat) : q = o ++ l := by
  rw [hq, List.take_of_length_le (by omega)]
def sgV (m : S80) : List S87 := if m.f4.f2.toList = (⟨#[]⟩ : ByteArray).toList then [] else [⟨1, m.f2, m.f4.f0, m.f4.f1, m.f4.f2⟩]
def sgG (m : S80) : List S87 := if m.f5.f2.toList = (⟨#[]⟩ : ByteArray).toList then [] else [⟨2, m.f2, m.f5.f0, m.f5.f1, m.f5.f2⟩]
def sgB (e : Int) (b : S59) : List S87 := qcSigs e b.f4 ++ tcSigs e b.f5
def sgM (m : S80) : List S87 := sgV m ++ sgG m ++ qcSigs m.f2 m.f6 ++ tcSigs m.f2 m.f7
def sigsOf (m : S80) : List S87 := sgM m ++ m.f3.flatMap (sgB m.f2)
theorem flat_next {m : S80} {i : Int} {x : S59} (h0 : 0 ≤ i) (hx : m.f3[i.toNat]? = some x) : (m.f3.take i.toNat).flatMap (sgB m.f2) ++ sgB m.f2 x = (m.f3.take (i + 1).toNat).flatMap (sgB m.f2) := by
  rw [← take_succ h0 hx, List.flatMap_append]
  simp
def Sm80 (m : S80) : Prop := SmL m.f3 ∧ m.f3.length ≤ 90000 ∧ Sm31 m.f6 ∧ Sm55 m.f7
def Dr80 (m : S80) : Prop := (∀ x, x ∈ m.f3 → Dr59 x) ∧ m.f7.f1.length ≤ m.f7.f2.length
noncomputable def hasN (l : List ByteArray) (s : ByteArray) : Bool := @decide (s ∈ l) (Classical.propDecidable _)
noncomputable def hasG (l : List S87) (s : S87) : Bool := @decide (s ∈ l) (Classical.propDecidable _)
noncomputable def signed (table : List S87) (foul : List ByteArray) (l : List S87) : Bool := @decide (∀ s, s ∈ l → s.f4 ∈ foul ∨ s ∈ table) (Classical.propDecidable _)
theorem hasN_iff {l : List ByteArray} {s : ByteArray} : hasN l s = true ↔ s ∈ l := by simp [hasN]
theorem hasG_iff {l : List S87} {s : S87} : hasG l s = true ↔ s ∈ l := by simp [hasG]
theorem signed_iff {t : List S87} {f : List ByteArray} {l : List S87} : signed t f l = true ↔ ∀ s, s ∈ l → s.f4 ∈ f ∨ s ∈ t := by simp [signed]
theorem mem_tl {l : List ByteArray} {i : Nat} {x s : ByteArray} (hx : l[i]? = some x) (h : x.toList = s.toList) : s ∈ l := tl_inj.1 h ▸ List.mem_of_getElem? hx
theorem not_mem_tl {l : List ByteArray} {s : ByteArray} {i : Int} (hA : Upto (fun _ y => y.toList ≠ s.toList) (fun n => l[n]?) i) (h : (l.length : Int) ≤ i) : s ∉ l :=
  not_mem (fun j y h1 h2 hy => fun e => hA j y h1 h2 hy (by rw [e])) h
theorem hasN_no {l : List ByteArray} {s : ByteArray} (h : hasN l s = false) : s ∉ l := fun q => by rw [hasN_iff.2 q] at h; cases h
theorem hasG_no {l : List S87} {s : S87} (h : hasG l s = false) : s ∉ l := fun q => by rw [hasG_iff.2 q] at h; cases h
theorem sg_has {t l : List S87} {f : List ByteArray} {i : Nat} {x : S87} {v : Bool} {k : Int} (h : signed t f l = true) (hx : l[i]? = some x) (hH : hasN f x.f4 = true → v = true) (hA : Upto (fun _ y => y = x → v = true) (fun n => t[n]?) k) (hk : (t.length : Int) ≤ k) : v = true :=
  (signed_iff.1 h x (List.mem_of_getElem? hx)).elim (fun q => hH (hasN_iff.2 q)) (fun q => by
    obtain ⟨j, hj⟩ := List.mem_iff_getElem?.1 q
    have := (List.getElem?_eq_some_iff.1 hj).1
    exact hA j x (by omega) (by omega) (by simpa using hj) rfl)
theorem mem_eq {α : Type} {l : List α} {i : Nat} {x y : α} (hx : l[i]? = some x) (h : x = y) : y ∈ l := h ▸ List.mem_of_getElem? hx
theorem not_mem2 {α : Type} {l : List α} {x : α} {i : Int} (hA : Upto (fun _ y => y ≠ x) (fun n => l[n]?) i) (h : (l.length : Int) ≤ i) : x ∉ l := not_mem (fun j y h1 h2 hy e => hA j y h1 h2 hy e.symm) h
theorem not_mem_tl2 {l : List ByteArray} {s : ByteArray} {i : Int} (hA : Upto (fun _ y => s.toList ≠ y.toList) (fun n => l[n]?) i) (h : (l.length : Int) ≤ i) : s ∉ l :=
  not_mem (fun j y h1 h2 hy => fun e => hA j y h1 h2 hy (by rw [e])) h
theorem signed_self (l : List S87) (f : List ByteArray) : signed l f l = true := signed_iff.2 fun s hs => .inr hs
theorem flat_len {α β : Type} {f : α → List β} {c : Nat} : ∀ {l : List α}, (∀ x, x ∈ l → (f x).length ≤ c) → (l.flatMap f).length ≤ c * l.length
  | [], _ => by simp
  | x :: l, h => by
    have h1 := h x List.mem_cons_self
    have h2 := flat_len (l := l) (f := f) (c := c) fun y hy => h y (List.mem_cons_of_mem _ hy)
    simp only [List.flatMap_cons, List.length_append, List.length_cons, Nat.mul_add, Nat.mul_one]
    omega
theorem sigs_len (m : S80) (h : Sm80 m) : (sigsOf m).length ≤ 400000000000 := by
  obtain ⟨h1, h2, h3, h4⟩ := h
  have q1 := qcSigs_len m.f2 m.f6
  have q2 := tcSigs_len m.f2 m.f7
  have q3 : (sgV m).length ≤ 1 := by unfold sgV; split <;> simp
  have q4 : (sgG m).length ≤ 1 := by unfold sgG; split <;> simp
  have q5 := flat_len (f := sgB m.f2) (l := m.f3) (c := 4000000) fun x hx => by
    obtain ⟨_, a, b, _⟩ := h1.2 x hx
    have e1 := qcSigs_len m.f2 x.f4
    have e2 := tcSigs_len m.f2 x.f5
    have e3 : x.f4.f2.length ≤ 2000000 := a.1
    have e4 : x.f5.f1.length ≤ 2000000 := b.1.1
    simp only [sgB, List.length_append]
    omega
  have e5 : m.f6.f2.length ≤ 2000000 := h3.1
  have e6 : m.f7.f1.length ≤ 2000000 := h4.1.1
  simp only [sigsOf, sgM, List.length_append]
  omega
theorem hs_next {l : List S87} {x y : S87} {v : Bool} {i : Int} (hA : Upto (fun _ y => y = x → v = true) (fun n => l[n]?) i) (hv : v = false) (h0 : 0 ≤ i) (hy : l[i.toNat]? = some y) : Upto (fun _ z => z = x → sm87 y x = true) (fun n => l[n]?) (i + 1) := fun j z h1 h2 hz e => by
  by_cases hj : j = i
  · subst hj
    have hz : l[j.toNat]? = some z := hz
    rw [hy] at hz
    cases hz
    exact (sm87_iff _ _).2 e
  · have := hA j z h1 (by omega) hz e
    rw [hv] at this
    cases this
theorem mem_upto {α : Type} {P : α → Prop} {l : List α} {i : Int} (hA : Upto (fun _ x => P x) (fun n => l[n]?) i) (h : (l.length : Int) ≤ i) : ∀ x, x ∈ l → P x := fun x hx => by
  obtain ⟨j, hj⟩ := List.mem_iff_getElem?.1 hx
  have := (List.getElem?_eq_some_iff.1 hj).1
  exact hA j x (by omega) (by omega) (by simpa using hj)
theorem s_l13QcSigs (o : List S87) (e : Int) (q : S31) (ho : o.length ≤ 1000000000000) (hq : q.f2.length ≤ 2000000) : ∃ r0 : List S87, (r0 = o ++ qcSigs e q) ∧ Fn Try.prog 116 [.e (.c (.ref 0)), .e (.c (.d (.v (.int .i64 e)))), .e (.agg [.d (.v (.int .i64 q.f0)), .d (.v (.int .i64 q.f1)), .d (.sl (q.f2.map dS))])] (lookH [(0, some (.row 5 87 (o.map d87) false true))]) (.e (.c (.ref 64))) (lookH [(64, some (.row 5 87 (r0.map d87) false true))]) := by
  have key : ∃ x' h', ((fun x' h' => ∃ r0 : List S87, (r0 = o ++ qcSigs e q) ∧ x' = .e (.c (.ref 64)) ∧ h' = [(64, some (.row 5 87 (r0.map d87) false true))])) x' h' ∧ Fn Try.prog 116 [.e (.c (.ref 0)), .e (.c (.d (.v (.int .i64 e)))), .e (.agg [.d (.v (.int .i64 q.f0)), .d (.v (.int .i64 q.f1)), .d (.sl (q.f2.map dS))])] (lookH [(0, some (.row 5 87 (o.map d87) false true))]) x' (lookH h') := by
    refine Fn.bodyX (N := 30) hτ Try.func116 rfl rfl rfl rfl ?_
    refine X.weak (Wk.mk' [(64, 0)] (s' := ⟨[(0, .e (.c (.ref 64))), (1, .e (.c (.d (.v (.int .i64 e))))), (2, .e (.agg [.d (.v (.int .i64 q.f0)), .d (.v (.int .i64 q.f1)), .d (.sl (q.f2.map dS))]))], [(64, some (.row 5 87 (o.map d87) false true))], 80⟩) (by kernel_rfl) (by kernel_rfl) (by kernel_rfl)) ?_
    refine X.seq ?_
    refine X.rk ⟨[(0, .e (.c (.ref 64))), (1, .e (.c (.d (.v (.int .i64 e))))), (5, .pt 80 0 0)], [(64, some (.row 5 87 (o.map d87) false true)), (80, some (.box [.d (.v (.int .i64 q.f0)), .d (.v (.int .i64 q.f1)), .d (.sl (q.f2.map dS))]))], 112⟩ hτ hmix (by kernel_rfl) (by kernel_rfl) rfl ?_
    refine X.seq ?_
    refine X.seq ?_
    refine X.rk ⟨[(0, .e (.c (.ref 64))), (1, .e (.c (.d (.v (.int .i64 e))))), (5, .pt 80 0 0), (7, .e (.c (.d (.v (.int .i64 0)))))], [(64, some (.row 5 87 (o.map d87) false true)), (80, some (.box [.d (.v (.int .i64 q.f0)), .d (.v (.int .i64 q.f1)), .d (.sl (q.f2.map dS))]))], 128⟩ hτ hmix (by kernel_rfl) (by kernel_rfl) rfl ?_
    refine X.block ?_
    -- 2: Lv0 : List S87, v7 : Int
    refine X.loop (σ := { g : (List S87) × Int // (fun (Lv0 : List S87) (v7 : Int) => 0 ≤ v7 ∧ v7 ≤ q.f2.length ∧ Lv0.length = o.length + v7.toNat ∧ Lv0 = o ++ (qcSigs e q).take v7.toNat) g.1 g.2 }) (fun g => (fun (Lv0 : List S87) (v7 : Int) => ⟨[(0, .e (.c (.ref 64))), (1, .e (.c (.d (.v (.int .i64 e))))), (5, .pt 80 0 0), (7, .e (.c (.d (.v (.int .i64 v7)))))], [(64, some (.row 5 87 (Lv0.map d87) false true)), (80, some (.box [.d (.v (.int .i64 q.f0)), .d (.v (.int .i64 q.f1)), .d (.sl (q.f2.map dS))]))], 128⟩) g.1.1 g.1.2) (fun g => (fun (Lv0 : List S87) (v7 : Int) => (q.f2.length - v7).toNat) g.1.1 g.1.2) ⟨(o, 0), ⟨by first | omega | (dsimp only; omega), by first | omega | (dsimp only; omega), by simp, by simp⟩⟩ (Wk.less (by kernel_rfl)) (fun g => ?_)
    obtain ⟨⟨Lv0, v7⟩, hg2⟩ := g
    have hg2 : 0 ≤ v7 ∧ v7 ≤ q.f2.length ∧ Lv0.length = o.length + v7.toNat ∧ Lv0 = o ++ (qcSigs e q).take v7.toNat := hg2
    obtain ⟨_, _, _, hq2⟩ := hg2
    refine X.seq ?_
    refine X.seq ?_
    have el3 : (q.f2.map dS).length = q.f2.length := List.length_map ..
    refine X.rk ⟨[(0, .e (.c (.ref 64))), (1, .e (.c (.d (.v (.int .i64 e))))), (5, .pt 80 0 0), (7, .e (.c (.d (.v (.int .i64 v7))))), (12, .e (.c (.d (.v (.bool (decide ((v7 : Int) < ((q.f2.map dS).length : Int))))))))], [(64, some (.row 5 87 (Lv0.map d87) false true)), (80, some (.box [.d (.v (.int .i64 q.f0)), .d (.v (.int .i64 q.f1)), .d (.sl (q.f2.map dS))]))], 208⟩ hτ hmix (by kernel_rfl) (by kernel_rfl) rfl ?_
    refine X.if_ (b := decide ((v7 : Int) < ((q.f2.map dS).length : Int))) (by kernel_rfl) (fun hb4 => ?_) (fun hb4 => ?_)
    · replace hb4 := of_decide_eq_true (hb4)
      refine X.skip ?_
      refine X.seq ?_
      refine X.block ?_
      refine X.rs 9 hτ hmix (by kernel_rfl) ?_
      obtain ⟨x5, hx5⟩ : ∃ x, q.f2[Int.toNat v7]? = some x := ⟨_, List.getElem?_eq_getElem (by first | omega | (simp; done) | (simp; omega))⟩
      refine CH.idx hτ (dS x5) (rows := (q.f2.map dS)) (n := v7) (sz := 1) (by kernel_rfl) (by kernel_rfl) (by first | omega | (simp; done) | (simp; omega)) (by rw [List.getElem?_map, hx5]; rfl) (by kernel_rfl) ?_
      refine CH.go 3 hτ (by kernel_rfl) ?_
      have el6 : (Lv0.map d87).length = Lv0.length := List.length_map ..
      have el7 : (([(⟨1, e, q.f0, q.f1, x5⟩ : S87)] : List S87).map d87).length = ([(⟨1, e, q.f0, q.f1, x5⟩ : S87)] : List S87).length := List.length_map ..
      have el8 : ([(⟨1, e, q.f0, q.f1, x5⟩ : S87)] : List S87).length = 1 := rfl
      refine CH.app hτ (rows := (Lv0.map d87)) (rows2 := (([(⟨1, e, q.f0, q.f1, x5⟩ : S87)] : List S87).map d87)) (sz := 5) (bys := 48) true (by kernel_rfl) (by kernel_rfl) (fun _ => flat_d d87 (fun x => rfl)) (flat_ok (f := d87) (fun x => rfl)) (by simp only [List.length_map] <;> (first | done | omega | (simp; done) | (simp; omega))) (by kernel_rfl) ?_
      refine CH.go 1 hτ (by kernel_rfl) ?_
      refine CH.endk ⟨[(0, .e (.c (.ref 416))), (1, .e (.c (.d (.v (.int .i64 e))))), (5, .pt 80 0 0), (7, .e (.c (.d (.v (.int .i64 v7)))))], [(80, some (.box [.d (.v (.int .i64 q.f0)), .d (.v (.int .i64 q.f1)), .d (.sl (q.f2.map dS))])), (416, some (.row 5 87 ((Lv0.map d87) ++ (([(⟨1, e, q.f0, q.f1, x5⟩ : S87)] : List S87).map d87)) false true))], 448⟩ (by kernel_rfl) (by kernel_rfl) (s2 := ⟨[(0, .e (.c (.ref 416))), (1, .e (.c (.d (.v (.int .i64 e))))), (5, .pt 80 0 0), (7, .e (.c (.d (.v (.int .i64 v7)))))], [(80, some (.box [.d (.v (.int .i64 q.f0)), .d (.v (.int .i64 q.f1)), .d (.sl (q.f2.map dS))])), (416, some (.row 5 87 ((Lv0 ++ ([(⟨1, e, q.f0, q.f1, x5⟩ : S87)] : List S87)).map d87) false true))], 448⟩) (congrArg (fun z : List (List D) => (⟨[(0, .e (.c (.ref 416))), (1, .e (.c (.d (.v (.int .i64 e))))), (5, .pt 80 0 0), (7, .e (.c (.d (.v (.int .i64 v7)))))], [(80, some (.box [.d (.v (.int .i64 q.f0)), .d (.v (.int .i64 q.f1)), .d (.sl (q.f2.map dS))])), (416, some (.row 5 87 z false true))], 448⟩ : St)) (show (Lv0.map d87) ++ (([(⟨1, e, q.f0, q.f1, x5⟩ : S87)] : List S87).map d87) = ((Lv0 ++ ([(⟨1, e, q.f0, q.f1, x5⟩ : S87)] : List S87)).map d87) from List.map_append.symm)) ?_
      refine X.rk ⟨[(0, .e (.c (.ref 416))), (1, .e (.c (.d (.v (.int .i64 e))))), (5, .pt 80 0 0), (7, .e (.c (.d (.v (.int .i64 (wrap64 (v7 + 1)))))))], [(80, some (.box [.d (.v (.int .i64 q.f0)), .d (.v (.int .i64 q.f1)), .d (.sl (q.f2.map dS))])), (416, some (.row 5 87 ((Lv0 ++ ([(⟨1, e, q.f0, q.f1, x5⟩ : S87)] : List S87)).map d87) false true))], 496⟩ hτ hmix (by kernel_rfl) (by kernel_rfl) (s2 := ⟨[(0, .e (.c (.ref 416))), (1, .e (.c (.d (.v (.int .i64 e))))), (5, .pt 80 0 0), (7, .e (.c (.d (.v (.int .i64 (v7 + 1))))))], [(80, some (.box [.d (.v (.int .i64 q.f0)), .d (.v (.int .i64 q.f1)), .d (.sl (q.f2.map dS))])), (416, some (.row 5 87 ((Lv0 ++ ([(⟨1, e, q.f0, q.f1, x5⟩ : S87)] : List S87)).map d87) false true))], 496⟩) (congrArg (fun z : Int => (⟨[(0, .e (.c (.ref 416))), (1, .e (.c (.d (.v (.int .i64 e))))), (5, .pt 80 0 0), (7, .e (.c (.d (.v (.int .i64 z)))))], [(80, some (.box [.d (.v (.int .i64 q.f0)), .d (.v (.int .i64 q.f1)), .d (.sl (q.f2.map dS))])), (416, some (.row 5 87 ((Lv0 ++ ([(⟨1, e, q.f0, q.f1, x5⟩ : S87)] : List S87)).map d87) false true))], 496⟩ : St)) (show wrap64 (v7 + 1) = (v7 + 1) by rw [w64 (n := (v7 + 1)) (by omega) (by omega)])) ?_
      refine ⟨⟨((Lv0 ++ ([(⟨1, e, q.f0, q.f1, x5⟩ : S87)] : List S87)), (v7 + 1)), ⟨by first | omega | (dsimp only; omega), by first | omega | (dsimp only; omega), by simp only [List.length_append, List.length_cons, List.length_nil]; (first | omega | (dsimp only; omega)), app_take (by first | omega | (dsimp only; omega)) (qcSigs_at ‹_›) hq2⟩⟩, by first | exact rfl | omega | (dsimp only; omega) | (simp only [List.length_append, List.length_cons, List.length_nil, List.length_set]; omega) | (simp; done) | (simp; omega), Wk.mk' [(64, 416), (80, 80)] (by kernel_rfl) (by kernel_rfl) (by kernel_rfl)⟩
    · replace hb4 := of_decide_eq_false (hb4)
      refine X.exit ?_
      refine X.seq ?_
      have hln := qcSigs_len e q
      refine X.rk ⟨[(6, .e (.c (.ref 64)))], [(64, some (.row 5 87 (Lv0.map d87) false true))], 240⟩ hτ hmix (by kernel_rfl) (by kernel_rfl) rfl ?_
      refine X.ret ?_
      exact ⟨trivial, _, _, ⟨Lv0, (app_all (by omega) hq2), rfl, rfl⟩, .inl (Ret.mk' [(64, 64)] (by kernel_rfl) (by kernel_rfl) (by kernel_rfl))⟩
  obtain ⟨_, _, ⟨r0, q1, rfl, rfl⟩, hf⟩ := key
  exact ⟨r0, q1, hf⟩

theorem s_l13TcSigs (o : List S87) (e : Int) (t : S55) (ho : o.length ≤ 1000000000000) (ht : t.f1.length ≤ 2000000) (ht2 : t.f2.length ≤ 2000000) : ∃ r0 : List S87, (r0 = o ++ tcSigs e t) ∧ Fn Try.prog 115 [.e (.c (.ref 0)), .e (.c (.d (.v (.int .i64 e)))), .e (.agg [.d (.v (.int .i64 t.f0)), .d (.sl (t.f1.map dS)), .d (.sl (t.f2.map dI))])] (lookH [(0, some (.row 5 87 (o.map d87) false true))]) (.e (.c (.ref 64))) (lookH [(64, some (.row 5 87 (r0.map d87) false true))]) := by
  have key : ∃ x' h', ((fun x' h' => ∃ r0 : List S87, (r0 = o ++ tcSigs e t) ∧ x' = .e (.c (.ref 64)) ∧ h' = [(64, some (.row 5 87 (r0.map d87) false true))])) x' h' ∧ Fn Try.prog 115 [.e (.c (.ref 0)), .e (.c (.d (.v (.int .i64 e)))), .e (.agg [.d (.v (.int .i64 t.f0)), .d (.sl (t.f1.map dS)), .d (.sl (t.f2.map dI))])] (lookH [(0, some (.row 5 87 (o.map d87) false true))]) x' (lookH h') := by
    refine Fn.bodyX (N := 40) hτ Try.func115 rfl rfl rfl rfl ?_
    refine X.weak (Wk.mk' [(64, 0)] (s' := ⟨[(0, .e (.c (.ref 64))), (1, .e (.c (.d (.v (.int .i64 e))))), (2, .e (.agg [.d (.v (.int .i64 t.f0)), .d (.sl (t.f1.map dS)), .d (.sl (t.f2.map dI))]))], [(64, some (.row 5 87 (o.map d87) false true))], 80⟩) (by kernel_rfl) (by kernel_rfl) (by kernel_rfl)) ?_
    refine X.seq ?_
    refine X.rk ⟨[(0, .e (.c (.ref 64))), (1, .e (.c (.d (.v (.int .i64 e))))), (5, .pt 80 0 0)], [(64, some (.row 5 87 (o.map d87) false true)), (80, some (.box [.d (.v (.int .i64 t.f0)), .d (.sl (t.f1.map dS)), .d (.sl (t.f2.map dI))]))], 112⟩ hτ hmix (by kernel_rfl) (by kernel_rfl) rfl ?_
    refine X.seq ?_
    refine X.seq ?_
    refine X.rk ⟨[(0, .e (.c (.ref 64))), (1, .e (.c (.d (.v (.int .i64 e))))), (5, .pt 80 0 0), (7, .e (.c (.d (.v (.int .i64 0)))))], [(64, some (.row 5 87 (o.map d87) false true)), (80, some (.box [.d (.v (.int .i64 t.f0)), .d (.sl (t.f1.map dS)), .d (.sl (t.f2.map dI))]))], 128⟩ hτ hmix (by kernel_rfl) (by kernel_rfl) rfl ?_
    refine X.block ?_
    -- 2: Lv0 : List S87, v7 : Int
    refine X.loop (σ := { g : (List S87) × Int // (fun (Lv0 : List S87) (v7 : Int) => 0 ≤ v7 ∧ v7 ≤ 2000000 ∧ Lv0.length ≤ o.length + v7.toNat ∧ Lv0 = o ++ (tcSigs e t).take v7.toNat) g.1 g.2 }) (fun g => (fun (Lv0 : List S87) (v7 : Int) => ⟨[(0, .e (.c (.ref 64))), (1, .e (.c (.d (.v (.int .i64 e))))), (5, .pt 80 0 0), (7, .e (.c (.d (.v (.int .i64 v7)))))], [(64, some (.row 5 87 (Lv0.map d87) false true)), (80, some (.box [.d (.v (.int .i64 t.f0)), .d (.sl (t.f1.map dS)), .d (.sl (t.f2.map dI))]))], 128⟩) g.1.1 g.1.2) (fun g => (fun (Lv0 : List S87) (v7 : Int) => (t.f1.length - v7).toNat) g.1.1 g.1.2) ⟨(o, 0), ⟨by first | omega | (dsimp only; omega), by first | omega | (dsimp only; omega), by simp, by simp⟩⟩ (Wk.less (by kernel_rfl)) (fun g => ?_)
    obtain ⟨⟨Lv0, v7⟩, hg2⟩ := g
    have hg2 : 0 ≤ v7 ∧ v7 ≤ 2000000 ∧ Lv0.length ≤ o.length + v7.toNat ∧ Lv0 = o ++ (tcSigs e t).take v7.toNat := hg2
    obtain ⟨_, _, _, hq2⟩ := hg2
    refine X.seq ?_
    refine X.seq ?_
    have el3 : (t.f1.map dS).length = t.f1.length := List.length_map ..
    refine X.rs 6 hτ hmix (by kernel_rfl) ?_
    rcases Bool.eq_false_or_eq_true (decide ((v7 : Int) < ((t.f1.map dS).length : Int))) with hb4 | hb4
    · refine CH.alt 12 (sV (.bool (decide ((v7 : Int) < ((t.f1.map dS).length : Int))))) (sV (.bool true)) (by kernel_rfl) (by rw [hb4]) ?_
      refine CH.alt 13 (sV (.bool (decide ((v7 : Int) < ((t.f1.map dS).length : Int))))) (sV (.bool true)) (by kernel_rfl) (by rw [hb4]) ?_
      replace hb4 := of_decide_eq_true (hb4)
      refine CH.go 6 hτ (by kernel_rfl) ?_
      have el5 : (t.f2.map dI).length = t.f2.length := List.length_map ..
      refine CH.endk ⟨[(0, .e (.c (.ref 64))), (1, .e (.c (.d (.v (.int .i64 e))))), (5, .pt 80 0 0), (7, .e (.c (.d (.v (.int .i64 v7))))), (19, .e (.c (.d (.v (.bool (decide ((v7 : Int) < ((t.f2.map dI).length : Int))))))))], [(64, some (.row 5 87 (Lv0.map d87) false true)), (80, some (.box [.d (.v (.int .i64 t.f0)), .d (.sl (t.f1.map dS)), .d (.sl (t.f2.map dI))]))], 320⟩ (by kernel_rfl) (by kernel_rfl) rfl ?_
      refine X.if_ (b := decide ((v7 : Int) < ((t.f2.map dI).length : Int))) (by kernel_rfl) (fun hb6 => ?_) (fun hb6 => ?_)
      · replace hb6 := of_decide_eq_true (hb6)
        refine X.skip ?_
        refine X.seq ?_
        refine X.block ?_
        refine X.rs 7 hτ hmix (by kernel_rfl) ?_
        obtain ⟨x7, hx7⟩ : ∃ x, t.f2[Int.toNat v7]? = some x := ⟨_, List.getElem?_eq_getElem (by first | omega | (simp; done) | (simp; omega))⟩
        refine CH.idx hτ (dI x7) (rows := (t.f2.map dI)) (n := v7) (sz := 1) (by kernel_rfl) (by kernel_rfl) (by first | omega | (simp; done) | (simp; omega)) (by rw [List.getElem?_map, hx7]; rfl) (by kernel_rfl) ?_
        refine CH.go 4 hτ (by kernel_rfl) ?_
        obtain ⟨x8, hx8⟩ : ∃ x, t.f1[Int.toNat v7]? = some x := ⟨_, List.getElem?_eq_getElem (by first | omega | (simp; done) | (simp; omega))⟩
        refine CH.idx hτ (dS x8) (rows := (t.f1.map dS)) (n := v7) (sz := 1) (by kernel_rfl) (by kernel_rfl) (by first | omega | (simp; done) | (simp; omega)) (by rw [List.getElem?_map, hx8]; rfl) (by kernel_rfl) ?_
        refine CH.go 3 hτ (by kernel_rfl) ?_
        have el9 : (Lv0.map d87).length = Lv0.length := List.length_map ..
        have el10 : (([(⟨2, e, t.f0, x7, x8⟩ : S87)] : List S87).map d87).length = ([(⟨2, e, t.f0, x7, x8⟩ : S87)] : List S87).length := List.length_map ..
        have el11 : ([(⟨2, e, t.f0, x7, x8⟩ : S87)] : List S87).length = 1 := rfl
        refine CH.app hτ (rows := (Lv0.map d87)) (rows2 := (([(⟨2, e, t.f0, x7, x8⟩ : S87)] : List S87).map d87)) (sz := 5) (bys := 48) true (by kernel_rfl) (by kernel_rfl) (fun _ => flat_d d87 (fun x => rfl)) (flat_ok (f := d87) (fun x => rfl)) (by simp only [List.length_map] <;> (first | done | omega | (simp; done) | (simp; omega))) (by kernel_rfl) ?_
        refine CH.go 1 hτ (by kernel_rfl) ?_
        refine CH.endk ⟨[(0, .e (.c (.ref 576))), (1, .e (.c (.d (.v (.int .i64 e))))), (5, .pt 80 0 0), (7, .e (.c (.d (.v (.int .i64 v7)))))], [(80, some (.box [.d (.v (.int .i64 t.f0)), .d (.sl (t.f1.map dS)), .d (.sl (t.f2.map dI))])), (576, some (.row 5 87 ((Lv0.map d87) ++ (([(⟨2, e, t.f0, x7, x8⟩ : S87)] : List S87).map d87)) false true))], 608⟩ (by kernel_rfl) (by kernel_rfl) (s2 := ⟨[(0, .e (.c (.ref 576))), (1, .e (.c (.d (.v (.int .i64 e))))), (5, .pt 80 0 0), (7, .e (.c (.d (.v (.int .i64 v7)))))], [(80, some (.box [.d (.v (.int .i64 t.f0)), .d (.sl (t.f1.map dS)), .d (.sl (t.f2.map dI))])), (576, some (.row 5 87 ((Lv0 ++ ([(⟨2, e, t.f0, x7, x8⟩ : S87)] : List S87)).map d87) false true))], 608⟩) (congrArg (fun z : List (List D) => (⟨[(0, .e (.c (.ref 576))), (1, .e (.c (.d (.v (.int .i64 e))))), (5, .pt 80 0 0), (7, .e (.c (.d (.v (.int .i64 v7)))))], [(80, some (.box [.d (.v (.int .i64 t.f0)), .d (.sl (t.f1.map dS)), .d (.sl (t.f2.map dI))])), (576, some (.row 5 87 z false true))], 608⟩ : St)) (show (Lv0.map d87) ++ (([(⟨2, e, t.f0, x7, x8⟩ : S87)] : List S87).map d87) = ((Lv0 ++ ([(⟨2, e, t.f0, x7, x8⟩ : S87)] : List S87)).map d87) from List.map_append.symm)) ?_
        refine X.rk ⟨[(0, .e (.c (.ref 576))), (1, .e (.c (.d (.v (.int .i64 e))))), (5, .pt 80 0 0), (7, .e (.c (.d (.v (.int .i64 (wrap64 (v7 + 1)))))))], [(80, some (.box [.d (.v (.int .i64 t.f0)), .d (.sl (t.f1.map dS)), .d (.sl (t.f2.map dI))])), (576, some (.row 5 87 ((Lv0 ++ ([(⟨2, e, t.f0, x7, x8⟩ : S87)] : List S87)).map d87) false true))], 656⟩ hτ hmix (by kernel_rfl) (by kernel_rfl) (s2 := ⟨[(0, .e (.c (.ref 576))), (1, .e (.c (.d (.v (.int .i64 e))))), (5, .pt 80 0 0), (7, .e (.c (.d (.v (.int .i64 (v7 + 1))))))], [(80, some (.box [.d (.v (.int .i64 t.f0)), .d (.sl (t.f1.map dS)), .d (.sl (t.f2.map dI))])), (576, some (.row 5 87 ((Lv0 ++ ([(⟨2, e, t.f0, x7, x8⟩ : S87)] : List S87)).map d87) false true))], 656⟩) (congrArg (fun z : Int => (⟨[(0, .e (.c (.ref 576))), (1, .e (.c (.d (.v (.int .i64 e))))), (5, .pt 80 0 0), (7, .e (.c (.d (.v (.int .i64 z)))))], [(80, some (.box [.d (.v (.int .i64 t.f0)), .d (.sl (t.f1.map dS)), .d (.sl (t.f2.map dI))])), (576, some (.row 5 87 ((Lv0 ++ ([(⟨2, e, t.f0, x7, x8⟩ : S87)] : List S87)).map d87) false true))], 656⟩ : St)) (show wrap64 (v7 + 1) = (v7 + 1) by rw [w64 (n := (v7 + 1)) (by omega) (by omega)])) ?_
        refine ⟨⟨((Lv0 ++ ([(⟨2, e, t.f0, x7, x8⟩ : S87)] : List S87)), (v7 + 1)), ⟨by first | omega | (dsimp only; omega), by first | omega | (dsimp only; omega), by simp only [List.length_append, List.length_cons, List.length_nil]; (first | omega | (dsimp only; omega)), app_take (by first | omega | (dsimp only; omega)) (tcSigs_at ‹_› ‹_›) hq2⟩⟩, by first | exact rfl | omega | (dsimp only; omega) | (simp only [List.length_append, List.length_cons, List.length_nil, List.length_set]; omega) | (simp; done) | (simp; omega), Wk.mk' [(64, 576), (80, 80)] (by kernel_rfl) (by kernel_rfl) (by kernel_rfl)⟩
      · replace hb6 := of_decide_eq_false (hb6)
        refine X.exit ?_
        refine X.seq ?_
        have hlt := tcSigs_len e t
        refine X.rk ⟨[(6, .e (.c (.ref 64)))], [(64, some (.row 5 87 (Lv0.map d87) false true))], 352⟩ hτ hmix (by kernel_rfl) (by kernel_rfl) rfl ?_
        refine X.ret ?_
        exact ⟨trivial, _, _, ⟨Lv0, (app_all (by omega) hq2), rfl, rfl⟩, .inl (Ret.mk' [(64, 64)] (by kernel_rfl) (by kernel_rfl) (by kernel_rfl))⟩
    · refine CH.alt 12 (sV (.bool (decide ((v7 : Int) < ((t.f1.map dS).length : Int))))) (sV (.bool false)) (by kernel_rfl) (by rw [hb4]) ?_
      refine CH.alt 13 (sV (.bool (decide ((v7 : Int) < ((t.f1.map dS).length : Int))))) (sV (.bool false)) (by kernel_rfl) (by rw [hb4]) ?_
      replace hb4 := of_decide_eq_false (hb4)
      refine CH.go 6 hτ (by kernel_rfl) ?_
      refine CH.endk ⟨[(0, .e (.c (.ref 64))), (1, .e (.c (.d (.v (.int .i64 e))))), (5, .pt 80 0 0), (7, .e (.c (.d (.v (.int .i64 v7))))), (19, .e (.c (.d (.v (.bool false)))))], [(64, some (.row 5 87 (Lv0.map d87) false true)), (80, some (.box [.d (.v (.int .i64 t.f0)), .d (.sl (t.f1.map dS)), .d (.sl (t.f2.map dI))]))], 320⟩ (by kernel_rfl) (by kernel_rfl) rfl ?_
      refine X.ifF (by kernel_rfl) ?_
      refine X.exit ?_
      refine X.seq ?_
      have hlt := tcSigs_len e t
      refine X.rk ⟨[(6, .e (.c (.ref 64)))], [(64, some (.row 5 87 (Lv0.map d87) false true))], 352⟩ hτ hmix (by kernel_rfl) (by kernel_rfl) rfl ?_
      refine X.ret ?_
      exact ⟨trivial, _, _, ⟨Lv0, (app_all (by omega) hq2), rfl, rfl⟩, .inl (Ret.mk' [(64, 64)] (by kernel_rfl) (by kernel_rfl) (by kernel_rfl))⟩
  obtain ⟨_, _, ⟨r0, q1, rfl, rfl⟩, hf⟩ := key
  exact ⟨r0, q1, hf⟩

theorem s_l13VoteSig (e : Int) (v : S76) : ∃ r0 : S87, (r0 = (⟨1, e, v.f0, v.f1, v.f2⟩ : S87)) ∧ Fn Try.prog 113 [.e (.c (.d (.v (.int .i64 e)))), .e (.agg [.d (.v (.int .i64 v.f0)), .d (.v (.int .i64 v.f1)), .d (.v (.string v.f2))])] (lookH []) (.e (.agg [.d (.v (.int .i64 r0.f0)), .d (.v (.int .i64 r0.f1)), .d (.v (.int .i64 r0.f2)), .d (.v (.int .i64 r0.f3)), .d (.v (.string r0.f4))])) (lookH []) := by
  have key : ∃ x' h', ((fun x' h' => ∃ r0 : S87, (r0 = (⟨1, e, v.f0, v.f1, v.f2⟩ : S87)) ∧ x' = .e (.agg [.d (.v (.int .i64 r0.f0)), .d (.v (.int .i64 r0.f1)), .d (.v (.int .i64 r0.f2)), .d (.v (.int .i64 r0.f3)), .d (.v (.string r0.f4))]) ∧ h' = [])) x' h' ∧ Fn Try.prog 113 [.e (.c (.d (.v (.int .i64 e)))), .e (.agg [.d (.v (.int .i64 v.f0)), .d (.v (.int .i64 v.f1)), .d (.v (.string v.f2))])] (lookH []) x' (lookH h') := by
    refine Fn.bodyX (N := 13) hτ Try.func113 rfl rfl rfl rfl ?_
    refine X.seq ?_
    refine X.rk ⟨[(0, .e (.c (.d (.v (.int .i64 e))))), (3, .pt 64 0 0), (4, .pt 80 0 0)], [(64, some (.box [.d (.v (.int .i64 v.f0)), .d (.v (.int .i64 v.f1)), .d (.v (.string v.f2))])), (80, some (.box [.d (.v (.int .i64 0)), .d (.v (.int .i64 0)), .d (.v (.int .i64 0)), .d (.v (.int .i64 0)), .d (.v (.string (⟨#[]⟩ : ByteArray)))]))], 96⟩ hτ hmix (by kernel_rfl) (by kernel_rfl) rfl ?_
    refine X.seq ?_
    refine X.rk ⟨[(4, .pt 80 0 0)], [(80, some (.box [.d (.v (.int .i64 1)), .d (.v (.int .i64 e)), .d (.v (.int .i64 v.f0)), .d (.v (.int .i64 v.f1)), .d (.v (.string v.f2))]))], 240⟩ hτ hmix (by kernel_rfl) (by kernel_rfl) rfl ?_
    refine X.ret ?_
    exact ⟨trivial, _, _, ⟨(⟨1, e, v.f0, v.f1, v.f2⟩ : S87), rfl, rfl, rfl⟩, .inl (Ret.mk' [] (by kernel_rfl) (by kernel_rfl) (by kernel_rfl))⟩
  obtain ⟨_, _, ⟨r0, q1, rfl, rfl⟩, hf⟩ := key
  exact ⟨r0, q1, hf⟩

theorem s_l13GoneSig (e : Int) (v : S78) : ∃ r0 : S87, (r0 = (⟨2, e, v.f0, v.f1, v.f2⟩ : S87)) ∧ Fn Try.prog 114 [.e (.c (.d (.v (.int .i64 e)))), .e (.agg [.d (.v (.int .i64 v.f0)), .d (.v (.int .i64 v.f1)), .d (.v (.string v.f2))])] (lookH []) (.e (.agg [.d (.v (.int .i64 r0.f0)), .d (.v (.int .i64 r0.f1)), .d (.v (.int .i64 r0.f2)), .d (.v (.int .i64 r0.f3)), .d (.v (.string r0.f4))])) (lookH []) := by
  have key : ∃ x' h', ((fun x' h' => ∃ r0 : S87, (r0 = (⟨2, e, v.f0, v.f1, v.f2⟩ : S87)) ∧ x' = .e (.agg [.d (.v (.int .i64 r0.f0)), .d (.v (.int .i64 r0.f1)), .d (.v (.int .i64 r0.f2)), .d (.v (.int .i64 r0.f3)), .d (.v (.string r0.f4))]) ∧ h' = [])) x' h' ∧ Fn Try.prog 114 [.e (.c (.d (.v (.int .i64 e)))), .e (.agg [.d (.v (.int .i64 v.f0)), .d (.v (.int .i64 v.f1)), .d (.v (.string v.f2))])] (lookH []) x' (lookH h') := by
    refine Fn.bodyX (N := 13) hτ Try.func114 rfl rfl rfl rfl ?_
    refine X.seq ?_
    refine X.rk ⟨[(0, .e (.c (.d (.v (.int .i64 e))))), (3, .pt 64 0 0), (4, .pt 80 0 0)], [(64, some (.box [.d (.v (.int .i64 v.f0)), .d (.v (.int .i64 v.f1)), .d (.v (.string v.f2))])), (80, some (.box [.d (.v (.int .i64 0)), .d (.v (.int .i64 0)), .d (.v (.int .i64 0)), .d (.v (.int .i64 0)), .d (.v (.string (⟨#[]⟩ : ByteArray)))]))], 96⟩ hτ hmix (by kernel_rfl) (by kernel_rfl) rfl ?_
    refine X.seq ?_
    refine X.rk ⟨[(4, .pt 80 0 0)], [(80, some (.box [.d (.v (.int .i64 2)), .d (.v (.int .i64 e)), .d (.v (.int .i64 v.f0)), .d (.v (.int .i64 v.f1)), .d (.v (.string v.f2))]))], 240⟩ hτ hmix (by kernel_rfl) (by kernel_rfl) rfl ?_
    refine X.ret ?_
    exact ⟨trivial, _, _, ⟨(⟨2, e, v.f0, v.f1, v.f2⟩ : S87), rfl, rfl, rfl⟩, .inl (Ret.mk' [] (by kernel_rfl) (by kernel_rfl) (by kernel_rfl))⟩
  obtain ⟨_, _, ⟨r0, q1, rfl, rfl⟩, hf⟩ := key
  exact ⟨r0, q1, hf⟩

theorem i_voteSig (e : Int) (v : S76) : ∃ r0 : S87, (r0 = (⟨1, e, v.f0, v.f1, v.f2⟩ : S87)) ∧ Fn Try.prog 105 [.e (.c (.d (.v (.int .i64 e)))), .e (.agg [.d (.v (.int .i64 v.f0)), .d (.v (.int .i64 v.f1)), .d (.v (.string v.f2))])] (lookH []) (.e (.agg [.d (.v (.int .i64 r0.f0)), .d (.v (.int .i64 r0.f1)), .d (.v (.int .i64 r0.f2)), .d (.v (.int .i64 r0.f3)), .d (.v (.string r0.f4))])) (lookH []) := by
  have key : ∃ x' h', ((fun x' h' => ∃ r0 : S87, (r0 = (⟨1, e, v.f0, v.f1, v.f2⟩ : S87)) ∧ x' = .e (.agg [.d (.v (.int .i64 r0.f0)), .d (.v (.int .i64 r0.f1)), .d (.v (.int .i64 r0.f2)), .d (.v (.int .i64 r0.f3)), .d (.v (.string r0.f4))]) ∧ h' = [])) x' h' ∧ Fn Try.prog 105 [.e (.c (.d (.v (.int .i64 e)))), .e (.agg [.d (.v (.int .i64 v.f0)), .d (.v (.int .i64 v.f1)), .d (.v (.string v.f2))])] (lookH []) x' (lookH h') := by
    refine Fn.bodyX (N := 13) hτ Try.func105 rfl rfl rfl rfl ?_
    refine X.seq ?_
    refine X.rk ⟨[(0, .e (.c (.d (.v (.int .i64 e))))), (3, .pt 64 0 0), (4, .pt 80 0 0)], [(64, some (.box [.d (.v (.int .i64 v.f0)), .d (.v (.int .i64 v.f1)), .d (.v (.string v.f2))])), (80, some (.box [.d (.v (.int .i64 0)), .d (.v (.int .i64 0)), .d (.v (.int .i64 0)), .d (.v (.int .i64 0)), .d (.v (.string (⟨#[]⟩ : ByteArray)))]))], 96⟩ hτ hmix (by kernel_rfl) (by kernel_rfl) rfl ?_
    refine X.seq ?_
    refine X.rk ⟨[(4, .pt 80 0 0)], [(80, some (.box [.d (.v (.int .i64 1)), .d (.v (.int .i64 e)), .d (.v (.int .i64 v.f0)), .d (.v (.int .i64 v.f1)), .d (.v (.string v.f2))]))], 240⟩ hτ hmix (by kernel_rfl) (by kernel_rfl) rfl ?_
    refine X.ret ?_
    exact ⟨trivial, _, _, ⟨(⟨1, e, v.f0, v.f1, v.f2⟩ : S87), rfl, rfl, rfl⟩, .inl (Ret.mk' [] (by kernel_rfl) (by kernel_rfl) (by kernel_rfl))⟩
  obtain ⟨_, _, ⟨r0, q1, rfl, rfl⟩, hf⟩ := key
  exact ⟨r0, q1, hf⟩

theorem i_goneSig (e : Int) (v : S78) : ∃ r0 : S87, (r0 = (⟨2, e, v.f0, v.f1, v.f2⟩ : S87)) ∧ Fn Try.prog 106 [.e (.c (.d (.v (.int .i64 e)))), .e (.agg [.d (.v (.int .i64 v.f0)), .d (.v (.int .i64 v.f1)), .d (.v (.string v.f2))])] (lookH []) (.e (.agg [.d (.v (.int .i64 r0.f0)), .d (.v (.int .i64 r0.f1)), .d (.v (.int .i64 r0.f2)), .d (.v (.int .i64 r0.f3)), .d (.v (.string r0.f4))])) (lookH []) := by
  have key : ∃ x' h', ((fun x' h' => ∃ r0 : S87, (r0 = (⟨2, e, v.f0, v.f1, v.f2⟩ : S87)) ∧ x' = .e (.agg [.d (.v (.int .i64 r0.f0)), .d (.v (.int .i64 r0.f1)), .d (.v (.int .i64 r0.f2)), .d (.v (.int .i64 r0.f3)), .d (.v (.string r0.f4))]) ∧ h' = [])) x' h' ∧ Fn Try.prog 106 [.e (.c (.d (.v (.int .i64 e)))), .e (.agg [.d (.v (.int .i64 v.f0)), .d (.v (.int .i64 v.f1)), .d (.v (.string v.f2))])] (lookH []) x' (lookH h') := by
    refine Fn.bodyX (N := 13) hτ Try.func106 rfl rfl rfl rfl ?_
    refine X.seq ?_
    refine X.rk ⟨[(0, .e (.c (.d (.v (.int .i64 e))))), (3, .pt 64 0 0), (4, .pt 80 0 0)], [(64, some (.box [.d (.v (.int .i64 v.f0)), .d (.v (.int .i64 v.f1)), .d (.v (.string v.f2))])), (80, some (.box [.d (.v (.int .i64 0)), .d (.v (.int .i64 0)), .d (.v (.int .i64 0)), .d (.v (.int .i64 0)), .d (.v (.string (⟨#[]⟩ : ByteArray)))]))], 96⟩ hτ hmix (by kernel_rfl) (by kernel_rfl) rfl ?_
    refine X.seq ?_
    refine X.rk ⟨[(4, .pt 80 0 0)], [(80, some (.box [.d (.v (.int .i64 2)), .d (.v (.int .i64 e)), .d (.v (.int .i64 v.f0)), .d (.v (.int .i64 v.f1)), .d (.v (.string v.f2))]))], 240⟩ hτ hmix (by kernel_rfl) (by kernel_rfl) rfl ?_
    refine X.ret ?_
    exact ⟨trivial, _, _, ⟨(⟨2, e, v.f0, v.f1, v.f2⟩ : S87), rfl, rfl, rfl⟩, .inl (Ret.mk' [] (by kernel_rfl) (by kernel_rfl) (by kernel_rfl))⟩
  obtain ⟨_, _, ⟨r0, q1, rfl, rfl⟩, hf⟩ := key
  exact ⟨r0, q1, hf⟩

theorem i_qcSigs (e : Int) (q : S31) (hq : q.f2.length ≤ 2000000) : ∃ r0 : List S87, (r0 = qcSigs e q) ∧ Fn Try.prog 107 [.e (.c (.d (.v (.int .i64 e)))), .e (.agg [.d (.v (.int .i64 q.f0)), .d (.v (.int .i64 q.f1)), .d (.sl (q.f2.map dS))])] (lookH []) (.e (.c (.f (.sl (r0.map d87))))) (lookH []) := by
  have key : ∃ x' h', ((fun x' h' => ∃ r0 : List S87, (r0 = qcSigs e q) ∧ x' = .e (.c (.f (.sl (r0.map d87)))) ∧ h' = [])) x' h' ∧ Fn Try.prog 107 [.e (.c (.d (.v (.int .i64 e)))), .e (.agg [.d (.v (.int .i64 q.f0)), .d (.v (.int .i64 q.f1)), .d (.sl (q.f2.map dS))])] (lookH []) x' (lookH h') := by
    refine Fn.bodyX (N := 27) hτ Try.func107 rfl rfl rfl rfl ?_
    refine X.seq ?_
    refine X.rk ⟨[(0, .e (.c (.d (.v (.int .i64 e))))), (3, .pt 64 0 0)], [(64, some (.box [.d (.v (.int .i64 q.f0)), .d (.v (.int .i64 q.f1)), .d (.sl (q.f2.map dS))]))], 96⟩ hτ hmix (by kernel_rfl) (by kernel_rfl) rfl ?_
    refine X.seq ?_
    refine X.rk ⟨[(0, .e (.c (.d (.v (.int .i64 e))))), (3, .pt 64 0 0), (5, .e (.c (.nil)))], [(64, some (.box [.d (.v (.int .i64 q.f0)), .d (.v (.int .i64 q.f1)), .d (.sl (q.f2.map dS))]))], 112⟩ hτ hmix (by kernel_rfl) (by kernel_rfl) rfl ?_
    refine X.seq ?_
    refine X.seq ?_
    have el1 : (q.f2.map dS).length = q.f2.length := List.length_map ..
    refine X.rk ⟨[(0, .e (.c (.d (.v (.int .i64 e))))), (3, .pt 64 0 0), (5, .e (.c (.nil))), (9, .e (.c (.d (.sl (q.f2.map dS))))), (10, .e (.c (.d (.v (.int .i64 ((q.f2.map dS).length : Int)))))), (11, .e (.c (.d (.v (.int .i64 0)))))], [(64, some (.box [.d (.v (.int .i64 q.f0)), .d (.v (.int .i64 q.f1)), .d (.sl (q.f2.map dS))]))], 176⟩ hτ hmix (by kernel_rfl) (by kernel_rfl) rfl ?_
    refine X.block ?_
    refine X.weak (Wk.ownT 5 5 87 (by kernel_rfl) (by kernel_rfl) (by kernel_rfl)) ?_
    -- 3: Lv5 : List S87, v11 : Int
    refine X.loop (σ := { g : (List S87) × Int // (fun (Lv5 : List S87) (v11 : Int) => 0 ≤ v11 ∧ v11 ≤ q.f2.length ∧ Lv5.length = v11.toNat ∧ Lv5 = [] ++ (qcSigs e q).take v11.toNat) g.1 g.2 }) (fun g => (fun (Lv5 : List S87) (v11 : Int) => ⟨[(0, .e (.c (.d (.v (.int .i64 e))))), (3, .pt 64 0 0), (5, .e (.c (.ref 176))), (9, .e (.c (.d (.sl (q.f2.map dS))))), (10, .e (.c (.d (.v (.int .i64 ((q.f2.map dS).length : Int)))))), (11, .e (.c (.d (.v (.int .i64 v11)))))], [(64, some (.box [.d (.v (.int .i64 q.f0)), .d (.v (.int .i64 q.f1)), .d (.sl (q.f2.map dS))])), (176, some (.row 5 87 (Lv5.map d87) false true))], 192⟩) g.1.1 g.1.2) (fun g => (fun (Lv5 : List S87) (v11 : Int) => (q.f2.length - v11).toNat) g.1.1 g.1.2) ⟨([], 0), ⟨by first | omega | (dsimp only; omega), by first | omega | (dsimp only; omega), by simp, by simp⟩⟩ (Wk.less (by kernel_rfl)) (fun g => ?_)
    obtain ⟨⟨Lv5, v11⟩, hg3⟩ := g
    have hg3 : 0 ≤ v11 ∧ v11 ≤ q.f2.length ∧ Lv5.length = v11.toNat ∧ Lv5 = [] ++ (qcSigs e q).take v11.toNat := hg3
    obtain ⟨_, _, _, hq2⟩ := hg3
    refine X.seq ?_
    refine X.rk ⟨[(0, .e (.c (.d (.v (.int .i64 e))))), (3, .pt 64 0 0), (5, .e (.c (.ref 176))), (9, .e (.c (.d (.sl (q.f2.map dS))))), (10, .e (.c (.d (.v (.int .i64 ((q.f2.map dS).length : Int)))))), (11, .e (.c (.d (.v (.int .i64 v11))))), (12, .e (.c (.d (.v (.bool (decide ((v11 : Int) < ((q.f2.map dS).length : Int))))))))], [(64, some (.box [.d (.v (.int .i64 q.f0)), .d (.v (.int .i64 q.f1)), .d (.sl (q.f2.map dS))])), (176, some (.row 5 87 (Lv5.map d87) false true))], 208⟩ hτ hmix (by kernel_rfl) (by kernel_rfl) rfl ?_
    refine X.seq ?_
    refine X.if_ (b := decide ((v11 : Int) < ((q.f2.map dS).length : Int))) (by kernel_rfl) (fun hb4 => ?_) (fun hb4 => ?_)
    · replace hb4 := of_decide_eq_true (hb4)
      refine X.skip ?_
      refine X.seq ?_
      refine X.block ?_
      refine X.seq ?_
      refine X.rs 0 hτ hmix (by kernel_rfl) ?_
      obtain ⟨x5, hx5⟩ : ∃ x, q.f2[Int.toNat v11]? = some x := ⟨_, List.getElem?_eq_getElem (by first | omega | (simp; done) | (simp; omega))⟩
      refine CH.idx hτ (dS x5) (rows := (q.f2.map dS)) (n := v11) (sz := 1) (by kernel_rfl) (by kernel_rfl) (by first | omega | (simp; done) | (simp; omega)) (by rw [List.getElem?_map, hx5]; rfl) (by kernel_rfl) ?_
      refine CH.go 2 hτ (by kernel_rfl) ?_
      refine CH.endk ⟨[(0, .e (.c (.d (.v (.int .i64 e))))), (3, .pt 64 0 0), (5, .e (.c (.ref 176))), (7, .e (.c (.d (.v (.string x5))))), (9, .e (.c (.d (.sl (q.f2.map dS))))), (10, .e (.c (.d (.v (.int .i64 ((q.f2.map dS).length : Int)))))), (11, .e (.c (.d (.v (.int .i64 v11)))))], [(64, some (.box [.d (.v (.int .i64 q.f0)), .d (.v (.int .i64 q.f1)), .d (.sl (q.f2.map dS))])), (176, some (.row 5 87 (Lv5.map d87) false true))], 256⟩ (by kernel_rfl) (by kernel_rfl) rfl ?_
      refine X.rs 9 hτ hmix (by kernel_rfl) ?_
      have el6 : (Lv5.map d87).length = Lv5.length := List.length_map ..
      have el7 : (([(⟨1, e, q.f0, q.f1, x5⟩ : S87)] : List S87).map d87).length = ([(⟨1, e, q.f0, q.f1, x5⟩ : S87)] : List S87).length := List.length_map ..
      have el8 : ([(⟨1, e, q.f0, q.f1, x5⟩ : S87)] : List S87).length = 1 := rfl
      refine CH.app hτ (rows := (Lv5.map d87)) (rows2 := (([(⟨1, e, q.f0, q.f1, x5⟩ : S87)] : List S87).map d87)) (sz := 5) (bys := 48) true (by kernel_rfl) (by kernel_rfl) (fun _ => flat_d d87 (fun x => rfl)) (flat_ok (f := d87) (fun x => rfl)) (by simp only [List.length_map] <;> (first | done | omega | (simp; done) | (simp; omega))) (by kernel_rfl) ?_
      refine CH.go 1 hτ (by kernel_rfl) ?_
      refine CH.endk ⟨[(0, .e (.c (.d (.v (.int .i64 e))))), (3, .pt 64 0 0), (5, .e (.c (.ref 400))), (9, .e (.c (.d (.sl (q.f2.map dS))))), (10, .e (.c (.d (.v (.int .i64 ((q.f2.map dS).length : Int)))))), (11, .e (.c (.d (.v (.int .i64 v11)))))], [(64, some (.box [.d (.v (.int .i64 q.f0)), .d (.v (.int .i64 q.f1)), .d (.sl (q.f2.map dS))])), (400, some (.row 5 87 ((Lv5.map d87) ++ (([(⟨1, e, q.f0, q.f1, x5⟩ : S87)] : List S87).map d87)) false true))], 432⟩ (by kernel_rfl) (by kernel_rfl) (s2 := ⟨[(0, .e (.c (.d (.v (.int .i64 e))))), (3, .pt 64 0 0), (5, .e (.c (.ref 400))), (9, .e (.c (.d (.sl (q.f2.map dS))))), (10, .e (.c (.d (.v (.int .i64 ((q.f2.map dS).length : Int)))))), (11, .e (.c (.d (.v (.int .i64 v11)))))], [(64, some (.box [.d (.v (.int .i64 q.f0)), .d (.v (.int .i64 q.f1)), .d (.sl (q.f2.map dS))])), (400, some (.row 5 87 ((Lv5 ++ ([(⟨1, e, q.f0, q.f1, x5⟩ : S87)] : List S87)).map d87) false true))], 432⟩) (congrArg (fun z : List (List D) => (⟨[(0, .e (.c (.d (.v (.int .i64 e))))), (3, .pt 64 0 0), (5, .e (.c (.ref 400))), (9, .e (.c (.d (.sl (q.f2.map dS))))), (10, .e (.c (.d (.v (.int .i64 ((q.f2.map dS).length : Int)))))), (11, .e (.c (.d (.v (.int .i64 v11)))))], [(64, some (.box [.d (.v (.int .i64 q.f0)), .d (.v (.int .i64 q.f1)), .d (.sl (q.f2.map dS))])), (400, some (.row 5 87 z false true))], 432⟩ : St)) (show (Lv5.map d87) ++ (([(⟨1, e, q.f0, q.f1, x5⟩ : S87)] : List S87).map d87) = ((Lv5 ++ ([(⟨1, e, q.f0, q.f1, x5⟩ : S87)] : List S87)).map d87) from List.map_append.symm)) ?_
      refine X.rk ⟨[(0, .e (.c (.d (.v (.int .i64 e))))), (3, .pt 64 0 0), (5, .e (.c (.ref 400))), (9, .e (.c (.d (.sl (q.f2.map dS))))), (10, .e (.c (.d (.v (.int .i64 ((q.f2.map dS).length : Int)))))), (11, .e (.c (.d (.v (.int .i64 (wrap64 (v11 + 1)))))))], [(64, some (.box [.d (.v (.int .i64 q.f0)), .d (.v (.int .i64 q.f1)), .d (.sl (q.f2.map dS))])), (400, some (.row 5 87 ((Lv5 ++ ([(⟨1, e, q.f0, q.f1, x5⟩ : S87)] : List S87)).map d87) false true))], 464⟩ hτ hmix (by kernel_rfl) (by kernel_rfl) (s2 := ⟨[(0, .e (.c (.d (.v (.int .i64 e))))), (3, .pt 64 0 0), (5, .e (.c (.ref 400))), (9, .e (.c (.d (.sl (q.f2.map dS))))), (10, .e (.c (.d (.v (.int .i64 ((q.f2.map dS).length : Int)))))), (11, .e (.c (.d (.v (.int .i64 (v11 + 1))))))], [(64, some (.box [.d (.v (.int .i64 q.f0)), .d (.v (.int .i64 q.f1)), .d (.sl (q.f2.map dS))])), (400, some (.row 5 87 ((Lv5 ++ ([(⟨1, e, q.f0, q.f1, x5⟩ : S87)] : List S87)).map d87) false true))], 464⟩) (congrArg (fun z : Int => (⟨[(0, .e (.c (.d (.v (.int .i64 e))))), (3, .pt 64 0 0), (5, .e (.c (.ref 400))), (9, .e (.c (.d (.sl (q.f2.map dS))))), (10, .e (.c (.d (.v (.int .i64 ((q.f2.map dS).length : Int)))))), (11, .e (.c (.d (.v (.int .i64 z)))))], [(64, some (.box [.d (.v (.int .i64 q.f0)), .d (.v (.int .i64 q.f1)), .d (.sl (q.f2.map dS))])), (400, some (.row 5 87 ((Lv5 ++ ([(⟨1, e, q.f0, q.f1, x5⟩ : S87)] : List S87)).map d87) false true))], 464⟩ : St)) (show wrap64 (v11 + 1) = (v11 + 1) by rw [w64 (n := (v11 + 1)) (by omega) (by omega)])) ?_
      refine ⟨⟨((Lv5 ++ ([(⟨1, e, q.f0, q.f1, x5⟩ : S87)] : List S87)), (v11 + 1)), ⟨by first | omega | (dsimp only; omega), by first | omega | (dsimp only; omega), by simp only [List.length_append, List.length_cons, List.length_nil]; (first | omega | (dsimp only; omega)), app_take (by first | omega | (dsimp only; omega)) (qcSigs_at ‹_›) hq2⟩⟩, by first | exact rfl | omega | (dsimp only; omega) | (simp only [List.length_append, List.length_cons, List.length_nil, List.length_set]; omega) | (simp; done) | (simp; omega), Wk.mk' [(64, 64), (176, 400)] (by kernel_rfl) (by kernel_rfl) (by kernel_rfl)⟩
    · replace hb4 := of_decide_eq_false (hb4)
      refine X.exit ?_
      refine X.seq ?_
      have hln := qcSigs_len e q
      refine X.rk ⟨[(4, .e (.c (.ref 176)))], [(176, some (.row 5 87 (Lv5.map d87) false true))], 240⟩ hτ hmix (by kernel_rfl) (by kernel_rfl) rfl ?_
      refine X.ret ?_
      exact ⟨trivial, _, _, ⟨Lv5, (app_all (by omega) hq2), rfl, rfl⟩, .inr ⟨⟨[(4, .e (.c (.f (.sl (Lv5.map d87)))))], [(176, some (.row 5 87 (Lv5.map d87) true true))], 240⟩, Wk.less (by kernel_rfl), Ret.mk' [] (by kernel_rfl) (by kernel_rfl) (by kernel_rfl)⟩⟩
  obtain ⟨_, _, ⟨r0, q1, rfl, rfl⟩, hf⟩ := key
  exact ⟨r0, q1, hf⟩

theorem i_tcSigs (e : Int) (t : S55) (ht : t.f1.length ≤ 2000000) (he : t.f1.length ≤ t.f2.length) : ∃ r0 : List S87, (r0 = tcSigs e t) ∧ Fn Try.prog 108 [.e (.c (.d (.v (.int .i64 e)))), .e (.agg [.d (.v (.int .i64 t.f0)), .d (.sl (t.f1.map dS)), .d (.sl (t.f2.map dI))])] (lookH []) (.e (.c (.f (.sl (r0.map d87))))) (lookH []) := by
  have key : ∃ x' h', ((fun x' h' => ∃ r0 : List S87, (r0 = tcSigs e t) ∧ x' = .e (.c (.f (.sl (r0.map d87)))) ∧ h' = [])) x' h' ∧ Fn Try.prog 108 [.e (.c (.d (.v (.int .i64 e)))), .e (.agg [.d (.v (.int .i64 t.f0)), .d (.sl (t.f1.map dS)), .d (.sl (t.f2.map dI))])] (lookH []) x' (lookH h') := by
    refine Fn.bodyX (N := 39) hτ Try.func108 rfl rfl rfl rfl ?_
    refine X.seq ?_
    refine X.rk ⟨[(0, .e (.c (.d (.v (.int .i64 e))))), (3, .pt 64 0 0)], [(64, some (.box [.d (.v (.int .i64 t.f0)), .d (.sl (t.f1.map dS)), .d (.sl (t.f2.map dI))]))], 96⟩ hτ hmix (by kernel_rfl) (by kernel_rfl) rfl ?_
    refine X.seq ?_
    refine X.rk ⟨[(0, .e (.c (.d (.v (.int .i64 e))))), (3, .pt 64 0 0), (5, .e (.c (.nil)))], [(64, some (.box [.d (.v (.int .i64 t.f0)), .d (.sl (t.f1.map dS)), .d (.sl (t.f2.map dI))]))], 112⟩ hτ hmix (by kernel_rfl) (by kernel_rfl) rfl ?_
    refine X.seq ?_
    refine X.seq ?_
    have el1 : (t.f1.map dS).length = t.f1.length := List.length_map ..
    refine X.rk ⟨[(0, .e (.c (.d (.v (.int .i64 e))))), (3, .pt 64 0 0), (5, .e (.c (.nil))), (10, .e (.c (.d (.sl (t.f1.map dS))))), (11, .e (.c (.d (.v (.int .i64 ((t.f1.map dS).length : Int)))))), (12, .e (.c (.d (.v (.int .i64 0)))))], [(64, some (.box [.d (.v (.int .i64 t.f0)), .d (.sl (t.f1.map dS)), .d (.sl (t.f2.map dI))]))], 176⟩ hτ hmix (by kernel_rfl) (by kernel_rfl) rfl ?_
    refine X.block ?_
    refine X.weak (Wk.ownT 5 5 87 (by kernel_rfl) (by kernel_rfl) (by kernel_rfl)) ?_
    -- 3: Lv5 : List S87, v12 : Int
    refine X.loop (σ := { g : (List S87) × Int // (fun (Lv5 : List S87) (v12 : Int) => 0 ≤ v12 ∧ v12 ≤ t.f1.length ∧ Lv5.length = v12.toNat ∧ Lv5 = [] ++ (tcSigs e t).take v12.toNat) g.1 g.2 }) (fun g => (fun (Lv5 : List S87) (v12 : Int) => ⟨[(0, .e (.c (.d (.v (.int .i64 e))))), (3, .pt 64 0 0), (5, .e (.c (.ref 176))), (10, .e (.c (.d (.sl (t.f1.map dS))))), (11, .e (.c (.d (.v (.int .i64 ((t.f1.map dS).length : Int)))))), (12, .e (.c (.d (.v (.int .i64 v12)))))], [(64, some (.box [.d (.v (.int .i64 t.f0)), .d (.sl (t.f1.map dS)), .d (.sl (t.f2.map dI))])), (176, some (.row 5 87 (Lv5.map d87) false true))], 192⟩) g.1.1 g.1.2) (fun g => (fun (Lv5 : List S87) (v12 : Int) => (t.f1.length - v12).toNat) g.1.1 g.1.2) ⟨([], 0), ⟨by first | omega | (dsimp only; omega), by first | omega | (dsimp only; omega), by simp, by simp⟩⟩ (Wk.less (by kernel_rfl)) (fun g => ?_)
    obtain ⟨⟨Lv5, v12⟩, hg3⟩ := g
    have hg3 : 0 ≤ v12 ∧ v12 ≤ t.f1.length ∧ Lv5.length = v12.toNat ∧ Lv5 = [] ++ (tcSigs e t).take v12.toNat := hg3
    obtain ⟨_, _, _, hq2⟩ := hg3
    refine X.seq ?_
    refine X.rk ⟨[(0, .e (.c (.d (.v (.int .i64 e))))), (3, .pt 64 0 0), (5, .e (.c (.ref 176))), (10, .e (.c (.d (.sl (t.f1.map dS))))), (11, .e (.c (.d (.v (.int .i64 ((t.f1.map dS).length : Int)))))), (12, .e (.c (.d (.v (.int .i64 v12))))), (13, .e (.c (.d (.v (.bool (decide ((v12 : Int) < ((t.f1.map dS).length : Int))))))))], [(64, some (.box [.d (.v (.int .i64 t.f0)), .d (.sl (t.f1.map dS)), .d (.sl (t.f2.map dI))])), (176, some (.row 5 87 (Lv5.map d87) false true))], 208⟩ hτ hmix (by kernel_rfl) (by kernel_rfl) rfl ?_
    refine X.seq ?_
    refine X.if_ (b := decide ((v12 : Int) < ((t.f1.map dS).length : Int))) (by kernel_rfl) (fun hb4 => ?_) (fun hb4 => ?_)
    · replace hb4 := of_decide_eq_true (hb4)
      refine X.skip ?_
      refine X.seq ?_
      refine X.block ?_
      refine X.seq ?_
      refine X.rs 1 hτ hmix (by kernel_rfl) ?_
      obtain ⟨x5, hx5⟩ : ∃ x, t.f1[Int.toNat v12]? = some x := ⟨_, List.getElem?_eq_getElem (by first | omega | (simp; done) | (simp; omega))⟩
      refine CH.idx hτ (dS x5) (rows := (t.f1.map dS)) (n := v12) (sz := 1) (by kernel_rfl) (by kernel_rfl) (by first | omega | (simp; done) | (simp; omega)) (by rw [List.getElem?_map, hx5]; rfl) (by kernel_rfl) ?_
      refine CH.go 3 hτ (by kernel_rfl) ?_
      refine CH.endk ⟨[(0, .e (.c (.d (.v (.int .i64 e))))), (3, .pt 64 0 0), (5, .e (.c (.ref 176))), (6, .e (.c (.d (.v (.int .i64 v12))))), (7, .e (.c (.d (.v (.string x5))))), (10, .e (.c (.d (.sl (t.f1.map dS))))), (11, .e (.c (.d (.v (.int .i64 ((t.f1.map dS).length : Int)))))), (12, .e (.c (.d (.v (.int .i64 v12)))))], [(64, some (.box [.d (.v (.int .i64 t.f0)), .d (.sl (t.f1.map dS)), .d (.sl (t.f2.map dI))])), (176, some (.row 5 87 (Lv5.map d87) false true))], 288⟩ (by kernel_rfl) (by kernel_rfl) rfl ?_
      refine X.seq ?_
      refine X.rk ⟨[(0, .e (.c (.d (.v (.int .i64 e))))), (3, .pt 64 0 0), (5, .e (.c (.ref 176))), (6, .e (.c (.d (.v (.int .i64 v12))))), (8, .pt 368 0 0), (10, .e (.c (.d (.sl (t.f1.map dS))))), (11, .e (.c (.d (.v (.int .i64 ((t.f1.map dS).length : Int)))))), (12, .e (.c (.d (.v (.int .i64 v12)))))], [(64, some (.box [.d (.v (.int .i64 t.f0)), .d (.sl (t.f1.map dS)), .d (.sl (t.f2.map dI))])), (176, some (.row 5 87 (Lv5.map d87) false true)), (368, some (.box [.d (.v (.int .i64 2)), .d (.v (.int .i64 e)), .d (.v (.int .i64 t.f0)), .d (.v (.int .i64 0)), .d (.v (.string x5))]))], 400⟩ hτ hmix (by kernel_rfl) (by kernel_rfl) rfl ?_
      refine X.seq ?_
      refine X.seq ?_
      have el6 : (t.f2.map dI).length = t.f2.length := List.length_map ..
      refine X.rk ⟨[(0, .e (.c (.d (.v (.int .i64 e))))), (3, .pt 64 0 0), (5, .e (.c (.ref 176))), (6, .e (.c (.d (.v (.int .i64 v12))))), (8, .pt 368 0 0), (10, .e (.c (.d (.sl (t.f1.map dS))))), (11, .e (.c (.d (.v (.int .i64 ((t.f1.map dS).length : Int)))))), (12, .e (.c (.d (.v (.int .i64 v12))))), (26, .e (.c (.d (.v (.bool (decide ((v12 : Int) < ((t.f2.map dI).length : Int))))))))], [(64, some (.box [.d (.v (.int .i64 t.f0)), .d (.sl (t.f1.map dS)), .d (.sl (t.f2.map dI))])), (176, some (.row 5 87 (Lv5.map d87) false true)), (368, some (.box [.d (.v (.int .i64 2)), .d (.v (.int .i64 e)), .d (.v (.int .i64 t.f0)), .d (.v (.int .i64 0)), .d (.v (.string x5))]))], 480⟩ hτ hmix (by kernel_rfl) (by kernel_rfl) rfl ?_
      refine X.if_ (b := decide ((v12 : Int) < ((t.f2.map dI).length : Int))) (by kernel_rfl) (fun hb7 => ?_) (fun hb7 => ?_)
      · replace hb7 := of_decide_eq_true (hb7)
        refine X.rs 3 hτ hmix (by kernel_rfl) ?_
        obtain ⟨x8, hx8⟩ : ∃ x, t.f2[Int.toNat v12]? = some x := ⟨_, List.getElem?_eq_getElem (by first | omega | (simp; done) | (simp; omega))⟩
        refine CH.idx hτ (dI x8) (rows := (t.f2.map dI)) (n := v12) (sz := 1) (by kernel_rfl) (by kernel_rfl) (by first | omega | (simp; done) | (simp; omega)) (by rw [List.getElem?_map, hx8]; rfl) (by kernel_rfl) ?_
        refine CH.go 3 hτ (by kernel_rfl) ?_
        refine CH.endk ⟨[(0, .e (.c (.d (.v (.int .i64 e))))), (3, .pt 64 0 0), (5, .e (.c (.ref 176))), (8, .pt 368 0 0), (10, .e (.c (.d (.sl (t.f1.map dS))))), (11, .e (.c (.d (.v (.int .i64 ((t.f1.map dS).length : Int)))))), (12, .e (.c (.d (.v (.int .i64 v12)))))], [(64, some (.box [.d (.v (.int .i64 t.f0)), .d (.sl (t.f1.map dS)), .d (.sl (t.f2.map dI))])), (176, some (.row 5 87 (Lv5.map d87) false true)), (368, some (.box [.d (.v (.int .i64 2)), .d (.v (.int .i64 e)), .d (.v (.int .i64 t.f0)), .d (.v (.int .i64 x8)), .d (.v (.string x5))]))], 592⟩ (by kernel_rfl) (by kernel_rfl) rfl ?_
        refine X.rs 3 hτ hmix (by kernel_rfl) ?_
        have el9 : (Lv5.map d87).length = Lv5.length := List.length_map ..
        have el10 : (([(⟨2, e, t.f0, x8, x5⟩ : S87)] : List S87).map d87).length = ([(⟨2, e, t.f0, x8, x5⟩ : S87)] : List S87).length := List.length_map ..
        have el11 : ([(⟨2, e, t.f0, x8, x5⟩ : S87)] : List S87).length = 1 := rfl
        refine CH.app hτ (rows := (Lv5.map d87)) (rows2 := (([(⟨2, e, t.f0, x8, x5⟩ : S87)] : List S87).map d87)) (sz := 5) (bys := 48) true (by kernel_rfl) (by kernel_rfl) (fun _ => flat_d d87 (fun x => rfl)) (flat_ok (f := d87) (fun x => rfl)) (by simp only [List.length_map] <;> (first | done | omega | (simp; done) | (simp; omega))) (by kernel_rfl) ?_
        refine CH.go 1 hτ (by kernel_rfl) ?_
        refine CH.endk ⟨[(0, .e (.c (.d (.v (.int .i64 e))))), (3, .pt 64 0 0), (5, .e (.c (.ref 640))), (10, .e (.c (.d (.sl (t.f1.map dS))))), (11, .e (.c (.d (.v (.int .i64 ((t.f1.map dS).length : Int)))))), (12, .e (.c (.d (.v (.int .i64 v12)))))], [(64, some (.box [.d (.v (.int .i64 t.f0)), .d (.sl (t.f1.map dS)), .d (.sl (t.f2.map dI))])), (640, some (.row 5 87 ((Lv5.map d87) ++ (([(⟨2, e, t.f0, x8, x5⟩ : S87)] : List S87).map d87)) false true))], 672⟩ (by kernel_rfl) (by kernel_rfl) (s2 := ⟨[(0, .e (.c (.d (.v (.int .i64 e))))), (3, .pt 64 0 0), (5, .e (.c (.ref 640))), (10, .e (.c (.d (.sl (t.f1.map dS))))), (11, .e (.c (.d (.v (.int .i64 ((t.f1.map dS).length : Int)))))), (12, .e (.c (.d (.v (.int .i64 v12)))))], [(64, some (.box [.d (.v (.int .i64 t.f0)), .d (.sl (t.f1.map dS)), .d (.sl (t.f2.map dI))])), (640, some (.row 5 87 ((Lv5 ++ ([(⟨2, e, t.f0, x8, x5⟩ : S87)] : List S87)).map d87) false true))], 672⟩) (congrArg (fun z : List (List D) => (⟨[(0, .e (.c (.d (.v (.int .i64 e))))), (3, .pt 64 0 0), (5, .e (.c (.ref 640))), (10, .e (.c (.d (.sl (t.f1.map dS))))), (11, .e (.c (.d (.v (.int .i64 ((t.f1.map dS).length : Int)))))), (12, .e (.c (.d (.v (.int .i64 v12)))))], [(64, some (.box [.d (.v (.int .i64 t.f0)), .d (.sl (t.f1.map dS)), .d (.sl (t.f2.map dI))])), (640, some (.row 5 87 z false true))], 672⟩ : St)) (show (Lv5.map d87) ++ (([(⟨2, e, t.f0, x8, x5⟩ : S87)] : List S87).map d87) = ((Lv5 ++ ([(⟨2, e, t.f0, x8, x5⟩ : S87)] : List S87)).map d87) from List.map_append.symm)) ?_
        refine X.rk ⟨[(0, .e (.c (.d (.v (.int .i64 e))))), (3, .pt 64 0 0), (5, .e (.c (.ref 640))), (10, .e (.c (.d (.sl (t.f1.map dS))))), (11, .e (.c (.d (.v (.int .i64 ((t.f1.map dS).length : Int)))))), (12, .e (.c (.d (.v (.int .i64 (wrap64 (v12 + 1)))))))], [(64, some (.box [.d (.v (.int .i64 t.f0)), .d (.sl (t.f1.map dS)), .d (.sl (t.f2.map dI))])), (640, some (.row 5 87 ((Lv5 ++ ([(⟨2, e, t.f0, x8, x5⟩ : S87)] : List S87)).map d87) false true))], 704⟩ hτ hmix (by kernel_rfl) (by kernel_rfl) (s2 := ⟨[(0, .e (.c (.d (.v (.int .i64 e))))), (3, .pt 64 0 0), (5, .e (.c (.ref 640))), (10, .e (.c (.d (.sl (t.f1.map dS))))), (11, .e (.c (.d (.v (.int .i64 ((t.f1.map dS).length : Int)))))), (12, .e (.c (.d (.v (.int .i64 (v12 + 1))))))], [(64, some (.box [.d (.v (.int .i64 t.f0)), .d (.sl (t.f1.map dS)), .d (.sl (t.f2.map dI))])), (640, some (.row 5 87 ((Lv5 ++ ([(⟨2, e, t.f0, x8, x5⟩ : S87)] : List S87)).map d87) false true))], 704⟩) (congrArg (fun z : Int => (⟨[(0, .e (.c (.d (.v (.int .i64 e))))), (3, .pt 64 0 0), (5, .e (.c (.ref 640))), (10, .e (.c (.d (.sl (t.f1.map dS))))), (11, .e (.c (.d (.v (.int .i64 ((t.f1.map dS).length : Int)))))), (12, .e (.c (.d (.v (.int .i64 z)))))], [(64, some (.box [.d (.v (.int .i64 t.f0)), .d (.sl (t.f1.map dS)), .d (.sl (t.f2.map dI))])), (640, some (.row 5 87 ((Lv5 ++ ([(⟨2, e, t.f0, x8, x5⟩ : S87)] : List S87)).map d87) false true))], 704⟩ : St)) (show wrap64 (v12 + 1) = (v12 + 1) by rw [w64 (n := (v12 + 1)) (by omega) (by omega)])) ?_
        refine ⟨⟨((Lv5 ++ ([(⟨2, e, t.f0, x8, x5⟩ : S87)] : List S87)), (v12 + 1)), (by first | exact ⟨by first | omega | (dsimp only; omega), by first | omega | (dsimp only; omega), by simp only [List.length_append, List.length_cons, List.length_nil]; (first | omega | (dsimp only; omega)), app_take (by first | omega | (dsimp only; omega)) (tcSigs_at ‹_› ‹_›) hq2⟩ | (exfalso; omega))⟩, by first | exact rfl | omega | (dsimp only; omega) | (simp only [List.length_append, List.length_cons, List.length_nil, List.length_set]; omega) | (simp; done) | (simp; omega), Wk.mk' [(64, 64), (176, 640)] (by kernel_rfl) (by kernel_rfl) (by kernel_rfl)⟩
      · replace hb7 := of_decide_eq_false (hb7)
        refine X.skip ?_
        refine X.rs 3 hτ hmix (by kernel_rfl) ?_
        have el12 : (Lv5.map d87).length = Lv5.length := List.length_map ..
        have el13 : (([(⟨2, e, t.f0, 0, x5⟩ : S87)] : List S87).map d87).length = ([(⟨2, e, t.f0, 0, x5⟩ : S87)] : List S87).length := List.length_map ..
        have el14 : ([(⟨2, e, t.f0, 0, x5⟩ : S87)] : List S87).length = 1 := rfl
        refine CH.app hτ (rows := (Lv5.map d87)) (rows2 := (([(⟨2, e, t.f0, 0, x5⟩ : S87)] : List S87).map d87)) (sz := 5) (bys := 48) true (by kernel_rfl) (by kernel_rfl) (fun _ => flat_d d87 (fun x => rfl)) (flat_ok (f := d87) (fun x => rfl)) (by simp only [List.length_map] <;> (first | done | omega | (simp; done) | (simp; omega))) (by kernel_rfl) ?_
        refine CH.go 1 hτ (by kernel_rfl) ?_
        refine CH.endk ⟨[(0, .e (.c (.d (.v (.int .i64 e))))), (3, .pt 64 0 0), (5, .e (.c (.ref 528))), (10, .e (.c (.d (.sl (t.f1.map dS))))), (11, .e (.c (.d (.v (.int .i64 ((t.f1.map dS).length : Int)))))), (12, .e (.c (.d (.v (.int .i64 v12)))))], [(64, some (.box [.d (.v (.int .i64 t.f0)), .d (.sl (t.f1.map dS)), .d (.sl (t.f2.map dI))])), (528, some (.row 5 87 ((Lv5.map d87) ++ (([(⟨2, e, t.f0, 0, x5⟩ : S87)] : List S87).map d87)) false true))], 560⟩ (by kernel_rfl) (by kernel_rfl) (s2 := ⟨[(0, .e (.c (.d (.v (.int .i64 e))))), (3, .pt 64 0 0), (5, .e (.c (.ref 528))), (10, .e (.c (.d (.sl (t.f1.map dS))))), (11, .e (.c (.d (.v (.int .i64 ((t.f1.map dS).length : Int)))))), (12, .e (.c (.d (.v (.int .i64 v12)))))], [(64, some (.box [.d (.v (.int .i64 t.f0)), .d (.sl (t.f1.map dS)), .d (.sl (t.f2.map dI))])), (528, some (.row 5 87 ((Lv5 ++ ([(⟨2, e, t.f0, 0, x5⟩ : S87)] : List S87)).map d87) false true))], 560⟩) (congrArg (fun z : List (List D) => (⟨[(0, .e (.c (.d (.v (.int .i64 e))))), (3, .pt 64 0 0), (5, .e (.c (.ref 528))), (10, .e (.c (.d (.sl (t.f1.map dS))))), (11, .e (.c (.d (.v (.int .i64 ((t.f1.map dS).length : Int)))))), (12, .e (.c (.d (.v (.int .i64 v12)))))], [(64, some (.box [.d (.v (.int .i64 t.f0)), .d (.sl (t.f1.map dS)), .d (.sl (t.f2.map dI))])), (528, some (.row 5 87 z false true))], 560⟩ : St)) (show (Lv5.map d87) ++ (([(⟨2, e, t.f0, 0, x5⟩ : S87)] : List S87).map d87) = ((Lv5 ++ ([(⟨2, e, t.f0, 0, x5⟩ : S87)] : List S87)).map d87) from List.map_append.symm)) ?_
        refine X.rk ⟨[(0, .e (.c (.d (.v (.int .i64 e))))), (3, .pt 64 0 0), (5, .e (.c (.ref 528))), (10, .e (.c (.d (.sl (t.f1.map dS))))), (11, .e (.c (.d (.v (.int .i64 ((t.f1.map dS).length : Int)))))), (12, .e (.c (.d (.v (.int .i64 (wrap64 (v12 + 1)))))))], [(64, some (.box [.d (.v (.int .i64 t.f0)), .d (.sl (t.f1.map dS)), .d (.sl (t.f2.map dI))])), (528, some (.row 5 87 ((Lv5 ++ ([(⟨2, e, t.f0, 0, x5⟩ : S87)] : List S87)).map d87) false true))], 592⟩ hτ hmix (by kernel_rfl) (by kernel_rfl) (s2 := ⟨[(0, .e (.c (.d (.v (.int .i64 e))))), (3, .pt 64 0 0), (5, .e (.c (.ref 528))), (10, .e (.c (.d (.sl (t.f1.map dS))))), (11, .e (.c (.d (.v (.int .i64 ((t.f1.map dS).length : Int)))))), (12, .e (.c (.d (.v (.int .i64 (v12 + 1))))))], [(64, some (.box [.d (.v (.int .i64 t.f0)), .d (.sl (t.f1.map dS)), .d (.sl (t.f2.map dI))])), (528, some (.row 5 87 ((Lv5 ++ ([(⟨2, e, t.f0, 0, x5⟩ : S87)] : List S87)).map d87) false true))], 592⟩) (congrArg (fun z : Int => (⟨[(0, .e (.c (.d (.v (.int .i64 e))))), (3, .pt 64 0 0), (5, .e (.c (.ref 528))), (10, .e (.c (.d (.sl (t.f1.map dS))))), (11, .e (.c (.d (.v (.int .i64 ((t.f1.map dS).length : Int)))))), (12, .e (.c (.d (.v (.int .i64 z)))))], [(64, some (.box [.d (.v (.int .i64 t.f0)), .d (.sl (t.f1.map dS)), .d (.sl (t.f2.map dI))])), (528, some (.row 5 87 ((Lv5 ++ ([(⟨2, e, t.f0, 0, x5⟩ : S87)] : List S87)).map d87) false true))], 592⟩ : St)) (show wrap64 (v12 + 1) = (v12 + 1) by rw [w64 (n := (v12 + 1)) (by omega) (by omega)])) ?_
        refine ⟨⟨((Lv5 ++ ([(⟨2, e, t.f0, 0, x5⟩ : S87)] : List S87)), (v12 + 1)), (by first | exact ⟨by first | omega | (dsimp only; omega), by first | omega | (dsimp only; omega), by simp only [List.length_append, List.length_cons, List.length_nil]; (first | omega | (dsimp only; omega)), app_take (by first | omega | (dsimp only; omega)) (tcSigs_at ‹_› ‹_›) hq2⟩ | (exfalso; omega))⟩, by first | exact rfl | omega | (dsimp only; omega) | (simp only [List.length_append, List.length_cons, List.length_nil, List.length_set]; omega) | (simp; done) | (simp; omega), Wk.mk' [(64, 64), (176, 528)] (by kernel_rfl) (by kernel_rfl) (by kernel_rfl)⟩
    · replace hb4 := of_decide_eq_false (hb4)
      refine X.exit ?_
      refine X.seq ?_
      have hlt := tcSigs_len e t
      refine X.rk ⟨[(4, .e (.c (.ref 176)))], [(176, some (.row 5 87 (Lv5.map d87) false true))], 240⟩ hτ hmix (by kernel_rfl) (by kernel_rfl) rfl ?_
      refine X.ret ?_
      exact ⟨trivial, _, _, ⟨Lv5, (app_all (by omega) hq2), rfl, rfl⟩, .inr ⟨⟨[(4, .e (.c (.f (.sl (Lv5.map d87)))))], [(176, some (.row 5 87 (Lv5.map d87) true true))], 240⟩, Wk.less (by kernel_rfl), Ret.mk' [] (by kernel_rfl) (by kernel_rfl) (by kernel_rfl)⟩⟩
  obtain ⟨_, _, ⟨r0, q1, rfl, rfl⟩, hf⟩ := key
  exact ⟨r0, q1, hf⟩

theorem s_SigsOf (m : S80) (hm : Sm80 m) (hd : Dr80 m) : ∃ r0 : List S87, (r0 = sigsOf m) ∧ Fn Try.prog 51 [.e (.agg [.d (.v (.int .i64 m.f0)), .d (.v (.string m.f1)), .d (.v (.int .i64 m.f2)), .d (.sl (m.f3.map d59)), .d (.v (.int .i64 m.f4.f0)), .d (.v (.int .i64 m.f4.f1)), .d (.v (.string m.f4.f2)), .d (.v (.int .i64 m.f5.f0)), .d (.v (.int .i64 m.f5.f1)), .d (.v (.string m.f5.f2)), .d (.v (.int .i64 m.f6.f0)), .d (.v (.int .i64 m.f6.f1)), .d (.sl (m.f6.f2.map dS)), .d (.v (.int .i64 m.f7.f0)), .d (.sl (m.f7.f1.map dS)), .d (.sl (m.f7.f2.map dI))])] (lookH []) (.e (.c (.f (.sl (r0.map d87))))) (lookH []) := by
  have key : ∃ x' h', ((fun x' h' => ∃ r0 : List S87, (r0 = sigsOf m) ∧ x' = .e (.c (.f (.sl (r0.map d87)))) ∧ h' = [])) x' h' ∧ Fn Try.prog 51 [.e (.agg [.d (.v (.int .i64 m.f0)), .d (.v (.string m.f1)), .d (.v (.int .i64 m.f2)), .d (.sl (m.f3.map d59)), .d (.v (.int .i64 m.f4.f0)), .d (.v (.int .i64 m.f4.f1)), .d (.v (.string m.f4.f2)), .d (.v (.int .i64 m.f5.f0)), .d (.v (.int .i64 m.f5.f1)), .d (.v (.string m.f5.f2)), .d (.v (.int .i64 m.f6.f0)), .d (.v (.int .i64 m.f6.f1)), .d (.sl (m.f6.f2.map dS)), .d (.v (.int .i64 m.f7.f0)), .d (.sl (m.f7.f1.map dS)), .d (.sl (m.f7.f2.map dI))])] (lookH []) x' (lookH h') := by
    refine Fn.bodyX (N := 68) hτ Try.func51 rfl rfl rfl rfl ?_
    refine X.seq ?_
    refine X.rk ⟨[(1, .pt 64 0 0)], [(64, some (.box [.d (.v (.int .i64 m.f0)), .d (.v (.string m.f1)), .d (.v (.int .i64 m.f2)), .d (.sl (m.f3.map d59)), .d (.v (.int .i64 m.f4.f0)), .d (.v (.int .i64 m.f4.f1)), .d (.v (.string m.f4.f2)), .d (.v (.int .i64 m.f5.f0)), .d (.v (.int .i64 m.f5.f1)), .d (.v (.string m.f5.f2)), .d (.v (.int .i64 m.f6.f0)), .d (.v (.int .i64 m.f6.f1)), .d (.sl (m.f6.f2.map dS)), .d (.v (.int .i64 m.f7.f0)), .d (.sl (m.f7.f1.map dS)), .d (.sl (m.f7.f2.map dI))]))], 96⟩ hτ hmix (by kernel_rfl) (by kernel_rfl) rfl ?_
    refine X.seq ?_
    refine X.rk ⟨[(1, .pt 64 0 0), (3, .e (.c (.ref 96)))], [(64, some (.box [.d (.v (.int .i64 m.f0)), .d (.v (.string m.f1)), .d (.v (.int .i64 m.f2)), .d (.sl (m.f3.map d59)), .d (.v (.int .i64 m.f4.f0)), .d (.v (.int .i64 m.f4.f1)), .d (.v (.string m.f4.f2)), .d (.v (.int .i64 m.f5.f0)), .d (.v (.int .i64 m.f5.f1)), .d (.v (.string m.f5.f2)), .d (.v (.int .i64 m.f6.f0)), .d (.v (.int .i64 m.f6.f1)), .d (.sl (m.f6.f2.map dS)), .d (.v (.int .i64 m.f7.f0)), .d (.sl (m.f7.f1.map dS)), .d (.sl (m.f7.f2.map dI))])), (96, some (.row 5 87 [] false true))], 128⟩ hτ hmix (by kernel_rfl) (by kernel_rfl) rfl ?_
    -- join: Lv3 : List S87
    refine X.seqJ (σ := { g : (List S87) // (fun (Lv3 : List S87) => Lv3 = sgV m ∧ Lv3.length ≤ 1) g }) (fun g => (fun (Lv3 : List S87) => ⟨[(1, .pt 64 0 0), (3, .e (.c (.ref 304)))], [(64, some (.box [.d (.v (.int .i64 m.f0)), .d (.v (.string m.f1)), .d (.v (.int .i64 m.f2)), .d (.sl (m.f3.map d59)), .d (.v (.int .i64 m.f4.f0)), .d (.v (.int .i64 m.f4.f1)), .d (.v (.string m.f4.f2)), .d (.v (.int .i64 m.f5.f0)), .d (.v (.int .i64 m.f5.f1)), .d (.v (.string m.f5.f2)), .d (.v (.int .i64 m.f6.f0)), .d (.v (.int .i64 m.f6.f1)), .d (.sl (m.f6.f2.map dS)), .d (.v (.int .i64 m.f7.f0)), .d (.sl (m.f7.f1.map dS)), .d (.sl (m.f7.f2.map dI))])), (304, some (.row 5 87 (Lv3.map d87) false true))], 336⟩) g.1) ?_ (fun g => ?_)
    · refine X.seq ?_
      refine X.rk ⟨[(1, .pt 64 0 0), (3, .e (.c (.ref 96))), (9, .e (.c (.d (.v (.bool (!(m.f4.f2.toList == (⟨#[]⟩ : ByteArray).toList)))))))], [(64, some (.box [.d (.v (.int .i64 m.f0)), .d (.v (.string m.f1)), .d (.v (.int .i64 m.f2)), .d (.sl (m.f3.map d59)), .d (.v (.int .i64 m.f4.f0)), .d (.v (.int .i64 m.f4.f1)), .d (.v (.string m.f4.f2)), .d (.v (.int .i64 m.f5.f0)), .d (.v (.int .i64 m.f5.f1)), .d (.v (.string m.f5.f2)), .d (.v (.int .i64 m.f6.f0)), .d (.v (.int .i64 m.f6.f1)), .d (.sl (m.f6.f2.map dS)), .d (.v (.int .i64 m.f7.f0)), .d (.sl (m.f7.f1.map dS)), .d (.sl (m.f7.f2.map dI))])), (96, some (.row 5 87 [] false true))], 192⟩ hτ hmix (by kernel_rfl) (by kernel_rfl) rfl ?_
      refine X.if_ (b := !(m.f4.f2.toList == (⟨#[]⟩ : ByteArray).toList)) (by kernel_rfl) (fun hb2 => ?_) (fun hb2 => ?_)
      · replace hb2 := beq_no (bnot_yes (hb2))
        refine X.rs 5 hτ hmix (by kernel_rfl) ?_
        obtain ⟨r3, hr5, hf4⟩ := s_l13VoteSig m.f2 m.f4
        replace hr5 := hr5.symm; subst hr5
        refine CH.call hf4 Try.func113 ⟨rfl, rfl⟩ [] (by kernel_rfl) (by kernel_rfl) (by kernel_rfl) (by kernel_rfl) ?_
        refine CH.go 1 hτ (by kernel_rfl) ?_
        have el7 : (([(⟨((⟨1, m.f2, m.f4.f0, m.f4.f1, m.f4.f2⟩ : S87)).f0, ((⟨1, m.f2, m.f4.f0, m.f4.f1, m.f4.f2⟩ : S87)).f1, ((⟨1, m.f2, m.f4.f0, m.f4.f1, m.f4.f2⟩ : S87)).f2, ((⟨1, m.f2, m.f4.f0, m.f4.f1, m.f4.f2⟩ : S87)).f3, ((⟨1, m.f2, m.f4.f0, m.f4.f1, m.f4.f2⟩ : S87)).f4⟩ : S87)] : List S87).map d87).length = ([(⟨((⟨1, m.f2, m.f4.f0, m.f4.f1, m.f4.f2⟩ : S87)).f0, ((⟨1, m.f2, m.f4.f0, m.f4.f1, m.f4.f2⟩ : S87)).f1, ((⟨1, m.f2, m.f4.f0, m.f4.f1, m.f4.f2⟩ : S87)).f2, ((⟨1, m.f2, m.f4.f0, m.f4.f1, m.f4.f2⟩ : S87)).f3, ((⟨1, m.f2, m.f4.f0, m.f4.f1, m.f4.f2⟩ : S87)).f4⟩ : S87)] : List S87).length := List.length_map ..
        have el8 : ([(⟨((⟨1, m.f2, m.f4.f0, m.f4.f1, m.f4.f2⟩ : S87)).f0, ((⟨1, m.f2, m.f4.f0, m.f4.f1, m.f4.f2⟩ : S87)).f1, ((⟨1, m.f2, m.f4.f0, m.f4.f1, m.f4.f2⟩ : S87)).f2, ((⟨1, m.f2, m.f4.f0, m.f4.f1, m.f4.f2⟩ : S87)).f3, ((⟨1, m.f2, m.f4.f0, m.f4.f1, m.f4.f2⟩ : S87)).f4⟩ : S87)] : List S87).length = 1 := rfl
        refine CH.app hτ (rows := []) (rows2 := (([(⟨((⟨1, m.f2, m.f4.f0, m.f4.f1, m.f4.f2⟩ : S87)).f0, ((⟨1, m.f2, m.f4.f0, m.f4.f1, m.f4.f2⟩ : S87)).f1, ((⟨1, m.f2, m.f4.f0, m.f4.f1, m.f4.f2⟩ : S87)).f2, ((⟨1, m.f2, m.f4.f0, m.f4.f1, m.f4.f2⟩ : S87)).f3, ((⟨1, m.f2, m.f4.f0, m.f4.f1, m.f4.f2⟩ : S87)).f4⟩ : S87)] : List S87).map d87)) (sz := 5) (bys := 48) true (by kernel_rfl) (by kernel_rfl) (fun _ => flat_d d87 (fun x => rfl)) (flat_ok (f := d87) (fun x => rfl)) (by simp only [List.length_map] <;> (first | done | omega | (simp; done) | (simp; omega))) (by kernel_rfl) ?_
        refine CH.go 1 hτ (by kernel_rfl) ?_
        refine CH.endk ⟨[(1, .pt 64 0 0), (3, .e (.c (.ref 304)))], [(64, some (.box [.d (.v (.int .i64 m.f0)), .d (.v (.string m.f1)), .d (.v (.int .i64 m.f2)), .d (.sl (m.f3.map d59)), .d (.v (.int .i64 m.f4.f0)), .d (.v (.int .i64 m.f4.f1)), .d (.v (.string m.f4.f2)), .d (.v (.int .i64 m.f5.f0)), .d (.v (.int .i64 m.f5.f1)), .d (.v (.string m.f5.f2)), .d (.v (.int .i64 m.f6.f0)), .d (.v (.int .i64 m.f6.f1)), .d (.sl (m.f6.f2.map dS)), .d (.v (.int .i64 m.f7.f0)), .d (.sl (m.f7.f1.map dS)), .d (.sl (m.f7.f2.map dI))])), (304, some (.row 5 87 (([(⟨((⟨1, m.f2, m.f4.f0, m.f4.f1, m.f4.f2⟩ : S87)).f0, ((⟨1, m.f2, m.f4.f0, m.f4.f1, m.f4.f2⟩ : S87)).f1, ((⟨1, m.f2, m.f4.f0, m.f4.f1, m.f4.f2⟩ : S87)).f2, ((⟨1, m.f2, m.f4.f0, m.f4.f1, m.f4.f2⟩ : S87)).f3, ((⟨1, m.f2, m.f4.f0, m.f4.f1, m.f4.f2⟩ : S87)).f4⟩ : S87)] : List S87).map d87) false true))], 336⟩ (by kernel_rfl) (by kernel_rfl) rfl ?_
        refine ⟨⟨([(⟨((⟨1, m.f2, m.f4.f0, m.f4.f1, m.f4.f2⟩ : S87)).f0, ((⟨1, m.f2, m.f4.f0, m.f4.f1, m.f4.f2⟩ : S87)).f1, ((⟨1, m.f2, m.f4.f0, m.f4.f1, m.f4.f2⟩ : S87)).f2, ((⟨1, m.f2, m.f4.f0, m.f4.f1, m.f4.f2⟩ : S87)).f3, ((⟨1, m.f2, m.f4.f0, m.f4.f1, m.f4.f2⟩ : S87)).f4⟩ : S87)] : List S87), ⟨by unfold sgV; first | rw [if_neg ‹_›] | rw [if_pos ‹_›], by simp⟩⟩, Wk.mk' [(64, 64), (304, 304)] (by kernel_rfl) (by kernel_rfl) (by kernel_rfl)⟩
      · replace hb2 := beq_yes (bnot_no (hb2))
        refine X.skip ?_
        refine ⟨⟨[], ⟨by unfold sgV; first | rw [if_neg ‹_›] | rw [if_pos ‹_›], by simp⟩⟩, Wk.mk' [(64, 64), (304, 96)] (by kernel_rfl) (by kernel_rfl) (by kernel_rfl)⟩
    · obtain ⟨Lv3, hg1⟩ := g
      have hg1 : Lv3 = sgV m ∧ Lv3.length ≤ 1 := hg1
      obtain ⟨hJ1, _⟩ := hg1
      -- join: Lv3 : List S87
      refine X.seqJ (σ := { g : (List S87) // (fun (Lv3 : List S87) => Lv3 = sgV m ++ sgG m ∧ Lv3.length ≤ 2) g }) (fun g => (fun (Lv3 : List S87) => ⟨[(1, .pt 64 0 0), (3, .e (.c (.ref 512)))], [(64, some (.box [.d (.v (.int .i64 m.f0)), .d (.v (.string m.f1)), .d (.v (.int .i64 m.f2)), .d (.sl (m.f3.map d59)), .d (.v (.int .i64 m.f4.f0)), .d (.v (.int .i64 m.f4.f1)), .d (.v (.string m.f4.f2)), .d (.v (.int .i64 m.f5.f0)), .d (.v (.int .i64 m.f5.f1)), .d (.v (.string m.f5.f2)), .d (.v (.int .i64 m.f6.f0)), .d (.v (.int .i64 m.f6.f1)), .d (.sl (m.f6.f2.map dS)), .d (.v (.int .i64 m.f7.f0)), .d (.sl (m.f7.f1.map dS)), .d (.sl (m.f7.f2.map dI))])), (512, some (.row 5 87 (Lv3.map d87) false true))], 544⟩) g.1) ?_ (fun g => ?_)
      · refine X.seq ?_
        refine X.rk ⟨[(1, .pt 64 0 0), (3, .e (.c (.ref 304))), (21, .e (.c (.d (.v (.bool (!(m.f5.f2.toList == (⟨#[]⟩ : ByteArray).toList)))))))], [(64, some (.box [.d (.v (.int .i64 m.f0)), .d (.v (.string m.f1)), .d (.v (.int .i64 m.f2)), .d (.sl (m.f3.map d59)), .d (.v (.int .i64 m.f4.f0)), .d (.v (.int .i64 m.f4.f1)), .d (.v (.string m.f4.f2)), .d (.v (.int .i64 m.f5.f0)), .d (.v (.int .i64 m.f5.f1)), .d (.v (.string m.f5.f2)), .d (.v (.int .i64 m.f6.f0)), .d (.v (.int .i64 m.f6.f1)), .d (.sl (m.f6.f2.map dS)), .d (.v (.int .i64 m.f7.f0)), .d (.sl (m.f7.f1.map dS)), .d (.sl (m.f7.f2.map dI))])), (304, some (.row 5 87 (Lv3.map d87) false true))], 400⟩ hτ hmix (by kernel_rfl) (by kernel_rfl) rfl ?_
        refine X.if_ (b := !(m.f5.f2.toList == (⟨#[]⟩ : ByteArray).toList)) (by kernel_rfl) (fun hb10 => ?_) (fun hb10 => ?_)
        · replace hb10 := beq_no (bnot_yes (hb10))
          refine X.rs 5 hτ hmix (by kernel_rfl) ?_
          obtain ⟨r11, hr13, hf12⟩ := s_l13GoneSig m.f2 m.f5
          replace hr13 := hr13.symm; subst hr13
          refine CH.call hf12 Try.func114 ⟨rfl, rfl⟩ [] (by kernel_rfl) (by kernel_rfl) (by kernel_rfl) (by kernel_rfl) ?_
          refine CH.go 1 hτ (by kernel_rfl) ?_
          have el15 : (Lv3.map d87).length = Lv3.length := List.length_map ..
          have el16 : (([(⟨((⟨2, m.f2, m.f5.f0, m.f5.f1, m.f5.f2⟩ : S87)).f0, ((⟨2, m.f2, m.f5.f0, m.f5.f1, m.f5.f2⟩ : S87)).f1, ((⟨2, m.f2, m.f5.f0, m.f5.f1, m.f5.f2⟩ : S87)).f2, ((⟨2, m.f2, m.f5.f0, m.f5.f1, m.f5.f2⟩ : S87)).f3, ((⟨2, m.f2, m.f5.f0, m.f5.f1, m.f5.f2⟩ : S87)).f4⟩ : S87)] : List S87).map d87).length = ([(⟨((⟨2, m.f2, m.f5.f0, m.f5.f1, m.f5.f2⟩ : S87)).f0, ((⟨2, m.f2, m.f5.f0, m.f5.f1, m.f5.f2⟩ : S87)).f1, ((⟨2, m.f2, m.f5.f0, m.f5.f1, m.f5.f2⟩ : S87)).f2, ((⟨2, m.f2, m.f5.f0, m.f5.f1, m.f5.f2⟩ : S87)).f3, ((⟨2, m.f2, m.f5.f0, m.f5.f1, m.f5.f2⟩ : S87)).f4⟩ : S87)] : List S87).length := List.length_map ..
          have el17 : ([(⟨((⟨2, m.f2, m.f5.f0, m.f5.f1, m.f5.f2⟩ : S87)).f0, ((⟨2, m.f2, m.f5.f0, m.f5.f1, m.f5.f2⟩ : S87)).f1, ((⟨2, m.f2, m.f5.f0, m.f5.f1, m.f5.f2⟩ : S87)).f2, ((⟨2, m.f2, m.f5.f0, m.f5.f1, m.f5.f2⟩ : S87)).f3, ((⟨2, m.f2, m.f5.f0, m.f5.f1, m.f5.f2⟩ : S87)).f4⟩ : S87)] : List S87).length = 1 := rfl
          refine CH.app hτ (rows := (Lv3.map d87)) (rows2 := (([(⟨((⟨2, m.f2, m.f5.f0, m.f5.f1, m.f5.f2⟩ : S87)).f0, ((⟨2, m.f2, m.f5.f0, m.f5.f1, m.f5.f2⟩ : S87)).f1, ((⟨2, m.f2, m.f5.f0, m.f5.f1, m.f5.f2⟩ : S87)).f2, ((⟨2, m.f2, m.f5.f0, m.f5.f1, m.f5.f2⟩ : S87)).f3, ((⟨2, m.f2, m.f5.f0, m.f5.f1, m.f5.f2⟩ : S87)).f4⟩ : S87)] : List S87).map d87)) (sz := 5) (bys := 48) true (by kernel_rfl) (by kernel_rfl) (fun _ => flat_d d87 (fun x => rfl)) (flat_ok (f := d87) (fun x => rfl)) (by simp only [List.length_map] <;> (first | done | omega | (simp; done) | (simp; omega))) (by kernel_rfl) ?_
          refine CH.go 1 hτ (by kernel_rfl) ?_
          refine CH.endk ⟨[(1, .pt 64 0 0), (3, .e (.c (.ref 512)))], [(64, some (.box [.d (.v (.int .i64 m.f0)), .d (.v (.string m.f1)), .d (.v (.int .i64 m.f2)), .d (.sl (m.f3.map d59)), .d (.v (.int .i64 m.f4.f0)), .d (.v (.int .i64 m.f4.f1)), .d (.v (.string m.f4.f2)), .d (.v (.int .i64 m.f5.f0)), .d (.v (.int .i64 m.f5.f1)), .d (.v (.string m.f5.f2)), .d (.v (.int .i64 m.f6.f0)), .d (.v (.int .i64 m.f6.f1)), .d (.sl (m.f6.f2.map dS)), .d (.v (.int .i64 m.f7.f0)), .d (.sl (m.f7.f1.map dS)), .d (.sl (m.f7.f2.map dI))])), (512, some (.row 5 87 ((Lv3.map d87) ++ (([(⟨((⟨2, m.f2, m.f5.f0, m.f5.f1, m.f5.f2⟩ : S87)).f0, ((⟨2, m.f2, m.f5.f0, m.f5.f1, m.f5.f2⟩ : S87)).f1, ((⟨2, m.f2, m.f5.f0, m.f5.f1, m.f5.f2⟩ : S87)).f2, ((⟨2, m.f2, m.f5.f0, m.f5.f1, m.f5.f2⟩ : S87)).f3, ((⟨2, m.f2, m.f5.f0, m.f5.f1, m.f5.f2⟩ : S87)).f4⟩ : S87)] : List S87).map d87)) false true))], 544⟩ (by kernel_rfl) (by kernel_rfl) (s2 := ⟨[(1, .pt 64 0 0), (3, .e (.c (.ref 512)))], [(64, some (.box [.d (.v (.int .i64 m.f0)), .d (.v (.string m.f1)), .d (.v (.int .i64 m.f2)), .d (.sl (m.f3.map d59)), .d (.v (.int .i64 m.f4.f0)), .d (.v (.int .i64 m.f4.f1)), .d (.v (.string m.f4.f2)), .d (.v (.int .i64 m.f5.f0)), .d (.v (.int .i64 m.f5.f1)), .d (.v (.string m.f5.f2)), .d (.v (.int .i64 m.f6.f0)), .d (.v (.int .i64 m.f6.f1)), .d (.sl (m.f6.f2.map dS)), .d (.v (.int .i64 m.f7.f0)), .d (.sl (m.f7.f1.map dS)), .d (.sl (m.f7.f2.map dI))])), (512, some (.row 5 87 ((Lv3 ++ ([(⟨((⟨2, m.f2, m.f5.f0, m.f5.f1, m.f5.f2⟩ : S87)).f0, ((⟨2, m.f2, m.f5.f0, m.f5.f1, m.f5.f2⟩ : S87)).f1, ((⟨2, m.f2, m.f5.f0, m.f5.f1, m.f5.f2⟩ : S87)).f2, ((⟨2, m.f2, m.f5.f0, m.f5.f1, m.f5.f2⟩ : S87)).f3, ((⟨2, m.f2, m.f5.f0, m.f5.f1, m.f5.f2⟩ : S87)).f4⟩ : S87)] : List S87)).map d87) false true))], 544⟩) (congrArg (fun z : List (List D) => (⟨[(1, .pt 64 0 0), (3, .e (.c (.ref 512)))], [(64, some (.box [.d (.v (.int .i64 m.f0)), .d (.v (.string m.f1)), .d (.v (.int .i64 m.f2)), .d (.sl (m.f3.map d59)), .d (.v (.int .i64 m.f4.f0)), .d (.v (.int .i64 m.f4.f1)), .d (.v (.string m.f4.f2)), .d (.v (.int .i64 m.f5.f0)), .d (.v (.int .i64 m.f5.f1)), .d (.v (.string m.f5.f2)), .d (.v (.int .i64 m.f6.f0)), .d (.v (.int .i64 m.f6.f1)), .d (.sl (m.f6.f2.map dS)), .d (.v (.int .i64 m.f7.f0)), .d (.sl (m.f7.f1.map dS)), .d (.sl (m.f7.f2.map dI))])), (512, some (.row 5 87 z false true))], 544⟩ : St)) (show (Lv3.map d87) ++ (([(⟨((⟨2, m.f2, m.f5.f0, m.f5.f1, m.f5.f2⟩ : S87)).f0, ((⟨2, m.f2, m.f5.f0, m.f5.f1, m.f5.f2⟩ : S87)).f1, ((⟨2, m.f2, m.f5.f0, m.f5.f1, m.f5.f2⟩ : S87)).f2, ((⟨2, m.f2, m.f5.f0, m.f5.f1, m.f5.f2⟩ : S87)).f3, ((⟨2, m.f2, m.f5.f0, m.f5.f1, m.f5.f2⟩ : S87)).f4⟩ : S87)] : List S87).map d87) = ((Lv3 ++ ([(⟨((⟨2, m.f2, m.f5.f0, m.f5.f1, m.f5.f2⟩ : S87)).f0, ((⟨2, m.f2, m.f5.f0, m.f5.f1, m.f5.f2⟩ : S87)).f1, ((⟨2, m.f2, m.f5.f0, m.f5.f1, m.f5.f2⟩ : S87)).f2, ((⟨2, m.f2, m.f5.f0, m.f5.f1, m.f5.f2⟩ : S87)).f3, ((⟨2, m.f2, m.f5.f0, m.f5.f1, m.f5.f2⟩ : S87)).f4⟩ : S87)] : List S87)).map d87) from List.map_append.symm)) ?_
          refine ⟨⟨(Lv3 ++ ([(⟨((⟨2, m.f2, m.f5.f0, m.f5.f1, m.f5.f2⟩ : S87)).f0, ((⟨2, m.f2, m.f5.f0, m.f5.f1, m.f5.f2⟩ : S87)).f1, ((⟨2, m.f2, m.f5.f0, m.f5.f1, m.f5.f2⟩ : S87)).f2, ((⟨2, m.f2, m.f5.f0, m.f5.f1, m.f5.f2⟩ : S87)).f3, ((⟨2, m.f2, m.f5.f0, m.f5.f1, m.f5.f2⟩ : S87)).f4⟩ : S87)] : List S87)), ⟨by rw [hJ1]; unfold sgG; first | rw [if_neg ‹_›] | rw [if_pos ‹_›, List.append_nil], by first | omega | (simp only [List.length_append, List.length_cons, List.length_nil]; (first | omega | (dsimp only; omega)))⟩⟩, Wk.mk' [(64, 64), (512, 512)] (by kernel_rfl) (by kernel_rfl) (by kernel_rfl)⟩
        · replace hb10 := beq_yes (bnot_no (hb10))
          refine X.skip ?_
          refine ⟨⟨Lv3, ⟨by rw [hJ1]; unfold sgG; first | rw [if_neg ‹_›] | rw [if_pos ‹_›, List.append_nil], by first | omega | (simp only [List.length_append, List.length_cons, List.length_nil]; (first | omega | (dsimp only; omega)))⟩⟩, Wk.mk' [(64, 64), (512, 304)] (by kernel_rfl) (by kernel_rfl) (by kernel_rfl)⟩
      · obtain ⟨Lv3, hg9⟩ := g
        have hg9 : Lv3 = sgV m ++ sgG m ∧ Lv3.length ≤ 2 := hg9
        obtain ⟨hJ2, _⟩ := hg9
        refine X.seq ?_
        have hm6 : m.f6.f2.length ≤ 2000000 := hm.2.2.1.1
        have hm7 : m.f7.f1.length ≤ 2000000 := hm.2.2.2.1.1
        have hm8 : m.f7.f2.length ≤ 2000000 := hm.2.2.2.2
        have hm3 := hm.2.1
        have hmd := hd.2
        refine X.rs 5 hτ hmix (by kernel_rfl) ?_
        obtain ⟨r18, hr20, hf19⟩ := s_l13QcSigs Lv3 m.f2 m.f6 (by first | omega | (simp; done) | (simp; omega)) (by first | omega | (simp; done) | (simp; omega))
        replace hr20 := hr20.symm; subst hr20
        have hln := qcSigs_len m.f2 m.f6
        refine CH.call hf19 Try.func116 ⟨rfl, rfl⟩ [(512, 0)] (by kernel_rfl) (by kernel_rfl) (by kernel_rfl) (by kernel_rfl) ?_
        refine CH.go 4 hτ (by kernel_rfl) ?_
        obtain ⟨r22, hr24, hf23⟩ := s_l13TcSigs (Lv3 ++ qcSigs m.f2 m.f6) m.f2 m.f7 (by first | omega | (simp; done) | (simp; omega)) (by first | omega | (simp; done) | (simp; omega)) (by first | omega | (simp; done) | (simp; omega))
        replace hr24 := hr24.symm; subst hr24
        have hlt := tcSigs_len m.f2 m.f7
        refine CH.call hf23 Try.func115 ⟨rfl, rfl⟩ [(624, 0)] (by kernel_rfl) (by kernel_rfl) (by kernel_rfl) (by kernel_rfl) ?_
        refine CH.go 1 hτ (by kernel_rfl) ?_
        refine CH.endk ⟨[(1, .pt 64 0 0), (3, .e (.c (.ref 704)))], [(64, some (.box [.d (.v (.int .i64 m.f0)), .d (.v (.string m.f1)), .d (.v (.int .i64 m.f2)), .d (.sl (m.f3.map d59)), .d (.v (.int .i64 m.f4.f0)), .d (.v (.int .i64 m.f4.f1)), .d (.v (.string m.f4.f2)), .d (.v (.int .i64 m.f5.f0)), .d (.v (.int .i64 m.f5.f1)), .d (.v (.string m.f5.f2)), .d (.v (.int .i64 m.f6.f0)), .d (.v (.int .i64 m.f6.f1)), .d (.sl (m.f6.f2.map dS)), .d (.v (.int .i64 m.f7.f0)), .d (.sl (m.f7.f1.map dS)), .d (.sl (m.f7.f2.map dI))])), (704, some (.row 5 87 (((Lv3 ++ qcSigs m.f2 m.f6) ++ tcSigs m.f2 m.f7).map d87) false true))], 736⟩ (by kernel_rfl) (by kernel_rfl) rfl ?_
        refine X.seq ?_
        refine X.seq ?_
        refine X.rk ⟨[(1, .pt 64 0 0), (3, .e (.c (.ref 704))), (4, .e (.c (.d (.v (.int .i64 0)))))], [(64, some (.box [.d (.v (.int .i64 m.f0)), .d (.v (.string m.f1)), .d (.v (.int .i64 m.f2)), .d (.sl (m.f3.map d59)), .d (.v (.int .i64 m.f4.f0)), .d (.v (.int .i64 m.f4.f1)), .d (.v (.string m.f4.f2)), .d (.v (.int .i64 m.f5.f0)), .d (.v (.int .i64 m.f5.f1)), .d (.v (.string m.f5.f2)), .d (.v (.int .i64 m.f6.f0)), .d (.v (.int .i64 m.f6.f1)), .d (.sl (m.f6.f2.map dS)), .d (.v (.int .i64 m.f7.f0)), .d (.sl (m.f7.f1.map dS)), .d (.sl (m.f7.f2.map dI))])), (704, some (.row 5 87 (((Lv3 ++ qcSigs m.f2 m.f6) ++ tcSigs m.f2 m.f7).map d87) false true))], 752⟩ hτ hmix (by kernel_rfl) (by kernel_rfl) rfl ?_
        refine X.block ?_
        -- 8: Lv3 : List S87, v4 : Int
        refine X.loop (σ := { g : (List S87) × Int // (fun (Lv3 : List S87) (v4 : Int) => 0 ≤ v4 ∧ v4 ≤ m.f3.length ∧ Lv3.length ≤ 5000000 + 4000000 * v4.toNat ∧ Lv3 = sgM m ++ (m.f3.take v4.toNat).flatMap (sgB m.f2)) g.1 g.2 }) (fun g => (fun (Lv3 : List S87) (v4 : Int) => ⟨[(1, .pt 64 0 0), (3, .e (.c (.ref 704))), (4, .e (.c (.d (.v (.int .i64 v4)))))], [(64, some (.box [.d (.v (.int .i64 m.f0)), .d (.v (.string m.f1)), .d (.v (.int .i64 m.f2)), .d (.sl (m.f3.map d59)), .d (.v (.int .i64 m.f4.f0)), .d (.v (.int .i64 m.f4.f1)), .d (.v (.string m.f4.f2)), .d (.v (.int .i64 m.f5.f0)), .d (.v (.int .i64 m.f5.f1)), .d (.v (.string m.f5.f2)), .d (.v (.int .i64 m.f6.f0)), .d (.v (.int .i64 m.f6.f1)), .d (.sl (m.f6.f2.map dS)), .d (.v (.int .i64 m.f7.f0)), .d (.sl (m.f7.f1.map dS)), .d (.sl (m.f7.f2.map dI))])), (704, some (.row 5 87 (Lv3.map d87) false true))], 752⟩) g.1.1 g.1.2) (fun g => (fun (Lv3 : List S87) (v4 : Int) => (m.f3.length - v4).toNat) g.1.1 g.1.2) ⟨(((Lv3 ++ qcSigs m.f2 m.f6) ++ tcSigs m.f2 m.f7), 0), ⟨by first | omega | (dsimp only; omega), by first | omega | (dsimp only; omega), by simp only [List.length_append]; omega, by simp [sgM, hJ2, List.append_assoc]⟩⟩ (Wk.less (by kernel_rfl)) (fun g => ?_)
        obtain ⟨⟨Lv3, v4⟩, hg27⟩ := g
        have hg27 : 0 ≤ v4 ∧ v4 ≤ m.f3.length ∧ Lv3.length ≤ 5000000 + 4000000 * v4.toNat ∧ Lv3 = sgM m ++ (m.f3.take v4.toNat).flatMap (sgB m.f2) := hg27
        obtain ⟨_, _, _, hq2⟩ := hg27
        refine X.seq ?_
        refine X.seq ?_
        have el28 : (m.f3.map d59).length = m.f3.length := List.length_map ..
        refine X.rk ⟨[(1, .pt 64 0 0), (3, .e (.c (.ref 704))), (4, .e (.c (.d (.v (.int .i64 v4))))), (45, .e (.c (.d (.v (.bool (decide ((v4 : Int) < ((m.f3.map d59).length : Int))))))))], [(64, some (.box [.d (.v (.int .i64 m.f0)), .d (.v (.string m.f1)), .d (.v (.int .i64 m.f2)), .d (.sl (m.f3.map d59)), .d (.v (.int .i64 m.f4.f0)), .d (.v (.int .i64 m.f4.f1)), .d (.v (.string m.f4.f2)), .d (.v (.int .i64 m.f5.f0)), .d (.v (.int .i64 m.f5.f1)), .d (.v (.string m.f5.f2)), .d (.v (.int .i64 m.f6.f0)), .d (.v (.int .i64 m.f6.f1)), .d (.sl (m.f6.f2.map dS)), .d (.v (.int .i64 m.f7.f0)), .d (.sl (m.f7.f1.map dS)), .d (.sl (m.f7.f2.map dI))])), (704, some (.row 5 87 (Lv3.map d87) false true))], 832⟩ hτ hmix (by kernel_rfl) (by kernel_rfl) rfl ?_
        refine X.if_ (b := decide ((v4 : Int) < ((m.f3.map d59).length : Int))) (by kernel_rfl) (fun hb29 => ?_) (fun hb29 => ?_)
        · replace hb29 := of_decide_eq_true (hb29)
          refine X.skip ?_
          refine X.seq ?_
          refine X.block ?_
          refine X.rs 6 hτ hmix (by kernel_rfl) ?_
          obtain ⟨x30, hx30⟩ : ∃ x, m.f3[Int.toNat v4]? = some x := ⟨_, List.getElem?_eq_getElem (by first | omega | (simp; done) | (simp; omega))⟩
          obtain ⟨_, ⟨hx1, _⟩, ⟨⟨hx2, _⟩, hx3⟩, _⟩ := hm.1.at hx30; have hx4 := (hd.1 _ (List.mem_of_getElem? hx30)).2.2
          refine CH.idx hτ (d59 x30) (rows := (m.f3.map d59)) (n := v4) (sz := 14) (by kernel_rfl) (by kernel_rfl) (by first | omega | (simp; done) | (simp; omega)) (by rw [List.getElem?_map, hx30]; rfl) (by kernel_rfl) ?_
          refine CH.go 2 hτ (by kernel_rfl) ?_
          obtain ⟨r31, hr33, hf32⟩ := s_l13QcSigs Lv3 m.f2 x30.f4 (by first | omega | (simp; done) | (simp; omega)) (by first | omega | (simp; done) | (simp; omega))
          replace hr33 := hr33.symm; subst hr33
          have hln := qcSigs_len m.f2 x30.f4
          refine CH.call hf32 Try.func116 ⟨rfl, rfl⟩ [(704, 0)] (by kernel_rfl) (by kernel_rfl) (by kernel_rfl) (by kernel_rfl) ?_
          refine CH.go 5 hτ (by kernel_rfl) ?_
          refine CH.idx hτ (d59 x30) (rows := (m.f3.map d59)) (n := v4) (sz := 14) (by kernel_rfl) (by kernel_rfl) (by first | omega | (simp; done) | (simp; omega)) (by rw [List.getElem?_map, hx30]; rfl) (by kernel_rfl) ?_
          refine CH.go 2 hτ (by kernel_rfl) ?_
          obtain ⟨r35, hr37, hf36⟩ := s_l13TcSigs (Lv3 ++ qcSigs m.f2 x30.f4) m.f2 x30.f5 (by first | omega | (simp; done) | (simp; omega)) (by first | omega | (simp; done) | (simp; omega)) (by first | omega | (simp; done) | (simp; omega))
          replace hr37 := hr37.symm; subst hr37
          have hlt := tcSigs_len m.f2 x30.f5
          refine CH.call hf36 Try.func115 ⟨rfl, rfl⟩ [(976, 0)] (by kernel_rfl) (by kernel_rfl) (by kernel_rfl) (by kernel_rfl) ?_
          refine CH.go 1 hτ (by kernel_rfl) ?_
          refine CH.endk ⟨[(1, .pt 64 0 0), (3, .e (.c (.ref 1120))), (4, .e (.c (.d (.v (.int .i64 v4)))))], [(64, some (.box [.d (.v (.int .i64 m.f0)), .d (.v (.string m.f1)), .d (.v (.int .i64 m.f2)), .d (.sl (m.f3.map d59)), .d (.v (.int .i64 m.f4.f0)), .d (.v (.int .i64 m.f4.f1)), .d (.v (.string m.f4.f2)), .d (.v (.int .i64 m.f5.f0)), .d (.v (.int .i64 m.f5.f1)), .d (.v (.string m.f5.f2)), .d (.v (.int .i64 m.f6.f0)), .d (.v (.int .i64 m.f6.f1)), .d (.sl (m.f6.f2.map dS)), .d (.v (.int .i64 m.f7.f0)), .d (.sl (m.f7.f1.map dS)), .d (.sl (m.f7.f2.map dI))])), (1120, some (.row 5 87 (((Lv3 ++ qcSigs m.f2 x30.f4) ++ tcSigs m.f2 x30.f5).map d87) false true))], 1152⟩ (by kernel_rfl) (by kernel_rfl) rfl ?_
          refine X.rk ⟨[(1, .pt 64 0 0), (3, .e (.c (.ref 1120))), (4, .e (.c (.d (.v (.int .i64 (wrap64 (v4 + 1)))))))], [(64, some (.box [.d (.v (.int .i64 m.f0)), .d (.v (.string m.f1)), .d (.v (.int .i64 m.f2)), .d (.sl (m.f3.map d59)), .d (.v (.int .i64 m.f4.f0)), .d (.v (.int .i64 m.f4.f1)), .d (.v (.string m.f4.f2)), .d (.v (.int .i64 m.f5.f0)), .d (.v (.int .i64 m.f5.f1)), .d (.v (.string m.f5.f2)), .d (.v (.int .i64 m.f6.f0)), .d (.v (.int .i64 m.f6.f1)), .d (.sl (m.f6.f2.map dS)), .d (.v (.int .i64 m.f7.f0)), .d (.sl (m.f7.f1.map dS)), .d (.sl (m.f7.f2.map dI))])), (1120, some (.row 5 87 (((Lv3 ++ qcSigs m.f2 x30.f4) ++ tcSigs m.f2 x30.f5).map d87) false true))], 1200⟩ hτ hmix (by kernel_rfl) (by kernel_rfl) (s2 := ⟨[(1, .pt 64 0 0), (3, .e (.c (.ref 1120))), (4, .e (.c (.d (.v (.int .i64 (v4 + 1))))))], [(64, some (.box [.d (.v (.int .i64 m.f0)), .d (.v (.string m.f1)), .d (.v (.int .i64 m.f2)), .d (.sl (m.f3.map d59)), .d (.v (.int .i64 m.f4.f0)), .d (.v (.int .i64 m.f4.f1)), .d (.v (.string m.f4.f2)), .d (.v (.int .i64 m.f5.f0)), .d (.v (.int .i64 m.f5.f1)), .d (.v (.string m.f5.f2)), .d (.v (.int .i64 m.f6.f0)), .d (.v (.int .i64 m.f6.f1)), .d (.sl (m.f6.f2.map dS)), .d (.v (.int .i64 m.f7.f0)), .d (.sl (m.f7.f1.map dS)), .d (.sl (m.f7.f2.map dI))])), (1120, some (.row 5 87 (((Lv3 ++ qcSigs m.f2 x30.f4) ++ tcSigs m.f2 x30.f5).map d87) false true))], 1200⟩) (congrArg (fun z : Int => (⟨[(1, .pt 64 0 0), (3, .e (.c (.ref 1120))), (4, .e (.c (.d (.v (.int .i64 z)))))], [(64, some (.box [.d (.v (.int .i64 m.f0)), .d (.v (.string m.f1)), .d (.v (.int .i64 m.f2)), .d (.sl (m.f3.map d59)), .d (.v (.int .i64 m.f4.f0)), .d (.v (.int .i64 m.f4.f1)), .d (.v (.string m.f4.f2)), .d (.v (.int .i64 m.f5.f0)), .d (.v (.int .i64 m.f5.f1)), .d (.v (.string m.f5.f2)), .d (.v (.int .i64 m.f6.f0)), .d (.v (.int .i64 m.f6.f1)), .d (.sl (m.f6.f2.map dS)), .d (.v (.int .i64 m.f7.f0)), .d (.sl (m.f7.f1.map dS)), .d (.sl (m.f7.f2.map dI))])), (1120, some (.row 5 87 (((Lv3 ++ qcSigs m.f2 x30.f4) ++ tcSigs m.f2 x30.f5).map d87) false true))], 1200⟩ : St)) (show wrap64 (v4 + 1) = (v4 + 1) by rw [w64 (n := (v4 + 1)) (by omega) (by omega)])) ?_
          refine ⟨⟨(((Lv3 ++ qcSigs m.f2 x30.f4) ++ tcSigs m.f2 x30.f5), (v4 + 1)), ⟨by first | omega | (dsimp only; omega), by first | omega | (dsimp only; omega), by simp only [List.length_append]; omega, by rw [hq2, ← flat_next (by first | omega | (dsimp only; omega)) ‹_›]; simp only [sgB, List.append_assoc]⟩⟩, by first | exact rfl | omega | (dsimp only; omega) | (simp only [List.length_append, List.length_cons, List.length_nil, List.length_set]; omega) | (simp; done) | (simp; omega), Wk.mk' [(64, 64), (704, 1120)] (by kernel_rfl) (by kernel_rfl) (by kernel_rfl)⟩
        · replace hb29 := of_decide_eq_false (hb29)
          refine X.exit ?_
          refine X.seq ?_
          refine X.rk ⟨[(2, .e (.c (.ref 704)))], [(704, some (.row 5 87 (Lv3.map d87) false true))], 864⟩ hτ hmix (by kernel_rfl) (by kernel_rfl) rfl ?_
          refine X.ret ?_
          exact ⟨trivial, _, _, ⟨Lv3, (by rw [hq2, List.take_of_length_le (by omega)]; rfl), rfl, rfl⟩, .inr ⟨⟨[(2, .e (.c (.f (.sl (Lv3.map d87)))))], [(704, some (.row 5 87 (Lv3.map d87) true true))], 864⟩, Wk.less (by kernel_rfl), Ret.mk' [] (by kernel_rfl) (by kernel_rfl) (by kernel_rfl)⟩⟩
  obtain ⟨_, _, ⟨r0, q1, rfl, rfl⟩, hf⟩ := key
  exact ⟨r0, q1, hf⟩

theorem i_SigsOf (m : S80) (hm : Sm80 m) (hd : Dr80 m) : ∃ r0 : List S87, (r0 = sigsOf m) ∧ Fn Try.prog 48 [.e (.agg [.d (.v (.int .i64 m.f0)), .d (.v (.string m.f1)), .d (.v (.int .i64 m.f2)), .d (.sl (m.f3.map d59)), .d (.v (.int .i64 m.f4.f0)), .d (.v (.int .i64 m.f4.f1)), .d (.v (.string m.f4.f2)), .d (.v (.int .i64 m.f5.f0)), .d (.v (.int .i64 m.f5.f1)), .d (.v (.string m.f5.f2)), .d (.v (.int .i64 m.f6.f0)), .d (.v (.int .i64 m.f6.f1)), .d (.sl (m.f6.f2.map dS)), .d (.v (.int .i64 m.f7.f0)), .d (.sl (m.f7.f1.map dS)), .d (.sl (m.f7.f2.map dI))])] (lookH []) (.e (.c (.f (.sl (r0.map d87))))) (lookH []) := by
  have key : ∃ x' h', ((fun x' h' => ∃ r0 : List S87, (r0 = sigsOf m) ∧ x' = .e (.c (.f (.sl (r0.map d87)))) ∧ h' = [])) x' h' ∧ Fn Try.prog 48 [.e (.agg [.d (.v (.int .i64 m.f0)), .d (.v (.string m.f1)), .d (.v (.int .i64 m.f2)), .d (.sl (m.f3.map d59)), .d (.v (.int .i64 m.f4.f0)), .d (.v (.int .i64 m.f4.f1)), .d (.v (.string m.f4.f2)), .d (.v (.int .i64 m.f5.f0)), .d (.v (.int .i64 m.f5.f1)), .d (.v (.string m.f5.f2)), .d (.v (.int .i64 m.f6.f0)), .d (.v (.int .i64 m.f6.f1)), .d (.sl (m.f6.f2.map dS)), .d (.v (.int .i64 m.f7.f0)), .d (.sl (m.f7.f1.map dS)), .d (.sl (m.f7.f2.map dI))])] (lookH []) x' (lookH h') := by
    refine Fn.bodyX (N := 67) hτ Try.func48 rfl rfl rfl rfl ?_
    refine X.seq ?_
    refine X.rk ⟨[(1, .pt 64 0 0)], [(64, some (.box [.d (.v (.int .i64 m.f0)), .d (.v (.string m.f1)), .d (.v (.int .i64 m.f2)), .d (.sl (m.f3.map d59)), .d (.v (.int .i64 m.f4.f0)), .d (.v (.int .i64 m.f4.f1)), .d (.v (.string m.f4.f2)), .d (.v (.int .i64 m.f5.f0)), .d (.v (.int .i64 m.f5.f1)), .d (.v (.string m.f5.f2)), .d (.v (.int .i64 m.f6.f0)), .d (.v (.int .i64 m.f6.f1)), .d (.sl (m.f6.f2.map dS)), .d (.v (.int .i64 m.f7.f0)), .d (.sl (m.f7.f1.map dS)), .d (.sl (m.f7.f2.map dI))]))], 96⟩ hτ hmix (by kernel_rfl) (by kernel_rfl) rfl ?_
    refine X.seq ?_
    refine X.rk ⟨[(1, .pt 64 0 0), (3, .e (.c (.nil)))], [(64, some (.box [.d (.v (.int .i64 m.f0)), .d (.v (.string m.f1)), .d (.v (.int .i64 m.f2)), .d (.sl (m.f3.map d59)), .d (.v (.int .i64 m.f4.f0)), .d (.v (.int .i64 m.f4.f1)), .d (.v (.string m.f4.f2)), .d (.v (.int .i64 m.f5.f0)), .d (.v (.int .i64 m.f5.f1)), .d (.v (.string m.f5.f2)), .d (.v (.int .i64 m.f6.f0)), .d (.v (.int .i64 m.f6.f1)), .d (.sl (m.f6.f2.map dS)), .d (.v (.int .i64 m.f7.f0)), .d (.sl (m.f7.f1.map dS)), .d (.sl (m.f7.f2.map dI))]))], 112⟩ hτ hmix (by kernel_rfl) (by kernel_rfl) rfl ?_
    -- join: Lv3 : List S87
    refine X.seqJ (σ := { g : (List S87) // (fun (Lv3 : List S87) => Lv3 = sgV m ∧ Lv3.length ≤ 1) g }) (fun g => (fun (Lv3 : List S87) => ⟨[(1, .pt 64 0 0), (3, .e (.c (.ref 304)))], [(64, some (.box [.d (.v (.int .i64 m.f0)), .d (.v (.string m.f1)), .d (.v (.int .i64 m.f2)), .d (.sl (m.f3.map d59)), .d (.v (.int .i64 m.f4.f0)), .d (.v (.int .i64 m.f4.f1)), .d (.v (.string m.f4.f2)), .d (.v (.int .i64 m.f5.f0)), .d (.v (.int .i64 m.f5.f1)), .d (.v (.string m.f5.f2)), .d (.v (.int .i64 m.f6.f0)), .d (.v (.int .i64 m.f6.f1)), .d (.sl (m.f6.f2.map dS)), .d (.v (.int .i64 m.f7.f0)), .d (.sl (m.f7.f1.map dS)), .d (.sl (m.f7.f2.map dI))])), (304, some (.row 5 87 (Lv3.map d87) false true))], 336⟩) g.1) ?_ (fun g => ?_)
    · refine X.seq ?_
      refine X.weak (Wk.ownT 3 5 87 (by kernel_rfl) (by kernel_rfl) (by kernel_rfl)) ?_
      refine X.rk ⟨[(1, .pt 64 0 0), (3, .e (.c (.ref 112))), (9, .e (.c (.d (.v (.bool (!(m.f4.f2.toList == (⟨#[]⟩ : ByteArray).toList)))))))], [(64, some (.box [.d (.v (.int .i64 m.f0)), .d (.v (.string m.f1)), .d (.v (.int .i64 m.f2)), .d (.sl (m.f3.map d59)), .d (.v (.int .i64 m.f4.f0)), .d (.v (.int .i64 m.f4.f1)), .d (.v (.string m.f4.f2)), .d (.v (.int .i64 m.f5.f0)), .d (.v (.int .i64 m.f5.f1)), .d (.v (.string m.f5.f2)), .d (.v (.int .i64 m.f6.f0)), .d (.v (.int .i64 m.f6.f1)), .d (.sl (m.f6.f2.map dS)), .d (.v (.int .i64 m.f7.f0)), .d (.sl (m.f7.f1.map dS)), .d (.sl (m.f7.f2.map dI))])), (112, some (.row 5 87 [] false true))], 192⟩ hτ hmix (by kernel_rfl) (by kernel_rfl) rfl ?_
      refine X.if_ (b := !(m.f4.f2.toList == (⟨#[]⟩ : ByteArray).toList)) (by kernel_rfl) (fun hb2 => ?_) (fun hb2 => ?_)
      · replace hb2 := beq_no (bnot_yes (hb2))
        refine X.rs 5 hτ hmix (by kernel_rfl) ?_
        obtain ⟨r3, hr5, hf4⟩ := i_voteSig m.f2 m.f4
        replace hr5 := hr5.symm; subst hr5
        refine CH.call hf4 Try.func105 ⟨rfl, rfl⟩ [] (by kernel_rfl) (by kernel_rfl) (by kernel_rfl) (by kernel_rfl) ?_
        refine CH.go 1 hτ (by kernel_rfl) ?_
        have el7 : (([(⟨((⟨1, m.f2, m.f4.f0, m.f4.f1, m.f4.f2⟩ : S87)).f0, ((⟨1, m.f2, m.f4.f0, m.f4.f1, m.f4.f2⟩ : S87)).f1, ((⟨1, m.f2, m.f4.f0, m.f4.f1, m.f4.f2⟩ : S87)).f2, ((⟨1, m.f2, m.f4.f0, m.f4.f1, m.f4.f2⟩ : S87)).f3, ((⟨1, m.f2, m.f4.f0, m.f4.f1, m.f4.f2⟩ : S87)).f4⟩ : S87)] : List S87).map d87).length = ([(⟨((⟨1, m.f2, m.f4.f0, m.f4.f1, m.f4.f2⟩ : S87)).f0, ((⟨1, m.f2, m.f4.f0, m.f4.f1, m.f4.f2⟩ : S87)).f1, ((⟨1, m.f2, m.f4.f0, m.f4.f1, m.f4.f2⟩ : S87)).f2, ((⟨1, m.f2, m.f4.f0, m.f4.f1, m.f4.f2⟩ : S87)).f3, ((⟨1, m.f2, m.f4.f0, m.f4.f1, m.f4.f2⟩ : S87)).f4⟩ : S87)] : List S87).length := List.length_map ..
        have el8 : ([(⟨((⟨1, m.f2, m.f4.f0, m.f4.f1, m.f4.f2⟩ : S87)).f0, ((⟨1, m.f2, m.f4.f0, m.f4.f1, m.f4.f2⟩ : S87)).f1, ((⟨1, m.f2, m.f4.f0, m.f4.f1, m.f4.f2⟩ : S87)).f2, ((⟨1, m.f2, m.f4.f0, m.f4.f1, m.f4.f2⟩ : S87)).f3, ((⟨1, m.f2, m.f4.f0, m.f4.f1, m.f4.f2⟩ : S87)).f4⟩ : S87)] : List S87).length = 1 := rfl
        refine CH.app hτ (rows := []) (rows2 := (([(⟨((⟨1, m.f2, m.f4.f0, m.f4.f1, m.f4.f2⟩ : S87)).f0, ((⟨1, m.f2, m.f4.f0, m.f4.f1, m.f4.f2⟩ : S87)).f1, ((⟨1, m.f2, m.f4.f0, m.f4.f1, m.f4.f2⟩ : S87)).f2, ((⟨1, m.f2, m.f4.f0, m.f4.f1, m.f4.f2⟩ : S87)).f3, ((⟨1, m.f2, m.f4.f0, m.f4.f1, m.f4.f2⟩ : S87)).f4⟩ : S87)] : List S87).map d87)) (sz := 5) (bys := 48) true (by kernel_rfl) (by kernel_rfl) (fun _ => flat_d d87 (fun x => rfl)) (flat_ok (f := d87) (fun x => rfl)) (by simp only [List.length_map] <;> (first | done | omega | (simp; done) | (simp; omega))) (by kernel_rfl) ?_
        refine CH.go 1 hτ (by kernel_rfl) ?_
        refine CH.endk ⟨[(1, .pt 64 0 0), (3, .e (.c (.ref 304)))], [(64, some (.box [.d (.v (.int .i64 m.f0)), .d (.v (.string m.f1)), .d (.v (.int .i64 m.f2)), .d (.sl (m.f3.map d59)), .d (.v (.int .i64 m.f4.f0)), .d (.v (.int .i64 m.f4.f1)), .d (.v (.string m.f4.f2)), .d (.v (.int .i64 m.f5.f0)), .d (.v (.int .i64 m.f5.f1)), .d (.v (.string m.f5.f2)), .d (.v (.int .i64 m.f6.f0)), .d (.v (.int .i64 m.f6.f1)), .d (.sl (m.f6.f2.map dS)), .d (.v (.int .i64 m.f7.f0)), .d (.sl (m.f7.f1.map dS)), .d (.sl (m.f7.f2.map dI))])), (304, some (.row 5 87 (([(⟨((⟨1, m.f2, m.f4.f0, m.f4.f1, m.f4.f2⟩ : S87)).f0, ((⟨1, m.f2, m.f4.f0, m.f4.f1, m.f4.f2⟩ : S87)).f1, ((⟨1, m.f2, m.f4.f0, m.f4.f1, m.f4.f2⟩ : S87)).f2, ((⟨1, m.f2, m.f4.f0, m.f4.f1, m.f4.f2⟩ : S87)).f3, ((⟨1, m.f2, m.f4.f0, m.f4.f1, m.f4.f2⟩ : S87)).f4⟩ : S87)] : List S87).map d87) false true))], 336⟩ (by kernel_rfl) (by kernel_rfl) rfl ?_
        refine ⟨⟨([(⟨((⟨1, m.f2, m.f4.f0, m.f4.f1, m.f4.f2⟩ : S87)).f0, ((⟨1, m.f2, m.f4.f0, m.f4.f1, m.f4.f2⟩ : S87)).f1, ((⟨1, m.f2, m.f4.f0, m.f4.f1, m.f4.f2⟩ : S87)).f2, ((⟨1, m.f2, m.f4.f0, m.f4.f1, m.f4.f2⟩ : S87)).f3, ((⟨1, m.f2, m.f4.f0, m.f4.f1, m.f4.f2⟩ : S87)).f4⟩ : S87)] : List S87), ⟨by unfold sgV; first | rw [if_neg ‹_›] | rw [if_pos ‹_›], by simp⟩⟩, Wk.mk' [(64, 64), (304, 304)] (by kernel_rfl) (by kernel_rfl) (by kernel_rfl)⟩
      · replace hb2 := beq_yes (bnot_no (hb2))
        refine X.skip ?_
        refine ⟨⟨[], ⟨by unfold sgV; first | rw [if_neg ‹_›] | rw [if_pos ‹_›], by simp⟩⟩, Wk.mk' [(64, 64), (304, 112)] (by kernel_rfl) (by kernel_rfl) (by kernel_rfl)⟩
    · obtain ⟨Lv3, hg1⟩ := g
      have hg1 : Lv3 = sgV m ∧ Lv3.length ≤ 1 := hg1
      obtain ⟨hJ1, _⟩ := hg1
      -- join: Lv3 : List S87
      refine X.seqJ (σ := { g : (List S87) // (fun (Lv3 : List S87) => Lv3 = sgV m ++ sgG m ∧ Lv3.length ≤ 2) g }) (fun g => (fun (Lv3 : List S87) => ⟨[(1, .pt 64 0 0), (3, .e (.c (.ref 512)))], [(64, some (.box [.d (.v (.int .i64 m.f0)), .d (.v (.string m.f1)), .d (.v (.int .i64 m.f2)), .d (.sl (m.f3.map d59)), .d (.v (.int .i64 m.f4.f0)), .d (.v (.int .i64 m.f4.f1)), .d (.v (.string m.f4.f2)), .d (.v (.int .i64 m.f5.f0)), .d (.v (.int .i64 m.f5.f1)), .d (.v (.string m.f5.f2)), .d (.v (.int .i64 m.f6.f0)), .d (.v (.int .i64 m.f6.f1)), .d (.sl (m.f6.f2.map dS)), .d (.v (.int .i64 m.f7.f0)), .d (.sl (m.f7.f1.map dS)), .d (.sl (m.f7.f2.map dI))])), (512, some (.row 5 87 (Lv3.map d87) false true))], 544⟩) g.1) ?_ (fun g => ?_)
      · refine X.seq ?_
        refine X.rk ⟨[(1, .pt 64 0 0), (3, .e (.c (.ref 304))), (21, .e (.c (.d (.v (.bool (!(m.f5.f2.toList == (⟨#[]⟩ : ByteArray).toList)))))))], [(64, some (.box [.d (.v (.int .i64 m.f0)), .d (.v (.string m.f1)), .d (.v (.int .i64 m.f2)), .d (.sl (m.f3.map d59)), .d (.v (.int .i64 m.f4.f0)), .d (.v (.int .i64 m.f4.f1)), .d (.v (.string m.f4.f2)), .d (.v (.int .i64 m.f5.f0)), .d (.v (.int .i64 m.f5.f1)), .d (.v (.string m.f5.f2)), .d (.v (.int .i64 m.f6.f0)), .d (.v (.int .i64 m.f6.f1)), .d (.sl (m.f6.f2.map dS)), .d (.v (.int .i64 m.f7.f0)), .d (.sl (m.f7.f1.map dS)), .d (.sl (m.f7.f2.map dI))])), (304, some (.row 5 87 (Lv3.map d87) false true))], 400⟩ hτ hmix (by kernel_rfl) (by kernel_rfl) rfl ?_
        refine X.if_ (b := !(m.f5.f2.toList == (⟨#[]⟩ : ByteArray).toList)) (by kernel_rfl) (fun hb10 => ?_) (fun hb10 => ?_)
        · replace hb10 := beq_no (bnot_yes (hb10))
          refine X.rs 5 hτ hmix (by kernel_rfl) ?_
          obtain ⟨r11, hr13, hf12⟩ := i_goneSig m.f2 m.f5
          replace hr13 := hr13.symm; subst hr13
          refine CH.call hf12 Try.func106 ⟨rfl, rfl⟩ [] (by kernel_rfl) (by kernel_rfl) (by kernel_rfl) (by kernel_rfl) ?_
          refine CH.go 1 hτ (by kernel_rfl) ?_
          have el15 : (Lv3.map d87).length = Lv3.length := List.length_map ..
          have el16 : (([(⟨((⟨2, m.f2, m.f5.f0, m.f5.f1, m.f5.f2⟩ : S87)).f0, ((⟨2, m.f2, m.f5.f0, m.f5.f1, m.f5.f2⟩ : S87)).f1, ((⟨2, m.f2, m.f5.f0, m.f5.f1, m.f5.f2⟩ : S87)).f2, ((⟨2, m.f2, m.f5.f0, m.f5.f1, m.f5.f2⟩ : S87)).f3, ((⟨2, m.f2, m.f5.f0, m.f5.f1, m.f5.f2⟩ : S87)).f4⟩ : S87)] : List S87).map d87).length = ([(⟨((⟨2, m.f2, m.f5.f0, m.f5.f1, m.f5.f2⟩ : S87)).f0, ((⟨2, m.f2, m.f5.f0, m.f5.f1, m.f5.f2⟩ : S87)).f1, ((⟨2, m.f2, m.f5.f0, m.f5.f1, m.f5.f2⟩ : S87)).f2, ((⟨2, m.f2, m.f5.f0, m.f5.f1, m.f5.f2⟩ : S87)).f3, ((⟨2, m.f2, m.f5.f0, m.f5.f1, m.f5.f2⟩ : S87)).f4⟩ : S87)] : List S87).length := List.length_map ..
          have el17 : ([(⟨((⟨2, m.f2, m.f5.f0, m.f5.f1, m.f5.f2⟩ : S87)).f0, ((⟨2, m.f2, m.f5.f0, m.f5.f1, m.f5.f2⟩ : S87)).f1, ((⟨2, m.f2, m.f5.f0, m.f5.f1, m.f5.f2⟩ : S87)).f2, ((⟨2, m.f2, m.f5.f0, m.f5.f1, m.f5.f2⟩ : S87)).f3, ((⟨2, m.f2, m.f5.f0, m.f5.f1, m.f5.f2⟩ : S87)).f4⟩ : S87)] : List S87).length = 1 := rfl
          refine CH.app hτ (rows := (Lv3.map d87)) (rows2 := (([(⟨((⟨2, m.f2, m.f5.f0, m.f5.f1, m.f5.f2⟩ : S87)).f0, ((⟨2, m.f2, m.f5.f0, m.f5.f1, m.f5.f2⟩ : S87)).f1, ((⟨2, m.f2, m.f5.f0, m.f5.f1, m.f5.f2⟩ : S87)).f2, ((⟨2, m.f2, m.f5.f0, m.f5.f1, m.f5.f2⟩ : S87)).f3, ((⟨2, m.f2, m.f5.f0, m.f5.f1, m.f5.f2⟩ : S87)).f4⟩ : S87)] : List S87).map d87)) (sz := 5) (bys := 48) true (by kernel_rfl) (by kernel_rfl) (fun _ => flat_d d87 (fun x => rfl)) (flat_ok (f := d87) (fun x => rfl)) (by simp only [List.length_map] <;> (first | done | omega | (simp; done) | (simp; omega))) (by kernel_rfl) ?_
          refine CH.go 1 hτ (by kernel_rfl) ?_
          refine CH.endk ⟨[(1, .pt 64 0 0), (3, .e (.c (.ref 512)))], [(64, some (.box [.d (.v (.int .i64 m.f0)), .d (.v (.string m.f1)), .d (.v (.int .i64 m.f2)), .d (.sl (m.f3.map d59)), .d (.v (.int .i64 m.f4.f0)), .d (.v (.int .i64 m.f4.f1)), .d (.v (.string m.f4.f2)), .d (.v (.int .i64 m.f5.f0)), .d (.v (.int .i64 m.f5.f1)), .d (.v (.string m.f5.f2)), .d (.v (.int .i64 m.f6.f0)), .d (.v (.int .i64 m.f6.f1)), .d (.sl (m.f6.f2.map dS)), .d (.v (.int .i64 m.f7.f0)), .d (.sl (m.f7.f1.map dS)), .d (.sl (m.f7.f2.map dI))])), (512, some (.row 5 87 ((Lv3.map d87) ++ (([(⟨((⟨2, m.f2, m.f5.f0, m.f5.f1, m.f5.f2⟩ : S87)).f0, ((⟨2, m.f2, m.f5.f0, m.f5.f1, m.f5.f2⟩ : S87)).f1, ((⟨2, m.f2, m.f5.f0, m.f5.f1, m.f5.f2⟩ : S87)).f2, ((⟨2, m.f2, m.f5.f0, m.f5.f1, m.f5.f2⟩ : S87)).f3, ((⟨2, m.f2, m.f5.f0, m.f5.f1, m.f5.f2⟩ : S87)).f4⟩ : S87)] : List S87).map d87)) false true))], 544⟩ (by kernel_rfl) (by kernel_rfl) (s2 := ⟨[(1, .pt 64 0 0), (3, .e (.c (.ref 512)))], [(64, some (.box [.d (.v (.int .i64 m.f0)), .d (.v (.string m.f1)), .d (.v (.int .i64 m.f2)), .d (.sl (m.f3.map d59)), .d (.v (.int .i64 m.f4.f0)), .d (.v (.int .i64 m.f4.f1)), .d (.v (.string m.f4.f2)), .d (.v (.int .i64 m.f5.f0)), .d (.v (.int .i64 m.f5.f1)), .d (.v (.string m.f5.f2)), .d (.v (.int .i64 m.f6.f0)), .d (.v (.int .i64 m.f6.f1)), .d (.sl (m.f6.f2.map dS)), .d (.v (.int .i64 m.f7.f0)), .d (.sl (m.f7.f1.map dS)), .d (.sl (m.f7.f2.map dI))])), (512, some (.row 5 87 ((Lv3 ++ ([(⟨((⟨2, m.f2, m.f5.f0, m.f5.f1, m.f5.f2⟩ : S87)).f0, ((⟨2, m.f2, m.f5.f0, m.f5.f1, m.f5.f2⟩ : S87)).f1, ((⟨2, m.f2, m.f5.f0, m.f5.f1, m.f5.f2⟩ : S87)).f2, ((⟨2, m.f2, m.f5.f0, m.f5.f1, m.f5.f2⟩ : S87)).f3, ((⟨2, m.f2, m.f5.f0, m.f5.f1, m.f5.f2⟩ : S87)).f4⟩ : S87)] : List S87)).map d87) false true))], 544⟩) (congrArg (fun z : List (List D) => (⟨[(1, .pt 64 0 0), (3, .e (.c (.ref 512)))], [(64, some (.box [.d (.v (.int .i64 m.f0)), .d (.v (.string m.f1)), .d (.v (.int .i64 m.f2)), .d (.sl (m.f3.map d59)), .d (.v (.int .i64 m.f4.f0)), .d (.v (.int .i64 m.f4.f1)), .d (.v (.string m.f4.f2)), .d (.v (.int .i64 m.f5.f0)), .d (.v (.int .i64 m.f5.f1)), .d (.v (.string m.f5.f2)), .d (.v (.int .i64 m.f6.f0)), .d (.v (.int .i64 m.f6.f1)), .d (.sl (m.f6.f2.map dS)), .d (.v (.int .i64 m.f7.f0)), .d (.sl (m.f7.f1.map dS)), .d (.sl (m.f7.f2.map dI))])), (512, some (.row 5 87 z false true))], 544⟩ : St)) (show (Lv3.map d87) ++ (([(⟨((⟨2, m.f2, m.f5.f0, m.f5.f1, m.f5.f2⟩ : S87)).f0, ((⟨2, m.f2, m.f5.f0, m.f5.f1, m.f5.f2⟩ : S87)).f1, ((⟨2, m.f2, m.f5.f0, m.f5.f1, m.f5.f2⟩ : S87)).f2, ((⟨2, m.f2, m.f5.f0, m.f5.f1, m.f5.f2⟩ : S87)).f3, ((⟨2, m.f2, m.f5.f0, m.f5.f1, m.f5.f2⟩ : S87)).f4⟩ : S87)] : List S87).map d87) = ((Lv3 ++ ([(⟨((⟨2, m.f2, m.f5.f0, m.f5.f1, m.f5.f2⟩ : S87)).f0, ((⟨2, m.f2, m.f5.f0, m.f5.f1, m.f5.f2⟩ : S87)).f1, ((⟨2, m.f2, m.f5.f0, m.f5.f1, m.f5.f2⟩ : S87)).f2, ((⟨2, m.f2, m.f5.f0, m.f5.f1, m.f5.f2⟩ : S87)).f3, ((⟨2, m.f2, m.f5.f0, m.f5.f1, m.f5.f2⟩ : S87)).f4⟩ : S87)] : List S87)).map d87) from List.map_append.symm)) ?_
          refine ⟨⟨(Lv3 ++ ([(⟨((⟨2, m.f2, m.f5.f0, m.f5.f1, m.f5.f2⟩ : S87)).f0, ((⟨2, m.f2, m.f5.f0, m.f5.f1, m.f5.f2⟩ : S87)).f1, ((⟨2, m.f2, m.f5.f0, m.f5.f1, m.f5.f2⟩ : S87)).f2, ((⟨2, m.f2, m.f5.f0, m.f5.f1, m.f5.f2⟩ : S87)).f3, ((⟨2, m.f2, m.f5.f0, m.f5.f1, m.f5.f2⟩ : S87)).f4⟩ : S87)] : List S87)), ⟨by rw [hJ1]; unfold sgG; first | rw [if_neg ‹_›] | rw [if_pos ‹_›, List.append_nil], by first | omega | (simp only [List.length_append, List.length_cons, List.length_nil]; (first | omega | (dsimp only; omega)))⟩⟩, Wk.mk' [(64, 64), (512, 512)] (by kernel_rfl) (by kernel_rfl) (by kernel_rfl)⟩
        · replace hb10 := beq_yes (bnot_no (hb10))
          refine X.skip ?_
          refine ⟨⟨Lv3, ⟨by rw [hJ1]; unfold sgG; first | rw [if_neg ‹_›] | rw [if_pos ‹_›, List.append_nil], by first | omega | (simp only [List.length_append, List.length_cons, List.length_nil]; (first | omega | (dsimp only; omega)))⟩⟩, Wk.mk' [(64, 64), (512, 304)] (by kernel_rfl) (by kernel_rfl) (by kernel_rfl)⟩
      · obtain ⟨Lv3, hg9⟩ := g
        have hg9 : Lv3 = sgV m ++ sgG m ∧ Lv3.length ≤ 2 := hg9
        obtain ⟨hJ2, _⟩ := hg9
        refine X.seq ?_
        have hm6 : m.f6.f2.length ≤ 2000000 := hm.2.2.1.1
        have hm7 : m.f7.f1.length ≤ 2000000 := hm.2.2.2.1.1
        have hm8 : m.f7.f2.length ≤ 2000000 := hm.2.2.2.2
        have hm3 := hm.2.1
        have hmd := hd.2
        refine X.rs 5 hτ hmix (by kernel_rfl) ?_
        obtain ⟨r18, hr20, hf19⟩ := i_qcSigs m.f2 m.f6 (by first | omega | (simp; done) | (simp; omega))
        replace hr20 := hr20.symm; subst hr20
        have hln := qcSigs_len m.f2 m.f6
        refine CH.call hf19 Try.func107 ⟨rfl, rfl⟩ [] (by kernel_rfl) (by kernel_rfl) (by kernel_rfl) (by kernel_rfl) ?_
        have el22 : (Lv3.map d87).length = Lv3.length := List.length_map ..
        have el23 : ((qcSigs m.f2 m.f6).map d87).length = (qcSigs m.f2 m.f6).length := List.length_map ..
        refine CH.app hτ (rows := (Lv3.map d87)) (rows2 := ((qcSigs m.f2 m.f6).map d87)) (sz := 5) (bys := 48) true (by kernel_rfl) (by kernel_rfl) (fun _ => flat_d d87 (fun x => rfl)) (flat_ok (f := d87) (fun x => rfl)) (by simp only [List.length_map] <;> (first | done | omega | (simp; done) | (simp; omega))) (by kernel_rfl) ?_
        refine CH.go 1 hτ (by kernel_rfl) ?_
        refine CH.endk ⟨[(1, .pt 64 0 0), (3, .e (.c (.ref 640)))], [(64, some (.box [.d (.v (.int .i64 m.f0)), .d (.v (.string m.f1)), .d (.v (.int .i64 m.f2)), .d (.sl (m.f3.map d59)), .d (.v (.int .i64 m.f4.f0)), .d (.v (.int .i64 m.f4.f1)), .d (.v (.string m.f4.f2)), .d (.v (.int .i64 m.f5.f0)), .d (.v (.int .i64 m.f5.f1)), .d (.v (.string m.f5.f2)), .d (.v (.int .i64 m.f6.f0)), .d (.v (.int .i64 m.f6.f1)), .d (.sl (m.f6.f2.map dS)), .d (.v (.int .i64 m.f7.f0)), .d (.sl (m.f7.f1.map dS)), .d (.sl (m.f7.f2.map dI))])), (640, some (.row 5 87 ((Lv3.map d87) ++ ((qcSigs m.f2 m.f6).map d87)) false true))], 672⟩ (by kernel_rfl) (by kernel_rfl) (s2 := ⟨[(1, .pt 64 0 0), (3, .e (.c (.ref 640)))], [(64, some (.box [.d (.v (.int .i64 m.f0)), .d (.v (.string m.f1)), .d (.v (.int .i64 m.f2)), .d (.sl (m.f3.map d59)), .d (.v (.int .i64 m.f4.f0)), .d (.v (.int .i64 m.f4.f1)), .d (.v (.string m.f4.f2)), .d (.v (.int .i64 m.f5.f0)), .d (.v (.int .i64 m.f5.f1)), .d (.v (.string m.f5.f2)), .d (.v (.int .i64 m.f6.f0)), .d (.v (.int .i64 m.f6.f1)), .d (.sl (m.f6.f2.map dS)), .d (.v (.int .i64 m.f7.f0)), .d (.sl (m.f7.f1.map dS)), .d (.sl (m.f7.f2.map dI))])), (640, some (.row 5 87 ((Lv3 ++ (qcSigs m.f2 m.f6)).map d87) false true))], 672⟩) (congrArg (fun z : List (List D) => (⟨[(1, .pt 64 0 0), (3, .e (.c (.ref 640)))], [(64, some (.box [.d (.v (.int .i64 m.f0)), .d (.v (.string m.f1)), .d (.v (.int .i64 m.f2)), .d (.sl (m.f3.map d59)), .d (.v (.int .i64 m.f4.f0)), .d (.v (.int .i64 m.f4.f1)), .d (.v (.string m.f4.f2)), .d (.v (.int .i64 m.f5.f0)), .d (.v (.int .i64 m.f5.f1)), .d (.v (.string m.f5.f2)), .d (.v (.int .i64 m.f6.f0)), .d (.v (.int .i64 m.f6.f1)), .d (.sl (m.f6.f2.map dS)), .d (.v (.int .i64 m.f7.f0)), .d (.sl (m.f7.f1.map dS)), .d (.sl (m.f7.f2.map dI))])), (640, some (.row 5 87 z false true))], 672⟩ : St)) (show (Lv3.map d87) ++ ((qcSigs m.f2 m.f6).map d87) = ((Lv3 ++ (qcSigs m.f2 m.f6)).map d87) from List.map_append.symm)) ?_
        refine X.seq ?_
        refine X.rs 5 hτ hmix (by kernel_rfl) ?_
        obtain ⟨r24, hr26, hf25⟩ := i_tcSigs m.f2 m.f7 (by first | omega | (simp; done) | (simp; omega)) (by first | omega | (simp; done) | (simp; omega))
        replace hr26 := hr26.symm; subst hr26
        have hlt := tcSigs_len m.f2 m.f7
        refine CH.call hf25 Try.func108 ⟨rfl, rfl⟩ [] (by kernel_rfl) (by kernel_rfl) (by kernel_rfl) (by kernel_rfl) ?_
        have el28 : ((Lv3 ++ (qcSigs m.f2 m.f6)).map d87).length = (Lv3 ++ (qcSigs m.f2 m.f6)).length := List.length_map ..
        have el29 : (Lv3 ++ (qcSigs m.f2 m.f6)).length = Lv3.length + (qcSigs m.f2 m.f6).length := List.length_append
        have el30 : ((tcSigs m.f2 m.f7).map d87).length = (tcSigs m.f2 m.f7).length := List.length_map ..
        refine CH.app hτ (rows := ((Lv3 ++ (qcSigs m.f2 m.f6)).map d87)) (rows2 := ((tcSigs m.f2 m.f7).map d87)) (sz := 5) (bys := 48) true (by kernel_rfl) (by kernel_rfl) (fun _ => flat_d d87 (fun x => rfl)) (flat_ok (f := d87) (fun x => rfl)) (by simp only [List.length_map] <;> (first | done | omega | (simp; done) | (simp; omega))) (by kernel_rfl) ?_
        refine CH.go 1 hτ (by kernel_rfl) ?_
        refine CH.endk ⟨[(1, .pt 64 0 0), (3, .e (.c (.ref 768)))], [(64, some (.box [.d (.v (.int .i64 m.f0)), .d (.v (.string m.f1)), .d (.v (.int .i64 m.f2)), .d (.sl (m.f3.map d59)), .d (.v (.int .i64 m.f4.f0)), .d (.v (.int .i64 m.f4.f1)), .d (.v (.string m.f4.f2)), .d (.v (.int .i64 m.f5.f0)), .d (.v (.int .i64 m.f5.f1)), .d (.v (.string m.f5.f2)), .d (.v (.int .i64 m.f6.f0)), .d (.v (.int .i64 m.f6.f1)), .d (.sl (m.f6.f2.map dS)), .d (.v (.int .i64 m.f7.f0)), .d (.sl (m.f7.f1.map dS)), .d (.sl (m.f7.f2.map dI))])), (768, some (.row 5 87 (((Lv3 ++ (qcSigs m.f2 m.f6)).map d87) ++ ((tcSigs m.f2 m.f7).map d87)) false true))], 800⟩ (by kernel_rfl) (by kernel_rfl) (s2 := ⟨[(1, .pt 64 0 0), (3, .e (.c (.ref 768)))], [(64, some (.box [.d (.v (.int .i64 m.f0)), .d (.v (.string m.f1)), .d (.v (.int .i64 m.f2)), .d (.sl (m.f3.map d59)), .d (.v (.int .i64 m.f4.f0)), .d (.v (.int .i64 m.f4.f1)), .d (.v (.string m.f4.f2)), .d (.v (.int .i64 m.f5.f0)), .d (.v (.int .i64 m.f5.f1)), .d (.v (.string m.f5.f2)), .d (.v (.int .i64 m.f6.f0)), .d (.v (.int .i64 m.f6.f1)), .d (.sl (m.f6.f2.map dS)), .d (.v (.int .i64 m.f7.f0)), .d (.sl (m.f7.f1.map dS)), .d (.sl (m.f7.f2.map dI))])), (768, some (.row 5 87 (((Lv3 ++ (qcSigs m.f2 m.f6)) ++ (tcSigs m.f2 m.f7)).map d87) false true))], 800⟩) (congrArg (fun z : List (List D) => (⟨[(1, .pt 64 0 0), (3, .e (.c (.ref 768)))], [(64, some (.box [.d (.v (.int .i64 m.f0)), .d (.v (.string m.f1)), .d (.v (.int .i64 m.f2)), .d (.sl (m.f3.map d59)), .d (.v (.int .i64 m.f4.f0)), .d (.v (.int .i64 m.f4.f1)), .d (.v (.string m.f4.f2)), .d (.v (.int .i64 m.f5.f0)), .d (.v (.int .i64 m.f5.f1)), .d (.v (.string m.f5.f2)), .d (.v (.int .i64 m.f6.f0)), .d (.v (.int .i64 m.f6.f1)), .d (.sl (m.f6.f2.map dS)), .d (.v (.int .i64 m.f7.f0)), .d (.sl (m.f7.f1.map dS)), .d (.sl (m.f7.f2.map dI))])), (768, some (.row 5 87 z false true))], 800⟩ : St)) (show ((Lv3 ++ (qcSigs m.f2 m.f6)).map d87) ++ ((tcSigs m.f2 m.f7).map d87) = (((Lv3 ++ (qcSigs m.f2 m.f6)) ++ (tcSigs m.f2 m.f7)).map d87) from List.map_append.symm)) ?_
        refine X.seq ?_
        refine X.seq ?_
        have el31 : (m.f3.map d59).length = m.f3.length := List.length_map ..
        refine X.rk ⟨[(1, .pt 64 0 0), (3, .e (.c (.ref 768))), (45, .e (.c (.d (.sl (m.f3.map d59))))), (46, .e (.c (.d (.v (.int .i64 ((m.f3.map d59).length : Int)))))), (47, .e (.c (.d (.v (.int .i64 0)))))], [(64, some (.box [.d (.v (.int .i64 m.f0)), .d (.v (.string m.f1)), .d (.v (.int .i64 m.f2)), .d (.sl (m.f3.map d59)), .d (.v (.int .i64 m.f4.f0)), .d (.v (.int .i64 m.f4.f1)), .d (.v (.string m.f4.f2)), .d (.v (.int .i64 m.f5.f0)), .d (.v (.int .i64 m.f5.f1)), .d (.v (.string m.f5.f2)), .d (.v (.int .i64 m.f6.f0)), .d (.v (.int .i64 m.f6.f1)), .d (.sl (m.f6.f2.map dS)), .d (.v (.int .i64 m.f7.f0)), .d (.sl (m.f7.f1.map dS)), .d (.sl (m.f7.f2.map dI))])), (768, some (.row 5 87 (((Lv3 ++ (qcSigs m.f2 m.f6)) ++ (tcSigs m.f2 m.f7)).map d87) false true))], 864⟩ hτ hmix (by kernel_rfl) (by kernel_rfl) rfl ?_
        refine X.block ?_
        -- 9: Lv3 : List S87, v47 : Int
        refine X.loop (σ := { g : (List S87) × Int // (fun (Lv3 : List S87) (v47 : Int) => 0 ≤ v47 ∧ v47 ≤ m.f3.length ∧ Lv3.length ≤ 5000000 + 4000000 * v47.toNat ∧ Lv3 = sgM m ++ (m.f3.take v47.toNat).flatMap (sgB m.f2)) g.1 g.2 }) (fun g => (fun (Lv3 : List S87) (v47 : Int) => ⟨[(1, .pt 64 0 0), (3, .e (.c (.ref 768))), (45, .e (.c (.d (.sl (m.f3.map d59))))), (46, .e (.c (.d (.v (.int .i64 ((m.f3.map d59).length : Int)))))), (47, .e (.c (.d (.v (.int .i64 v47)))))], [(64, some (.box [.d (.v (.int .i64 m.f0)), .d (.v (.string m.f1)), .d (.v (.int .i64 m.f2)), .d (.sl (m.f3.map d59)), .d (.v (.int .i64 m.f4.f0)), .d (.v (.int .i64 m.f4.f1)), .d (.v (.string m.f4.f2)), .d (.v (.int .i64 m.f5.f0)), .d (.v (.int .i64 m.f5.f1)), .d (.v (.string m.f5.f2)), .d (.v (.int .i64 m.f6.f0)), .d (.v (.int .i64 m.f6.f1)), .d (.sl (m.f6.f2.map dS)), .d (.v (.int .i64 m.f7.f0)), .d (.sl (m.f7.f1.map dS)), .d (.sl (m.f7.f2.map dI))])), (768, some (.row 5 87 (Lv3.map d87) false true))], 864⟩) g.1.1 g.1.2) (fun g => (fun (Lv3 : List S87) (v47 : Int) => (m.f3.length - v47).toNat) g.1.1 g.1.2) ⟨(((Lv3 ++ (qcSigs m.f2 m.f6)) ++ (tcSigs m.f2 m.f7)), 0), ⟨by first | omega | (dsimp only; omega), by first | omega | (dsimp only; omega), by simp only [List.length_append]; omega, by simp [sgM, hJ2, List.append_assoc]⟩⟩ (Wk.less (by kernel_rfl)) (fun g => ?_)
        obtain ⟨⟨Lv3, v47⟩, hg33⟩ := g
        have hg33 : 0 ≤ v47 ∧ v47 ≤ m.f3.length ∧ Lv3.length ≤ 5000000 + 4000000 * v47.toNat ∧ Lv3 = sgM m ++ (m.f3.take v47.toNat).flatMap (sgB m.f2) := hg33
        obtain ⟨_, _, _, hq2⟩ := hg33
        refine X.seq ?_
        refine X.rk ⟨[(1, .pt 64 0 0), (3, .e (.c (.ref 768))), (45, .e (.c (.d (.sl (m.f3.map d59))))), (46, .e (.c (.d (.v (.int .i64 ((m.f3.map d59).length : Int)))))), (47, .e (.c (.d (.v (.int .i64 v47))))), (48, .e (.c (.d (.v (.bool (decide ((v47 : Int) < ((m.f3.map d59).length : Int))))))))], [(64, some (.box [.d (.v (.int .i64 m.f0)), .d (.v (.string m.f1)), .d (.v (.int .i64 m.f2)), .d (.sl (m.f3.map d59)), .d (.v (.int .i64 m.f4.f0)), .d (.v (.int .i64 m.f4.f1)), .d (.v (.string m.f4.f2)), .d (.v (.int .i64 m.f5.f0)), .d (.v (.int .i64 m.f5.f1)), .d (.v (.string m.f5.f2)), .d (.v (.int .i64 m.f6.f0)), .d (.v (.int .i64 m.f6.f1)), .d (.sl (m.f6.f2.map dS)), .d (.v (.int .i64 m.f7.f0)), .d (.sl (m.f7.f1.map dS)), .d (.sl (m.f7.f2.map dI))])), (768, some (.row 5 87 (Lv3.map d87) false true))], 880⟩ hτ hmix (by kernel_rfl) (by kernel_rfl) rfl ?_
        refine X.seq ?_
        refine X.if_ (b := decide ((v47 : Int) < ((m.f3.map d59).length : Int))) (by kernel_rfl) (fun hb34 => ?_) (fun hb34 => ?_)
        · replace hb34 := of_decide_eq_true (hb34)
          refine X.skip ?_
          refine X.seq ?_
          refine X.block ?_
          refine X.seq ?_
          refine X.rs 0 hτ hmix (by kernel_rfl) ?_
          obtain ⟨x35, hx35⟩ : ∃ x, m.f3[Int.toNat v47]? = some x := ⟨_, List.getElem?_eq_getElem (by first | omega | (simp; done) | (simp; omega))⟩
          obtain ⟨_, ⟨hx1, _⟩, ⟨⟨hx2, _⟩, hx3⟩, _⟩ := hm.1.at hx35; have hx4 := (hd.1 _ (List.mem_of_getElem? hx35)).2.2
          refine CH.idx hτ (d59 x35) (rows := (m.f3.map d59)) (n := v47) (sz := 14) (by kernel_rfl) (by kernel_rfl) (by first | omega | (simp; done) | (simp; omega)) (by rw [List.getElem?_map, hx35]; rfl) (by kernel_rfl) ?_
          refine CH.go 3 hτ (by kernel_rfl) ?_
          refine CH.endk ⟨[(1, .pt 64 0 0), (3, .e (.c (.ref 768))), (5, .pt 912 0 0), (45, .e (.c (.d (.sl (m.f3.map d59))))), (46, .e (.c (.d (.v (.int .i64 ((m.f3.map d59).length : Int)))))), (47, .e (.c (.d (.v (.int .i64 v47)))))], [(64, some (.box [.d (.v (.int .i64 m.f0)), .d (.v (.string m.f1)), .d (.v (.int .i64 m.f2)), .d (.sl (m.f3.map d59)), .d (.v (.int .i64 m.f4.f0)), .d (.v (.int .i64 m.f4.f1)), .d (.v (.string m.f4.f2)), .d (.v (.int .i64 m.f5.f0)), .d (.v (.int .i64 m.f5.f1)), .d (.v (.string m.f5.f2)), .d (.v (.int .i64 m.f6.f0)), .d (.v (.int .i64 m.f6.f1)), .d (.sl (m.f6.f2.map dS)), .d (.v (.int .i64 m.f7.f0)), .d (.sl (m.f7.f1.map dS)), .d (.sl (m.f7.f2.map dI))])), (768, some (.row 5 87 (Lv3.map d87) false true)), (912, some (.box [.d (.v (.int .i64 x35.f0)), .d (.v (.int .i64 x35.f1)), .d (.v (.int .i64 x35.f2)), .d (.v (.string x35.f3)), .d (.v (.int .i64 x35.f4.f0)), .d (.v (.int .i64 x35.f4.f1)), .d (.sl (x35.f4.f2.map dS)), .d (.v (.int .i64 x35.f5.f0)), .d (.sl (x35.f5.f1.map dS)), .d (.sl (x35.f5.f2.map dI)), .d (.sl (x35.f6.map d120)), .d (.v (.bool x35.f7)), .d (.sl (x35.f8.map d122)), .d (.v (.string x35.f9))]))], 944⟩ (by kernel_rfl) (by kernel_rfl) rfl ?_
          refine X.seq ?_
          refine X.rs 5 hτ hmix (by kernel_rfl) ?_
          obtain ⟨r36, hr38, hf37⟩ := i_qcSigs m.f2 x35.f4 (by first | omega | (simp; done) | (simp; omega))
          replace hr38 := hr38.symm; subst hr38
          have hln := qcSigs_len m.f2 x35.f4
          refine CH.call hf37 Try.func107 ⟨rfl, rfl⟩ [] (by kernel_rfl) (by kernel_rfl) (by kernel_rfl) (by kernel_rfl) ?_
          have el40 : ((qcSigs m.f2 x35.f4).map d87).length = (qcSigs m.f2 x35.f4).length := List.length_map ..
          refine CH.app hτ (rows := (Lv3.map d87)) (rows2 := ((qcSigs m.f2 x35.f4).map d87)) (sz := 5) (bys := 48) true (by kernel_rfl) (by kernel_rfl) (fun _ => flat_d d87 (fun x => rfl)) (flat_ok (f := d87) (fun x => rfl)) (by simp only [List.length_map] <;> (first | done | omega | (simp; done) | (simp; omega))) (by kernel_rfl) ?_
          refine CH.go 1 hτ (by kernel_rfl) ?_
          refine CH.endk ⟨[(1, .pt 64 0 0), (3, .e (.c (.ref 1040))), (5, .pt 912 0 0), (45, .e (.c (.d (.sl (m.f3.map d59))))), (46, .e (.c (.d (.v (.int .i64 ((m.f3.map d59).length : Int)))))), (47, .e (.c (.d (.v (.int .i64 v47)))))], [(64, some (.box [.d (.v (.int .i64 m.f0)), .d (.v (.string m.f1)), .d (.v (.int .i64 m.f2)), .d (.sl (m.f3.map d59)), .d (.v (.int .i64 m.f4.f0)), .d (.v (.int .i64 m.f4.f1)), .d (.v (.string m.f4.f2)), .d (.v (.int .i64 m.f5.f0)), .d (.v (.int .i64 m.f5.f1)), .d (.v (.string m.f5.f2)), .d (.v (.int .i64 m.f6.f0)), .d (.v (.int .i64 m.f6.f1)), .d (.sl (m.f6.f2.map dS)), .d (.v (.int .i64 m.f7.f0)), .d (.sl (m.f7.f1.map dS)), .d (.sl (m.f7.f2.map dI))])), (912, some (.box [.d (.v (.int .i64 x35.f0)), .d (.v (.int .i64 x35.f1)), .d (.v (.int .i64 x35.f2)), .d (.v (.string x35.f3)), .d (.v (.int .i64 x35.f4.f0)), .d (.v (.int .i64 x35.f4.f1)), .d (.sl (x35.f4.f2.map dS)), .d (.v (.int .i64 x35.f5.f0)), .d (.sl (x35.f5.f1.map dS)), .d (.sl (x35.f5.f2.map dI)), .d (.sl (x35.f6.map d120)), .d (.v (.bool x35.f7)), .d (.sl (x35.f8.map d122)), .d (.v (.string x35.f9))])), (1040, some (.row 5 87 ((Lv3.map d87) ++ ((qcSigs m.f2 x35.f4).map d87)) false true))], 1072⟩ (by kernel_rfl) (by kernel_rfl) (s2 := ⟨[(1, .pt 64 0 0), (3, .e (.c (.ref 1040))), (5, .pt 912 0 0), (45, .e (.c (.d (.sl (m.f3.map d59))))), (46, .e (.c (.d (.v (.int .i64 ((m.f3.map d59).length : Int)))))), (47, .e (.c (.d (.v (.int .i64 v47)))))], [(64, some (.box [.d (.v (.int .i64 m.f0)), .d (.v (.string m.f1)), .d (.v (.int .i64 m.f2)), .d (.sl (m.f3.map d59)), .d (.v (.int .i64 m.f4.f0)), .d (.v (.int .i64 m.f4.f1)), .d (.v (.string m.f4.f2)), .d (.v (.int .i64 m.f5.f0)), .d (.v (.int .i64 m.f5.f1)), .d (.v (.string m.f5.f2)), .d (.v (.int .i64 m.f6.f0)), .d (.v (.int .i64 m.f6.f1)), .d (.sl (m.f6.f2.map dS)), .d (.v (.int .i64 m.f7.f0)), .d (.sl (m.f7.f1.map dS)), .d (.sl (m.f7.f2.map dI))])), (912, some (.box [.d (.v (.int .i64 x35.f0)), .d (.v (.int .i64 x35.f1)), .d (.v (.int .i64 x35.f2)), .d (.v (.string x35.f3)), .d (.v (.int .i64 x35.f4.f0)), .d (.v (.int .i64 x35.f4.f1)), .d (.sl (x35.f4.f2.map dS)), .d (.v (.int .i64 x35.f5.f0)), .d (.sl (x35.f5.f1.map dS)), .d (.sl (x35.f5.f2.map dI)), .d (.sl (x35.f6.map d120)), .d (.v (.bool x35.f7)), .d (.sl (x35.f8.map d122)), .d (.v (.string x35.f9))])), (1040, some (.row 5 87 ((Lv3 ++ (qcSigs m.f2 x35.f4)).map d87) false true))], 1072⟩) (congrArg (fun z : List (List D) => (⟨[(1, .pt 64 0 0), (3, .e (.c (.ref 1040))), (5, .pt 912 0 0), (45, .e (.c (.d (.sl (m.f3.map d59))))), (46, .e (.c (.d (.v (.int .i64 ((m.f3.map d59).length : Int)))))), (47, .e (.c (.d (.v (.int .i64 v47)))))], [(64, some (.box [.d (.v (.int .i64 m.f0)), .d (.v (.string m.f1)), .d (.v (.int .i64 m.f2)), .d (.sl (m.f3.map d59)), .d (.v (.int .i64 m.f4.f0)), .d (.v (.int .i64 m.f4.f1)), .d (.v (.string m.f4.f2)), .d (.v (.int .i64 m.f5.f0)), .d (.v (.int .i64 m.f5.f1)), .d (.v (.string m.f5.f2)), .d (.v (.int .i64 m.f6.f0)), .d (.v (.int .i64 m.f6.f1)), .d (.sl (m.f6.f2.map dS)), .d (.v (.int .i64 m.f7.f0)), .d (.sl (m.f7.f1.map dS)), .d (.sl (m.f7.f2.map dI))])), (912, some (.box [.d (.v (.int .i64 x35.f0)), .d (.v (.int .i64 x35.f1)), .d (.v (.int .i64 x35.f2)), .d (.v (.string x35.f3)), .d (.v (.int .i64 x35.f4.f0)), .d (.v (.int .i64 x35.f4.f1)), .d (.sl (x35.f4.f2.map dS)), .d (.v (.int .i64 x35.f5.f0)), .d (.sl (x35.f5.f1.map dS)), .d (.sl (x35.f5.f2.map dI)), .d (.sl (x35.f6.map d120)), .d (.v (.bool x35.f7)), .d (.sl (x35.f8.map d122)), .d (.v (.string x35.f9))])), (1040, some (.row 5 87 z false true))], 1072⟩ : St)) (show (Lv3.map d87) ++ ((qcSigs m.f2 x35.f4).map d87) = ((Lv3 ++ (qcSigs m.f2 x35.f4)).map d87) from List.map_append.symm)) ?_
          refine X.rs 5 hτ hmix (by kernel_rfl) ?_
          obtain ⟨r41, hr43, hf42⟩ := i_tcSigs m.f2 x35.f5 (by first | omega | (simp; done) | (simp; omega)) (by first | omega | (simp; done) | (simp; omega))
          replace hr43 := hr43.symm; subst hr43
          have hlt := tcSigs_len m.f2 x35.f5
          refine CH.call hf42 Try.func108 ⟨rfl, rfl⟩ [] (by kernel_rfl) (by kernel_rfl) (by kernel_rfl) (by kernel_rfl) ?_
          have el45 : ((Lv3 ++ (qcSigs m.f2 x35.f4)).map d87).length = (Lv3 ++ (qcSigs m.f2 x35.f4)).length := List.length_map ..
          have el46 : (Lv3 ++ (qcSigs m.f2 x35.f4)).length = Lv3.length + (qcSigs m.f2 x35.f4).length := List.length_append
          have el47 : ((tcSigs m.f2 x35.f5).map d87).length = (tcSigs m.f2 x35.f5).length := List.length_map ..
          refine CH.app hτ (rows := ((Lv3 ++ (qcSigs m.f2 x35.f4)).map d87)) (rows2 := ((tcSigs m.f2 x35.f5).map d87)) (sz := 5) (bys := 48) true (by kernel_rfl) (by kernel_rfl) (fun _ => flat_d d87 (fun x => rfl)) (flat_ok (f := d87) (fun x => rfl)) (by simp only [List.length_map] <;> (first | done | omega | (simp; done) | (simp; omega))) (by kernel_rfl) ?_
          refine CH.go 1 hτ (by kernel_rfl) ?_
          refine CH.endk ⟨[(1, .pt 64 0 0), (3, .e (.c (.ref 1168))), (45, .e (.c (.d (.sl (m.f3.map d59))))), (46, .e (.c (.d (.v (.int .i64 ((m.f3.map d59).length : Int)))))), (47, .e (.c (.d (.v (.int .i64 v47)))))], [(64, some (.box [.d (.v (.int .i64 m.f0)), .d (.v (.string m.f1)), .d (.v (.int .i64 m.f2)), .d (.sl (m.f3.map d59)), .d (.v (.int .i64 m.f4.f0)), .d (.v (.int .i64 m.f4.f1)), .d (.v (.string m.f4.f2)), .d (.v (.int .i64 m.f5.f0)), .d (.v (.int .i64 m.f5.f1)), .d (.v (.string m.f5.f2)), .d (.v (.int .i64 m.f6.f0)), .d (.v (.int .i64 m.f6.f1)), .d (.sl (m.f6.f2.map dS)), .d (.v (.int .i64 m.f7.f0)), .d (.sl (m.f7.f1.map dS)), .d (.sl (m.f7.f2.map dI))])), (1168, some (.row 5 87 (((Lv3 ++ (qcSigs m.f2 x35.f4)).map d87) ++ ((tcSigs m.f2 x35.f5).map d87)) false true))], 1200⟩ (by kernel_rfl) (by kernel_rfl) (s2 := ⟨[(1, .pt 64 0 0), (3, .e (.c (.ref 1168))), (45, .e (.c (.d (.sl (m.f3.map d59))))), (46, .e (.c (.d (.v (.int .i64 ((m.f3.map d59).length : Int)))))), (47, .e (.c (.d (.v (.int .i64 v47)))))], [(64, some (.box [.d (.v (.int .i64 m.f0)), .d (.v (.string m.f1)), .d (.v (.int .i64 m.f2)), .d (.sl (m.f3.map d59)), .d (.v (.int .i64 m.f4.f0)), .d (.v (.int .i64 m.f4.f1)), .d (.v (.string m.f4.f2)), .d (.v (.int .i64 m.f5.f0)), .d (.v (.int .i64 m.f5.f1)), .d (.v (.string m.f5.f2)), .d (.v (.int .i64 m.f6.f0)), .d (.v (.int .i64 m.f6.f1)), .d (.sl (m.f6.f2.map dS)), .d (.v (.int .i64 m.f7.f0)), .d (.sl (m.f7.f1.map dS)), .d (.sl (m.f7.f2.map dI))])), (1168, some (.row 5 87 (((Lv3 ++ (qcSigs m.f2 x35.f4)) ++ (tcSigs m.f2 x35.f5)).map d87) false true))], 1200⟩) (congrArg (fun z : List (List D) => (⟨[(1, .pt 64 0 0), (3, .e (.c (.ref 1168))), (45, .e (.c (.d (.sl (m.f3.map d59))))), (46, .e (.c (.d (.v (.int .i64 ((m.f3.map d59).length : Int)))))), (47, .e (.c (.d (.v (.int .i64 v47)))))], [(64, some (.box [.d (.v (.int .i64 m.f0)), .d (.v (.string m.f1)), .d (.v (.int .i64 m.f2)), .d (.sl (m.f3.map d59)), .d (.v (.int .i64 m.f4.f0)), .d (.v (.int .i64 m.f4.f1)), .d (.v (.string m.f4.f2)), .d (.v (.int .i64 m.f5.f0)), .d (.v (.int .i64 m.f5.f1)), .d (.v (.string m.f5.f2)), .d (.v (.int .i64 m.f6.f0)), .d (.v (.int .i64 m.f6.f1)), .d (.sl (m.f6.f2.map dS)), .d (.v (.int .i64 m.f7.f0)), .d (.sl (m.f7.f1.map dS)), .d (.sl (m.f7.f2.map dI))])), (1168, some (.row 5 87 z false true))], 1200⟩ : St)) (show ((Lv3 ++ (qcSigs m.f2 x35.f4)).map d87) ++ ((tcSigs m.f2 x35.f5).map d87) = (((Lv3 ++ (qcSigs m.f2 x35.f4)) ++ (tcSigs m.f2 x35.f5)).map d87) from List.map_append.symm)) ?_
          refine X.rk ⟨[(1, .pt 64 0 0), (3, .e (.c (.ref 1168))), (45, .e (.c (.d (.sl (m.f3.map d59))))), (46, .e (.c (.d (.v (.int .i64 ((m.f3.map d59).length : Int)))))), (47, .e (.c (.d (.v (.int .i64 (wrap64 (v47 + 1)))))))], [(64, some (.box [.d (.v (.int .i64 m.f0)), .d (.v (.string m.f1)), .d (.v (.int .i64 m.f2)), .d (.sl (m.f3.map d59)), .d (.v (.int .i64 m.f4.f0)), .d (.v (.int .i64 m.f4.f1)), .d (.v (.string m.f4.f2)), .d (.v (.int .i64 m.f5.f0)), .d (.v (.int .i64 m.f5.f1)), .d (.v (.string m.f5.f2)), .d (.v (.int .i64 m.f6.f0)), .d (.v (.int .i64 m.f6.f1)), .d (.sl (m.f6.f2.map dS)), .d (.v (.int .i64 m.f7.f0)), .d (.sl (m.f7.f1.map dS)), .d (.sl (m.f7.f2.map dI))])), (1168, some (.row 5 87 (((Lv3 ++ (qcSigs m.f2 x35.f4)) ++ (tcSigs m.f2 x35.f5)).map d87) false true))], 1232⟩ hτ hmix (by kernel_rfl) (by kernel_rfl) (s2 := ⟨[(1, .pt 64 0 0), (3, .e (.c (.ref 1168))), (45, .e (.c (.d (.sl (m.f3.map d59))))), (46, .e (.c (.d (.v (.int .i64 ((m.f3.map d59).length : Int)))))), (47, .e (.c (.d (.v (.int .i64 (v47 + 1))))))], [(64, some (.box [.d (.v (.int .i64 m.f0)), .d (.v (.string m.f1)), .d (.v (.int .i64 m.f2)), .d (.sl (m.f3.map d59)), .d (.v (.int .i64 m.f4.f0)), .d (.v (.int .i64 m.f4.f1)), .d (.v (.string m.f4.f2)), .d (.v (.int .i64 m.f5.f0)), .d (.v (.int .i64 m.f5.f1)), .d (.v (.string m.f5.f2)), .d (.v (.int .i64 m.f6.f0)), .d (.v (.int .i64 m.f6.f1)), .d (.sl (m.f6.f2.map dS)), .d (.v (.int .i64 m.f7.f0)), .d (.sl (m.f7.f1.map dS)), .d (.sl (m.f7.f2.map dI))])), (1168, some (.row 5 87 (((Lv3 ++ (qcSigs m.f2 x35.f4)) ++ (tcSigs m.f2 x35.f5)).map d87) false true))], 1232⟩) (congrArg (fun z : Int => (⟨[(1, .pt 64 0 0), (3, .e (.c (.ref 1168))), (45, .e (.c (.d (.sl (m.f3.map d59))))), (46, .e (.c (.d (.v (.int .i64 ((m.f3.map d59).length : Int)))))), (47, .e (.c (.d (.v (.int .i64 z)))))], [(64, some (.box [.d (.v (.int .i64 m.f0)), .d (.v (.string m.f1)), .d (.v (.int .i64 m.f2)), .d (.sl (m.f3.map d59)), .d (.v (.int .i64 m.f4.f0)), .d (.v (.int .i64 m.f4.f1)), .d (.v (.string m.f4.f2)), .d (.v (.int .i64 m.f5.f0)), .d (.v (.int .i64 m.f5.f1)), .d (.v (.string m.f5.f2)), .d (.v (.int .i64 m.f6.f0)), .d (.v (.int .i64 m.f6.f1)), .d (.sl (m.f6.f2.map dS)), .d (.v (.int .i64 m.f7.f0)), .d (.sl (m.f7.f1.map dS)), .d (.sl (m.f7.f2.map dI))])), (1168, some (.row 5 87 (((Lv3 ++ (qcSigs m.f2 x35.f4)) ++ (tcSigs m.f2 x35.f5)).map d87) false true))], 1232⟩ : St)) (show wrap64 (v47 + 1) = (v47 + 1) by rw [w64 (n := (v47 + 1)) (by omega) (by omega)])) ?_
          refine ⟨⟨(((Lv3 ++ (qcSigs m.f2 x35.f4)) ++ (tcSigs m.f2 x35.f5)), (v47 + 1)), ⟨by first | omega | (dsimp only; omega), by first | omega | (dsimp only; omega), by simp only [List.length_append]; omega, by rw [hq2, ← flat_next (by first | omega | (dsimp only; omega)) ‹_›]; simp only [sgB, List.append_assoc]⟩⟩, by first | exact rfl | omega | (dsimp only; omega) | (simp only [List.length_append, List.length_cons, List.length_nil, List.length_set]; omega) | (simp; done) | (simp; omega), Wk.mk' [(64, 64), (768, 1168)] (by kernel_rfl) (by kernel_rfl) (by kernel_rfl)⟩
        · replace hb34 := of_decide_eq_false (hb34)
          refine X.exit ?_
          refine X.seq ?_
          refine X.rk ⟨[(2, .e (.c (.ref 768)))], [(768, some (.row 5 87 (Lv3.map d87) false true))], 912⟩ hτ hmix (by kernel_rfl) (by kernel_rfl) rfl ?_
          refine X.ret ?_
          exact ⟨trivial, _, _, ⟨Lv3, (by rw [hq2, List.take_of_length_le (by omega)]; rfl), rfl, rfl⟩, .inr ⟨⟨[(2, .e (.c (.f (.sl (Lv3.map d87)))))], [(768, some (.row 5 87 (Lv3.map d87) true true))], 912⟩, Wk.less (by kernel_rfl), Ret.mk' [] (by kernel_rfl) (by kernel_rfl) (by kernel_rfl)⟩⟩
  obtain ⟨_, _, ⟨r0, q1, rfl, rfl⟩, hf⟩ := key
  exact ⟨r0, q1, hf⟩

theorem s_l7Has (l : List ByteArray) (s : ByteArray) (hl : l.length ≤ 2000000) : ∃ r0 : Bool, (r0 = hasN l s) ∧ Fn Try.prog 111 [.e (.c (.d (.sl (l.map dS)))), .e (.c (.d (.v (.string s))))] (lookH []) (.e (.c (.d (.v (.bool r0))))) (lookH []) := by
  have key : ∃ x' h', ((fun x' h' => ∃ r0 : Bool, (r0 = hasN l s) ∧ x' = .e (.c (.d (.v (.bool r0)))) ∧ h' = [])) x' h' ∧ Fn Try.prog 111 [.e (.c (.d (.sl (l.map dS)))), .e (.c (.d (.v (.string s))))] (lookH []) x' (lookH h') := by
    refine Fn.bodyX (N := 18) hτ Try.func111 rfl rfl rfl rfl ?_
    refine X.seq ?_
    refine X.rk ⟨[(0, .e (.c (.d (.sl (l.map dS))))), (1, .e (.c (.d (.v (.string s)))))], [], 80⟩ hτ hmix (by kernel_rfl) (by kernel_rfl) rfl ?_
    refine X.seq ?_
    refine X.seq ?_
    refine X.rk ⟨[(0, .e (.c (.d (.sl (l.map dS))))), (1, .e (.c (.d (.v (.string s))))), (5, .e (.c (.d (.v (.int .i64 0)))))], [], 96⟩ hτ hmix (by kernel_rfl) (by kernel_rfl) rfl ?_
    refine X.block ?_
    -- 2: v5 : Int
    refine X.loop (σ := { g : Int // (fun (v5 : Int) => 0 ≤ v5 ∧ v5 ≤ l.length ∧ Upto (fun _ y => y.toList ≠ s.toList) (fun n => l[n]?) v5) g }) (fun g => (fun (v5 : Int) => ⟨[(0, .e (.c (.d (.sl (l.map dS))))), (1, .e (.c (.d (.v (.string s))))), (5, .e (.c (.d (.v (.int .i64 v5)))))], [], 96⟩) g.1) (fun g => (fun (v5 : Int) => (l.length - v5).toNat) g.1) ⟨0, ⟨by first | omega | (dsimp only; omega), by first | omega | (dsimp only; omega), upto_zero⟩⟩ (Wk.less (by kernel_rfl)) (fun g => ?_)
    obtain ⟨v5, hg2⟩ := g
    have hg2 : 0 ≤ v5 ∧ v5 ≤ l.length ∧ Upto (fun _ y => y.toList ≠ s.toList) (fun n => l[n]?) v5 := hg2
    obtain ⟨_, _, hA⟩ := hg2
    refine X.seq ?_
    refine X.seq ?_
    have el3 : (l.map dS).length = l.length := List.length_map ..
    refine X.rk ⟨[(0, .e (.c (.d (.sl (l.map dS))))), (1, .e (.c (.d (.v (.string s))))), (5, .e (.c (.d (.v (.int .i64 v5))))), (9, .e (.c (.d (.v (.bool (decide ((v5 : Int) < ((l.map dS).length : Int))))))))], [], 160⟩ hτ hmix (by kernel_rfl) (by kernel_rfl) rfl ?_
    refine X.if_ (b := decide ((v5 : Int) < ((l.map dS).length : Int))) (by kernel_rfl) (fun hb4 => ?_) (fun hb4 => ?_)
    · replace hb4 := of_decide_eq_true (hb4)
      refine X.skip ?_
      refine X.seq ?_
      refine X.block ?_
      refine X.seq ?_
      refine X.rs 2 hτ hmix (by kernel_rfl) ?_
      obtain ⟨x5, hx5⟩ : ∃ x, l[Int.toNat v5]? = some x := ⟨_, List.getElem?_eq_getElem (by first | omega | (simp; done) | (simp; omega))⟩
      refine CH.idx hτ (dS x5) (rows := (l.map dS)) (n := v5) (sz := 1) (by kernel_rfl) (by kernel_rfl) (by first | omega | (simp; done) | (simp; omega)) (by rw [List.getElem?_map, hx5]; rfl) (by kernel_rfl) ?_
      refine CH.go 3 hτ (by kernel_rfl) ?_
      refine CH.endk ⟨[(0, .e (.c (.d (.sl (l.map dS))))), (1, .e (.c (.d (.v (.string s))))), (5, .e (.c (.d (.v (.int .i64 v5))))), (17, .e (.c (.d (.v (.bool (x5.toList == s.toList))))))], [], 256⟩ (by kernel_rfl) (by kernel_rfl) rfl ?_
      refine X.if_ (b := (x5.toList == s.toList)) (by kernel_rfl) (fun hb6 => ?_) (fun hb6 => ?_)
      · replace hb6 := beq_yes (hb6)
        refine X.seq ?_
        refine X.rk ⟨[(4, .e (.c (.d (.v (.bool true)))))], [], 272⟩ hτ hmix (by kernel_rfl) (by kernel_rfl) rfl ?_
        refine X.ret ?_
        exact ⟨trivial, _, _, ⟨true, (by first | exact tru (mem_tl ‹_› ‹_›) | exact fls (not_mem_tl hA (by omega))), rfl, rfl⟩, .inl (Ret.mk' [] (by kernel_rfl) (by kernel_rfl) (by kernel_rfl))⟩
      · replace hb6 := beq_no (hb6)
        refine X.skip ?_
        refine X.rk ⟨[(0, .e (.c (.d (.sl (l.map dS))))), (1, .e (.c (.d (.v (.string s))))), (5, .e (.c (.d (.v (.int .i64 (wrap64 (v5 + 1)))))))], [], 304⟩ hτ hmix (by kernel_rfl) (by kernel_rfl) (s2 := ⟨[(0, .e (.c (.d (.sl (l.map dS))))), (1, .e (.c (.d (.v (.string s))))), (5, .e (.c (.d (.v (.int .i64 (v5 + 1))))))], [], 304⟩) (congrArg (fun z : Int => (⟨[(0, .e (.c (.d (.sl (l.map dS))))), (1, .e (.c (.d (.v (.string s))))), (5, .e (.c (.d (.v (.int .i64 z)))))], [], 304⟩ : St)) (show wrap64 (v5 + 1) = (v5 + 1) by rw [w64 (n := (v5 + 1)) (by omega) (by omega)])) ?_
        refine ⟨⟨(v5 + 1), ⟨by first | omega | (dsimp only; omega), by first | omega | (dsimp only; omega), upto_nx (by first | omega | (dsimp only; omega)) hA ‹_› (‹_›)⟩⟩, by first | exact rfl | omega | (dsimp only; omega) | (simp only [List.length_append, List.length_cons, List.length_nil, List.length_set]; omega) | (simp; done) | (simp; omega), Wk.mk' [] (by kernel_rfl) (by kernel_rfl) (by kernel_rfl)⟩
    · replace hb4 := of_decide_eq_false (hb4)
      refine X.exit ?_
      refine X.seq ?_
      refine X.rk ⟨[(4, .e (.c (.d (.v (.bool false)))))], [], 176⟩ hτ hmix (by kernel_rfl) (by kernel_rfl) rfl ?_
      refine X.ret ?_
      exact ⟨trivial, _, _, ⟨false, (by first | exact tru (mem_tl ‹_› ‹_›) | exact fls (not_mem_tl hA (by omega))), rfl, rfl⟩, .inl (Ret.mk' [] (by kernel_rfl) (by kernel_rfl) (by kernel_rfl))⟩
  obtain ⟨_, _, ⟨r0, q1, rfl, rfl⟩, hf⟩ := key
  exact ⟨r0, q1, hf⟩

theorem l_among (l : List ByteArray) (s : ByteArray) (hl : l.length ≤ 2000000) : ∃ r0 : Bool, (r0 = hasN l s) ∧ Fn Try.prog 52 [.e (.c (.d (.sl (l.map dS)))), .e (.c (.d (.v (.string s))))] (lookH []) (.e (.c (.d (.v (.bool r0))))) (lookH []) := by
  have key : ∃ x' h', ((fun x' h' => ∃ r0 : Bool, (r0 = hasN l s) ∧ x' = .e (.c (.d (.v (.bool r0)))) ∧ h' = [])) x' h' ∧ Fn Try.prog 52 [.e (.c (.d (.sl (l.map dS)))), .e (.c (.d (.v (.string s))))] (lookH []) x' (lookH h') := by
    refine Fn.bodyX (N := 18) hτ Try.func52 rfl rfl rfl rfl ?_
    refine X.seq ?_
    refine X.rk ⟨[(0, .e (.c (.d (.sl (l.map dS))))), (1, .e (.c (.d (.v (.string s)))))], [], 80⟩ hτ hmix (by kernel_rfl) (by kernel_rfl) rfl ?_
    refine X.seq ?_
    refine X.seq ?_
    refine X.rk ⟨[(0, .e (.c (.d (.sl (l.map dS))))), (1, .e (.c (.d (.v (.string s))))), (5, .e (.c (.d (.v (.int .i64 0)))))], [], 96⟩ hτ hmix (by kernel_rfl) (by kernel_rfl) rfl ?_
    refine X.block ?_
    -- 2: v5 : Int
    refine X.loop (σ := { g : Int // (fun (v5 : Int) => 0 ≤ v5 ∧ v5 ≤ l.length ∧ Upto (fun _ y => y.toList ≠ s.toList) (fun n => l[n]?) v5) g }) (fun g => (fun (v5 : Int) => ⟨[(0, .e (.c (.d (.sl (l.map dS))))), (1, .e (.c (.d (.v (.string s))))), (5, .e (.c (.d (.v (.int .i64 v5)))))], [], 96⟩) g.1) (fun g => (fun (v5 : Int) => (l.length - v5).toNat) g.1) ⟨0, ⟨by first | omega | (dsimp only; omega), by first | omega | (dsimp only; omega), upto_zero⟩⟩ (Wk.less (by kernel_rfl)) (fun g => ?_)
    obtain ⟨v5, hg2⟩ := g
    have hg2 : 0 ≤ v5 ∧ v5 ≤ l.length ∧ Upto (fun _ y => y.toList ≠ s.toList) (fun n => l[n]?) v5 := hg2
    obtain ⟨_, _, hA⟩ := hg2
    refine X.seq ?_
    refine X.seq ?_
    have el3 : (l.map dS).length = l.length := List.length_map ..
    refine X.rk ⟨[(0, .e (.c (.d (.sl (l.map dS))))), (1, .e (.c (.d (.v (.string s))))), (5, .e (.c (.d (.v (.int .i64 v5))))), (9, .e (.c (.d (.v (.bool (decide ((v5 : Int) < ((l.map dS).length : Int))))))))], [], 160⟩ hτ hmix (by kernel_rfl) (by kernel_rfl) rfl ?_
    refine X.if_ (b := decide ((v5 : Int) < ((l.map dS).length : Int))) (by kernel_rfl) (fun hb4 => ?_) (fun hb4 => ?_)
    · replace hb4 := of_decide_eq_true (hb4)
      refine X.skip ?_
      refine X.seq ?_
      refine X.block ?_
      refine X.seq ?_
      refine X.rs 2 hτ hmix (by kernel_rfl) ?_
      obtain ⟨x5, hx5⟩ : ∃ x, l[Int.toNat v5]? = some x := ⟨_, List.getElem?_eq_getElem (by first | omega | (simp; done) | (simp; omega))⟩
      refine CH.idx hτ (dS x5) (rows := (l.map dS)) (n := v5) (sz := 1) (by kernel_rfl) (by kernel_rfl) (by first | omega | (simp; done) | (simp; omega)) (by rw [List.getElem?_map, hx5]; rfl) (by kernel_rfl) ?_
      refine CH.go 3 hτ (by kernel_rfl) ?_
      refine CH.endk ⟨[(0, .e (.c (.d (.sl (l.map dS))))), (1, .e (.c (.d (.v (.string s))))), (5, .e (.c (.d (.v (.int .i64 v5))))), (17, .e (.c (.d (.v (.bool (x5.toList == s.toList))))))], [], 256⟩ (by kernel_rfl) (by kernel_rfl) rfl ?_
      refine X.if_ (b := (x5.toList == s.toList)) (by kernel_rfl) (fun hb6 => ?_) (fun hb6 => ?_)
      · replace hb6 := beq_yes (hb6)
        refine X.seq ?_
        refine X.rk ⟨[(4, .e (.c (.d (.v (.bool true)))))], [], 272⟩ hτ hmix (by kernel_rfl) (by kernel_rfl) rfl ?_
        refine X.ret ?_
        exact ⟨trivial, _, _, ⟨true, (by first | exact tru (mem_tl ‹_› ‹_›) | exact fls (not_mem_tl hA (by omega))), rfl, rfl⟩, .inl (Ret.mk' [] (by kernel_rfl) (by kernel_rfl) (by kernel_rfl))⟩
      · replace hb6 := beq_no (hb6)
        refine X.skip ?_
        refine X.rk ⟨[(0, .e (.c (.d (.sl (l.map dS))))), (1, .e (.c (.d (.v (.string s))))), (5, .e (.c (.d (.v (.int .i64 (wrap64 (v5 + 1)))))))], [], 304⟩ hτ hmix (by kernel_rfl) (by kernel_rfl) (s2 := ⟨[(0, .e (.c (.d (.sl (l.map dS))))), (1, .e (.c (.d (.v (.string s))))), (5, .e (.c (.d (.v (.int .i64 (v5 + 1))))))], [], 304⟩) (congrArg (fun z : Int => (⟨[(0, .e (.c (.d (.sl (l.map dS))))), (1, .e (.c (.d (.v (.string s))))), (5, .e (.c (.d (.v (.int .i64 z)))))], [], 304⟩ : St)) (show wrap64 (v5 + 1) = (v5 + 1) by rw [w64 (n := (v5 + 1)) (by omega) (by omega)])) ?_
        refine ⟨⟨(v5 + 1), ⟨by first | omega | (dsimp only; omega), by first | omega | (dsimp only; omega), upto_nx (by first | omega | (dsimp only; omega)) hA ‹_› (‹_›)⟩⟩, by first | exact rfl | omega | (dsimp only; omega) | (simp only [List.length_append, List.length_cons, List.length_nil, List.length_set]; omega) | (simp; done) | (simp; omega), Wk.mk' [] (by kernel_rfl) (by kernel_rfl) (by kernel_rfl)⟩
    · replace hb4 := of_decide_eq_false (hb4)
      refine X.exit ?_
      refine X.seq ?_
      refine X.rk ⟨[(4, .e (.c (.d (.v (.bool false)))))], [], 176⟩ hτ hmix (by kernel_rfl) (by kernel_rfl) rfl ?_
      refine X.ret ?_
      exact ⟨trivial, _, _, ⟨false, (by first | exact tru (mem_tl ‹_› ‹_›) | exact fls (not_mem_tl hA (by omega))), rfl, rfl⟩, .inl (Ret.mk' [] (by kernel_rfl) (by kernel_rfl) (by kernel_rfl))⟩
  obtain ⟨_, _, ⟨r0, q1, rfl, rfl⟩, hf⟩ := key
  exact ⟨r0, q1, hf⟩

theorem s_l13HasSig (l : List S87) (s : S87) (hl : l.length ≤ 1000000000000) : ∃ r0 : Bool, (r0 = hasG l s) ∧ Fn Try.prog 112 [.e (.c (.d (.sl (l.map d87)))), .e (.agg [.d (.v (.int .i64 s.f0)), .d (.v (.int .i64 s.f1)), .d (.v (.int .i64 s.f2)), .d (.v (.int .i64 s.f3)), .d (.v (.string s.f4))])] (lookH []) (.e (.c (.d (.v (.bool r0))))) (lookH []) := by
  have key : ∃ x' h', ((fun x' h' => ∃ r0 : Bool, (r0 = hasG l s) ∧ x' = .e (.c (.d (.v (.bool r0)))) ∧ h' = [])) x' h' ∧ Fn Try.prog 112 [.e (.c (.d (.sl (l.map d87)))), .e (.agg [.d (.v (.int .i64 s.f0)), .d (.v (.int .i64 s.f1)), .d (.v (.int .i64 s.f2)), .d (.v (.int .i64 s.f3)), .d (.v (.string s.f4))])] (lookH []) x' (lookH h') := by
    refine Fn.bodyX (N := 18) hτ Try.func112 rfl rfl rfl rfl ?_
    refine X.seq ?_
    refine X.rk ⟨[(0, .e (.c (.d (.sl (l.map d87))))), (3, .pt 64 0 0)], [(64, some (.box [.d (.v (.int .i64 s.f0)), .d (.v (.int .i64 s.f1)), .d (.v (.int .i64 s.f2)), .d (.v (.int .i64 s.f3)), .d (.v (.string s.f4))]))], 96⟩ hτ hmix (by kernel_rfl) (by kernel_rfl) rfl ?_
    refine X.seq ?_
    refine X.seq ?_
    refine X.rk ⟨[(0, .e (.c (.d (.sl (l.map d87))))), (3, .pt 64 0 0), (5, .e (.c (.d (.v (.int .i64 0)))))], [(64, some (.box [.d (.v (.int .i64 s.f0)), .d (.v (.int .i64 s.f1)), .d (.v (.int .i64 s.f2)), .d (.v (.int .i64 s.f3)), .d (.v (.string s.f4))]))], 112⟩ hτ hmix (by kernel_rfl) (by kernel_rfl) rfl ?_
    refine X.block ?_
    -- 2: v5 : Int
    refine X.loop (σ := { g : Int // (fun (v5 : Int) => 0 ≤ v5 ∧ v5 ≤ l.length ∧ Upto (fun _ y => y ≠ s) (fun n => l[n]?) v5) g }) (fun g => (fun (v5 : Int) => ⟨[(0, .e (.c (.d (.sl (l.map d87))))), (3, .pt 64 0 0), (5, .e (.c (.d (.v (.int .i64 v5)))))], [(64, some (.box [.d (.v (.int .i64 s.f0)), .d (.v (.int .i64 s.f1)), .d (.v (.int .i64 s.f2)), .d (.v (.int .i64 s.f3)), .d (.v (.string s.f4))]))], 112⟩) g.1) (fun g => (fun (v5 : Int) => (l.length - v5).toNat) g.1) ⟨0, ⟨by first | omega | (dsimp only; omega), by first | omega | (dsimp only; omega), upto_zero⟩⟩ (Wk.less (by kernel_rfl)) (fun g => ?_)
    obtain ⟨v5, hg2⟩ := g
    have hg2 : 0 ≤ v5 ∧ v5 ≤ l.length ∧ Upto (fun _ y => y ≠ s) (fun n => l[n]?) v5 := hg2
    obtain ⟨_, _, hA⟩ := hg2
    refine X.seq ?_
    refine X.seq ?_
    have el3 : (l.map d87).length = l.length := List.length_map ..
    refine X.rk ⟨[(0, .e (.c (.d (.sl (l.map d87))))), (3, .pt 64 0 0), (5, .e (.c (.d (.v (.int .i64 v5))))), (9, .e (.c (.d (.v (.bool (decide ((v5 : Int) < ((l.map d87).length : Int))))))))], [(64, some (.box [.d (.v (.int .i64 s.f0)), .d (.v (.int .i64 s.f1)), .d (.v (.int .i64 s.f2)), .d (.v (.int .i64 s.f3)), .d (.v (.string s.f4))]))], 176⟩ hτ hmix (by kernel_rfl) (by kernel_rfl) rfl ?_
    refine X.if_ (b := decide ((v5 : Int) < ((l.map d87).length : Int))) (by kernel_rfl) (fun hb4 => ?_) (fun hb4 => ?_)
    · replace hb4 := of_decide_eq_true (hb4)
      refine X.skip ?_
      refine X.seq ?_
      refine X.block ?_
      refine X.seq ?_
      refine X.rs 2 hτ hmix (by kernel_rfl) ?_
      obtain ⟨x5, hx5⟩ : ∃ x, l[Int.toNat v5]? = some x := ⟨_, List.getElem?_eq_getElem (by first | omega | (simp; done) | (simp; omega))⟩
      refine CH.idx hτ (d87 x5) (rows := (l.map d87)) (n := v5) (sz := 5) (by kernel_rfl) (by kernel_rfl) (by first | omega | (simp; done) | (simp; omega)) (by rw [List.getElem?_map, hx5]; rfl) (by kernel_rfl) ?_
      refine CH.go 2 hτ (by kernel_rfl) ?_
      refine CH.eqS (t := 87) (ng := false) (sm87 x5 s) (by kernel_rfl) (by kernel_rfl) (flatS87 x5) ?_
      refine CH.endk ⟨[(0, .e (.c (.d (.sl (l.map d87))))), (3, .pt 64 0 0), (5, .e (.c (.d (.v (.int .i64 v5))))), (17, .e (.c (.d (.v (.bool (sm87 x5 s))))))], [(64, some (.box [.d (.v (.int .i64 s.f0)), .d (.v (.int .i64 s.f1)), .d (.v (.int .i64 s.f2)), .d (.v (.int .i64 s.f3)), .d (.v (.string s.f4))]))], 272⟩ (by kernel_rfl) (by kernel_rfl) rfl ?_
      refine X.if_ (b := (sm87 x5 s)) (by kernel_rfl) (fun hb6 => ?_) (fun hb6 => ?_)
      · replace hb6 := (sm87_iff _ _).1 (hb6)
        refine X.seq ?_
        refine X.rk ⟨[(4, .e (.c (.d (.v (.bool true)))))], [], 288⟩ hτ hmix (by kernel_rfl) (by kernel_rfl) rfl ?_
        refine X.ret ?_
        exact ⟨trivial, _, _, ⟨true, (by first | exact tru (mem_eq ‹_› ‹_›) | exact fls (not_mem2 hA (by omega))), rfl, rfl⟩, .inl (Ret.mk' [] (by kernel_rfl) (by kernel_rfl) (by kernel_rfl))⟩
      · replace hb6 := sm_no sm87_iff (hb6)
        refine X.skip ?_
        refine X.rk ⟨[(0, .e (.c (.d (.sl (l.map d87))))), (3, .pt 64 0 0), (5, .e (.c (.d (.v (.int .i64 (wrap64 (v5 + 1)))))))], [(64, some (.box [.d (.v (.int .i64 s.f0)), .d (.v (.int .i64 s.f1)), .d (.v (.int .i64 s.f2)), .d (.v (.int .i64 s.f3)), .d (.v (.string s.f4))]))], 320⟩ hτ hmix (by kernel_rfl) (by kernel_rfl) (s2 := ⟨[(0, .e (.c (.d (.sl (l.map d87))))), (3, .pt 64 0 0), (5, .e (.c (.d (.v (.int .i64 (v5 + 1))))))], [(64, some (.box [.d (.v (.int .i64 s.f0)), .d (.v (.int .i64 s.f1)), .d (.v (.int .i64 s.f2)), .d (.v (.int .i64 s.f3)), .d (.v (.string s.f4))]))], 320⟩) (congrArg (fun z : Int => (⟨[(0, .e (.c (.d (.sl (l.map d87))))), (3, .pt 64 0 0), (5, .e (.c (.d (.v (.int .i64 z)))))], [(64, some (.box [.d (.v (.int .i64 s.f0)), .d (.v (.int .i64 s.f1)), .d (.v (.int .i64 s.f2)), .d (.v (.int .i64 s.f3)), .d (.v (.string s.f4))]))], 320⟩ : St)) (show wrap64 (v5 + 1) = (v5 + 1) by rw [w64 (n := (v5 + 1)) (by omega) (by omega)])) ?_
        refine ⟨⟨(v5 + 1), ⟨by first | omega | (dsimp only; omega), by first | omega | (dsimp only; omega), upto_nx (by first | omega | (dsimp only; omega)) hA ‹_› (‹_›)⟩⟩, by first | exact rfl | omega | (dsimp only; omega) | (simp only [List.length_append, List.length_cons, List.length_nil, List.length_set]; omega) | (simp; done) | (simp; omega), Wk.mk' [(64, 64)] (by kernel_rfl) (by kernel_rfl) (by kernel_rfl)⟩
    · replace hb4 := of_decide_eq_false (hb4)
      refine X.exit ?_
      refine X.seq ?_
      refine X.rk ⟨[(4, .e (.c (.d (.v (.bool false)))))], [], 192⟩ hτ hmix (by kernel_rfl) (by kernel_rfl) rfl ?_
      refine X.ret ?_
      exact ⟨trivial, _, _, ⟨false, (by first | exact tru (mem_eq ‹_› ‹_›) | exact fls (not_mem2 hA (by omega))), rfl, rfl⟩, .inl (Ret.mk' [] (by kernel_rfl) (by kernel_rfl) (by kernel_rfl))⟩
  obtain ⟨_, _, ⟨r0, q1, rfl, rfl⟩, hf⟩ := key
  exact ⟨r0, q1, hf⟩

theorem i_indexSig (l : List S87) (x : S87) (hl : l.length ≤ 1000000000000) : ∃ r0 : Int, ((0 ≤ r0 ∧ x ∈ l) ∨ (r0 < 0 ∧ x ∉ l)) ∧ Fn Try.prog 160 [.e (.c (.d (.sl (l.map d87)))), .e (.agg [.d (.v (.int .i64 x.f0)), .d (.v (.int .i64 x.f1)), .d (.v (.int .i64 x.f2)), .d (.v (.int .i64 x.f3)), .d (.v (.string x.f4))])] (lookH []) (.e (.c (.d (.v (.int .i64 r0))))) (lookH []) := by
  have key : ∃ x' h', ((fun x' h' => ∃ r0 : Int, ((0 ≤ r0 ∧ x ∈ l) ∨ (r0 < 0 ∧ x ∉ l)) ∧ x' = .e (.c (.d (.v (.int .i64 r0)))) ∧ h' = [])) x' h' ∧ Fn Try.prog 160 [.e (.c (.d (.sl (l.map d87)))), .e (.agg [.d (.v (.int .i64 x.f0)), .d (.v (.int .i64 x.f1)), .d (.v (.int .i64 x.f2)), .d (.v (.int .i64 x.f3)), .d (.v (.string x.f4))])] (lookH []) x' (lookH h') := by
    refine Fn.bodyX (N := 19) hτ Try.func160 rfl rfl rfl rfl ?_
    refine X.seq ?_
    refine X.rk ⟨[(0, .e (.c (.d (.sl (l.map d87))))), (3, .pt 64 0 0)], [(64, some (.box [.d (.v (.int .i64 x.f0)), .d (.v (.int .i64 x.f1)), .d (.v (.int .i64 x.f2)), .d (.v (.int .i64 x.f3)), .d (.v (.string x.f4))]))], 96⟩ hτ hmix (by kernel_rfl) (by kernel_rfl) rfl ?_
    refine X.seq ?_
    refine X.seq ?_
    have el1 : (l.map d87).length = l.length := List.length_map ..
    refine X.rk ⟨[(0, .e (.c (.d (.sl (l.map d87))))), (3, .pt 64 0 0), (7, .e (.c (.d (.v (.int .i64 ((l.map d87).length : Int)))))), (8, .e (.c (.d (.v (.int .i64 0)))))], [(64, some (.box [.d (.v (.int .i64 x.f0)), .d (.v (.int .i64 x.f1)), .d (.v (.int .i64 x.f2)), .d (.v (.int .i64 x.f3)), .d (.v (.string x.f4))]))], 144⟩ hτ hmix (by kernel_rfl) (by kernel_rfl) rfl ?_
    refine X.block ?_
    -- 2: v8 : Int
    refine X.loop (σ := { g : Int // (fun (v8 : Int) => 0 ≤ v8 ∧ v8 ≤ l.length ∧ Upto (fun _ y => x ≠ y) (fun n => l[n]?) v8) g }) (fun g => (fun (v8 : Int) => ⟨[(0, .e (.c (.d (.sl (l.map d87))))), (3, .pt 64 0 0), (7, .e (.c (.d (.v (.int .i64 ((l.map d87).length : Int)))))), (8, .e (.c (.d (.v (.int .i64 v8)))))], [(64, some (.box [.d (.v (.int .i64 x.f0)), .d (.v (.int .i64 x.f1)), .d (.v (.int .i64 x.f2)), .d (.v (.int .i64 x.f3)), .d (.v (.string x.f4))]))], 144⟩) g.1) (fun g => (fun (v8 : Int) => (l.length - v8).toNat) g.1) ⟨0, ⟨by first | omega | (dsimp only; omega), by first | omega | (dsimp only; omega), upto_zero⟩⟩ (Wk.less (by kernel_rfl)) (fun g => ?_)
    obtain ⟨v8, hg3⟩ := g
    have hg3 : 0 ≤ v8 ∧ v8 ≤ l.length ∧ Upto (fun _ y => x ≠ y) (fun n => l[n]?) v8 := hg3
    obtain ⟨_, _, hA⟩ := hg3
    refine X.seq ?_
    refine X.rk ⟨[(0, .e (.c (.d (.sl (l.map d87))))), (3, .pt 64 0 0), (7, .e (.c (.d (.v (.int .i64 ((l.map d87).length : Int)))))), (8, .e (.c (.d (.v (.int .i64 v8))))), (9, .e (.c (.d (.v (.bool (decide ((v8 : Int) < ((l.map d87).length : Int))))))))], [(64, some (.box [.d (.v (.int .i64 x.f0)), .d (.v (.int .i64 x.f1)), .d (.v (.int .i64 x.f2)), .d (.v (.int .i64 x.f3)), .d (.v (.string x.f4))]))], 160⟩ hτ hmix (by kernel_rfl) (by kernel_rfl) rfl ?_
    refine X.seq ?_
    refine X.if_ (b := decide ((v8 : Int) < ((l.map d87).length : Int))) (by kernel_rfl) (fun hb4 => ?_) (fun hb4 => ?_)
    · replace hb4 := of_decide_eq_true (hb4)
      refine X.skip ?_
      refine X.seq ?_
      refine X.block ?_
      refine X.seq ?_
      refine X.rk ⟨[(0, .e (.c (.d (.sl (l.map d87))))), (3, .pt 64 0 0), (5, .e (.c (.d (.v (.int .i64 v8))))), (7, .e (.c (.d (.v (.int .i64 ((l.map d87).length : Int)))))), (8, .e (.c (.d (.v (.int .i64 v8)))))], [(64, some (.box [.d (.v (.int .i64 x.f0)), .d (.v (.int .i64 x.f1)), .d (.v (.int .i64 x.f2)), .d (.v (.int .i64 x.f3)), .d (.v (.string x.f4))]))], 192⟩ hτ hmix (by kernel_rfl) (by kernel_rfl) rfl ?_
      refine X.seq ?_
      refine X.rs 3 hτ hmix (by kernel_rfl) ?_
      obtain ⟨x5, hx5⟩ : ∃ x, l[Int.toNat v8]? = some x := ⟨_, List.getElem?_eq_getElem (by first | omega | (simp; done) | (simp; omega))⟩
      refine CH.idx hτ (d87 x5) (rows := (l.map d87)) (n := v8) (sz := 5) (by kernel_rfl) (by kernel_rfl) (by first | omega | (simp; done) | (simp; omega)) (by rw [List.getElem?_map, hx5]; rfl) (by kernel_rfl) ?_
      refine CH.go 1 hτ (by kernel_rfl) ?_
      refine CH.eqS (t := 87) (ng := false) (sm87 x x5) (by kernel_rfl) (by kernel_rfl) (flatS87 x) ?_
      refine CH.endk ⟨[(0, .e (.c (.d (.sl (l.map d87))))), (3, .pt 64 0 0), (5, .e (.c (.d (.v (.int .i64 v8))))), (7, .e (.c (.d (.v (.int .i64 ((l.map d87).length : Int)))))), (8, .e (.c (.d (.v (.int .i64 v8))))), (16, .e (.c (.d (.v (.bool (sm87 x x5))))))], [(64, some (.box [.d (.v (.int .i64 x.f0)), .d (.v (.int .i64 x.f1)), .d (.v (.int .i64 x.f2)), .d (.v (.int .i64 x.f3)), .d (.v (.string x.f4))]))], 288⟩ (by kernel_rfl) (by kernel_rfl) rfl ?_
      refine X.if_ (b := (sm87 x x5)) (by kernel_rfl) (fun hb6 => ?_) (fun hb6 => ?_)
      · replace hb6 := (sm87_iff _ _).1 (hb6)
        refine X.seq ?_
        refine X.rk ⟨[(4, .e (.c (.d (.v (.int .i64 v8)))))], [], 320⟩ hτ hmix (by kernel_rfl) (by kernel_rfl) rfl ?_
        refine X.ret ?_
        exact ⟨trivial, _, _, ⟨v8, (by first | exact .inl ⟨by omega, mem_eq ‹_› (Eq.symm ‹_›)⟩ | exact .inr ⟨by omega, not_mem hA (by omega)⟩), rfl, rfl⟩, .inl (Ret.mk' [] (by kernel_rfl) (by kernel_rfl) (by kernel_rfl))⟩
      · replace hb6 := sm_no sm87_iff (hb6)
        refine X.skip ?_
        refine X.rk ⟨[(0, .e (.c (.d (.sl (l.map d87))))), (3, .pt 64 0 0), (7, .e (.c (.d (.v (.int .i64 ((l.map d87).length : Int)))))), (8, .e (.c (.d (.v (.int .i64 (wrap64 (v8 + 1)))))))], [(64, some (.box [.d (.v (.int .i64 x.f0)), .d (.v (.int .i64 x.f1)), .d (.v (.int .i64 x.f2)), .d (.v (.int .i64 x.f3)), .d (.v (.string x.f4))]))], 320⟩ hτ hmix (by kernel_rfl) (by kernel_rfl) (s2 := ⟨[(0, .e (.c (.d (.sl (l.map d87))))), (3, .pt 64 0 0), (7, .e (.c (.d (.v (.int .i64 ((l.map d87).length : Int)))))), (8, .e (.c (.d (.v (.int .i64 (v8 + 1))))))], [(64, some (.box [.d (.v (.int .i64 x.f0)), .d (.v (.int .i64 x.f1)), .d (.v (.int .i64 x.f2)), .d (.v (.int .i64 x.f3)), .d (.v (.string x.f4))]))], 320⟩) (congrArg (fun z : Int => (⟨[(0, .e (.c (.d (.sl (l.map d87))))), (3, .pt 64 0 0), (7, .e (.c (.d (.v (.int .i64 ((l.map d87).length : Int)))))), (8, .e (.c (.d (.v (.int .i64 z)))))], [(64, some (.box [.d (.v (.int .i64 x.f0)), .d (.v (.int .i64 x.f1)), .d (.v (.int .i64 x.f2)), .d (.v (.int .i64 x.f3)), .d (.v (.string x.f4))]))], 320⟩ : St)) (show wrap64 (v8 + 1) = (v8 + 1) by rw [w64 (n := (v8 + 1)) (by omega) (by omega)])) ?_
        refine ⟨⟨(v8 + 1), ⟨by first | omega | (dsimp only; omega), by first | omega | (dsimp only; omega), upto_nx (by first | omega | (dsimp only; omega)) hA ‹_› (‹_›)⟩⟩, by first | exact rfl | omega | (dsimp only; omega) | (simp only [List.length_append, List.length_cons, List.length_nil, List.length_set]; omega) | (simp; done) | (simp; omega), Wk.mk' [(64, 64)] (by kernel_rfl) (by kernel_rfl) (by kernel_rfl)⟩
    · replace hb4 := of_decide_eq_false (hb4)
      refine X.exit ?_
      refine X.seq ?_
      refine X.rk ⟨[(4, .e (.c (.d (.v (.int .i64 (-1))))))], [], 176⟩ hτ hmix (by kernel_rfl) (by kernel_rfl) rfl ?_
      refine X.ret ?_
      exact ⟨trivial, _, _, ⟨(-1), (by first | exact .inl ⟨by omega, mem_eq ‹_› (Eq.symm ‹_›)⟩ | exact .inr ⟨by omega, not_mem hA (by omega)⟩), rfl, rfl⟩, .inl (Ret.mk' [] (by kernel_rfl) (by kernel_rfl) (by kernel_rfl))⟩
  obtain ⟨_, _, ⟨r0, q1, rfl, rfl⟩, hf⟩ := key
  exact ⟨r0, q1, hf⟩

theorem i_hasSig (l : List S87) (x : S87) (hl : l.length ≤ 1000000000000) : ∃ r0 : Bool, (r0 = hasG l x) ∧ Fn Try.prog 109 [.e (.c (.d (.sl (l.map d87)))), .e (.agg [.d (.v (.int .i64 x.f0)), .d (.v (.int .i64 x.f1)), .d (.v (.int .i64 x.f2)), .d (.v (.int .i64 x.f3)), .d (.v (.string x.f4))])] (lookH []) (.e (.c (.d (.v (.bool r0))))) (lookH []) := by
  have key : ∃ x' h', ((fun x' h' => ∃ r0 : Bool, (r0 = hasG l x) ∧ x' = .e (.c (.d (.v (.bool r0)))) ∧ h' = [])) x' h' ∧ Fn Try.prog 109 [.e (.c (.d (.sl (l.map d87)))), .e (.agg [.d (.v (.int .i64 x.f0)), .d (.v (.int .i64 x.f1)), .d (.v (.int .i64 x.f2)), .d (.v (.int .i64 x.f3)), .d (.v (.string x.f4))])] (lookH []) x' (lookH h') := by
    refine Fn.bodyX (N := 9) hτ Try.func109 rfl rfl rfl rfl ?_
    refine X.seq ?_
    refine X.rk ⟨[(0, .e (.c (.d (.sl (l.map d87))))), (3, .pt 64 0 0)], [(64, some (.box [.d (.v (.int .i64 x.f0)), .d (.v (.int .i64 x.f1)), .d (.v (.int .i64 x.f2)), .d (.v (.int .i64 x.f3)), .d (.v (.string x.f4))]))], 96⟩ hτ hmix (by kernel_rfl) (by kernel_rfl) rfl ?_
    refine X.seq ?_
    refine X.rs 2 hτ hmix (by kernel_rfl) ?_
    obtain ⟨r1, hr3, hf2⟩ := i_indexSig l x (by omega)
    have hix := hr3
    refine CH.call hf2 Try.func160 ⟨rfl, rfl⟩ [] (by kernel_rfl) (by kernel_rfl) (by kernel_rfl) (by kernel_rfl) ?_
    refine CH.go 2 hτ (by kernel_rfl) ?_
    refine CH.endk ⟨[(4, .e (.c (.d (.v (.bool (decide ((r1 : Int) ≥ 0)))))))], [], 176⟩ (by kernel_rfl) (by kernel_rfl) rfl ?_
    refine X.ret ?_
    exact ⟨trivial, _, _, ⟨decide ((r1 : Int) ≥ 0), (dcd (by rcases hix with ⟨h1, h2⟩ | ⟨h1, h2⟩ <;> simp [h1, h2] <;> omega)), rfl, rfl⟩, .inl (Ret.mk' [] (by kernel_rfl) (by kernel_rfl) (by kernel_rfl))⟩
  obtain ⟨_, _, ⟨r0, q1, rfl, rfl⟩, hf⟩ := key
  exact ⟨r0, q1, hf⟩

theorem i_indexStr (l : List ByteArray) (x : ByteArray) (hl : l.length ≤ 2000000) : ∃ r0 : Int, ((0 ≤ r0 ∧ x ∈ l) ∨ (r0 < 0 ∧ x ∉ l)) ∧ Fn Try.prog 161 [.e (.c (.d (.sl (l.map dS)))), .e (.c (.d (.v (.string x))))] (lookH []) (.e (.c (.d (.v (.int .i64 r0))))) (lookH []) := by
  have key : ∃ x' h', ((fun x' h' => ∃ r0 : Int, ((0 ≤ r0 ∧ x ∈ l) ∨ (r0 < 0 ∧ x ∉ l)) ∧ x' = .e (.c (.d (.v (.int .i64 r0)))) ∧ h' = [])) x' h' ∧ Fn Try.prog 161 [.e (.c (.d (.sl (l.map dS)))), .e (.c (.d (.v (.string x))))] (lookH []) x' (lookH h') := by
    refine Fn.bodyX (N := 19) hτ Try.func161 rfl rfl rfl rfl ?_
    refine X.seq ?_
    refine X.rk ⟨[(0, .e (.c (.d (.sl (l.map dS))))), (1, .e (.c (.d (.v (.string x)))))], [], 80⟩ hτ hmix (by kernel_rfl) (by kernel_rfl) rfl ?_
    refine X.seq ?_
    refine X.seq ?_
    have el1 : (l.map dS).length = l.length := List.length_map ..
    refine X.rk ⟨[(0, .e (.c (.d (.sl (l.map dS))))), (1, .e (.c (.d (.v (.string x))))), (7, .e (.c (.d (.v (.int .i64 ((l.map dS).length : Int)))))), (8, .e (.c (.d (.v (.int .i64 0)))))], [], 128⟩ hτ hmix (by kernel_rfl) (by kernel_rfl) rfl ?_
    refine X.block ?_
    -- 2: v8 : Int
    refine X.loop (σ := { g : Int // (fun (v8 : Int) => 0 ≤ v8 ∧ v8 ≤ l.length ∧ Upto (fun _ y => x.toList ≠ y.toList) (fun n => l[n]?) v8) g }) (fun g => (fun (v8 : Int) => ⟨[(0, .e (.c (.d (.sl (l.map dS))))), (1, .e (.c (.d (.v (.string x))))), (7, .e (.c (.d (.v (.int .i64 ((l.map dS).length : Int)))))), (8, .e (.c (.d (.v (.int .i64 v8)))))], [], 128⟩) g.1) (fun g => (fun (v8 : Int) => (l.length - v8).toNat) g.1) ⟨0, ⟨by first | omega | (dsimp only; omega), by first | omega | (dsimp only; omega), upto_zero⟩⟩ (Wk.less (by kernel_rfl)) (fun g => ?_)
    obtain ⟨v8, hg3⟩ := g
    have hg3 : 0 ≤ v8 ∧ v8 ≤ l.length ∧ Upto (fun _ y => x.toList ≠ y.toList) (fun n => l[n]?) v8 := hg3
    obtain ⟨_, _, hA⟩ := hg3
    refine X.seq ?_
    refine X.rk ⟨[(0, .e (.c (.d (.sl (l.map dS))))), (1, .e (.c (.d (.v (.string x))))), (7, .e (.c (.d (.v (.int .i64 ((l.map dS).length : Int)))))), (8, .e (.c (.d (.v (.int .i64 v8))))), (9, .e (.c (.d (.v (.bool (decide ((v8 : Int) < ((l.map dS).length : Int))))))))], [], 144⟩ hτ hmix (by kernel_rfl) (by kernel_rfl) rfl ?_
    refine X.seq ?_
    refine X.if_ (b := decide ((v8 : Int) < ((l.map dS).length : Int))) (by kernel_rfl) (fun hb4 => ?_) (fun hb4 => ?_)
    · replace hb4 := of_decide_eq_true (hb4)
      refine X.skip ?_
      refine X.seq ?_
      refine X.block ?_
      refine X.seq ?_
      refine X.rk ⟨[(0, .e (.c (.d (.sl (l.map dS))))), (1, .e (.c (.d (.v (.string x))))), (5, .e (.c (.d (.v (.int .i64 v8))))), (7, .e (.c (.d (.v (.int .i64 ((l.map dS).length : Int)))))), (8, .e (.c (.d (.v (.int .i64 v8)))))], [], 176⟩ hτ hmix (by kernel_rfl) (by kernel_rfl) rfl ?_
      refine X.seq ?_
      refine X.rs 3 hτ hmix (by kernel_rfl) ?_
      obtain ⟨x5, hx5⟩ : ∃ x, l[Int.toNat v8]? = some x := ⟨_, List.getElem?_eq_getElem (by first | omega | (simp; done) | (simp; omega))⟩
      refine CH.idx hτ (dS x5) (rows := (l.map dS)) (n := v8) (sz := 1) (by kernel_rfl) (by kernel_rfl) (by first | omega | (simp; done) | (simp; omega)) (by rw [List.getElem?_map, hx5]; rfl) (by kernel_rfl) ?_
      refine CH.go 2 hτ (by kernel_rfl) ?_
      refine CH.endk ⟨[(0, .e (.c (.d (.sl (l.map dS))))), (1, .e (.c (.d (.v (.string x))))), (5, .e (.c (.d (.v (.int .i64 v8))))), (7, .e (.c (.d (.v (.int .i64 ((l.map dS).length : Int)))))), (8, .e (.c (.d (.v (.int .i64 v8))))), (16, .e (.c (.d (.v (.bool (x.toList == x5.toList))))))], [], 272⟩ (by kernel_rfl) (by kernel_rfl) rfl ?_
      refine X.if_ (b := (x.toList == x5.toList)) (by kernel_rfl) (fun hb6 => ?_) (fun hb6 => ?_)
      · replace hb6 := beq_yes (hb6)
        refine X.seq ?_
        refine X.rk ⟨[(4, .e (.c (.d (.v (.int .i64 v8)))))], [], 304⟩ hτ hmix (by kernel_rfl) (by kernel_rfl) rfl ?_
        refine X.ret ?_
        exact ⟨trivial, _, _, ⟨v8, (by first | exact .inl ⟨by omega, mem_tl ‹_› (Eq.symm ‹_›)⟩ | exact .inr ⟨by omega, not_mem_tl2 hA (by omega)⟩), rfl, rfl⟩, .inl (Ret.mk' [] (by kernel_rfl) (by kernel_rfl) (by kernel_rfl))⟩
      · replace hb6 := beq_no (hb6)
        refine X.skip ?_
        refine X.rk ⟨[(0, .e (.c (.d (.sl (l.map dS))))), (1, .e (.c (.d (.v (.string x))))), (7, .e (.c (.d (.v (.int .i64 ((l.map dS).length : Int)))))), (8, .e (.c (.d (.v (.int .i64 (wrap64 (v8 + 1)))))))], [], 304⟩ hτ hmix (by kernel_rfl) (by kernel_rfl) (s2 := ⟨[(0, .e (.c (.d (.sl (l.map dS))))), (1, .e (.c (.d (.v (.string x))))), (7, .e (.c (.d (.v (.int .i64 ((l.map dS).length : Int)))))), (8, .e (.c (.d (.v (.int .i64 (v8 + 1))))))], [], 304⟩) (congrArg (fun z : Int => (⟨[(0, .e (.c (.d (.sl (l.map dS))))), (1, .e (.c (.d (.v (.string x))))), (7, .e (.c (.d (.v (.int .i64 ((l.map dS).length : Int)))))), (8, .e (.c (.d (.v (.int .i64 z)))))], [], 304⟩ : St)) (show wrap64 (v8 + 1) = (v8 + 1) by rw [w64 (n := (v8 + 1)) (by omega) (by omega)])) ?_
        refine ⟨⟨(v8 + 1), ⟨by first | omega | (dsimp only; omega), by first | omega | (dsimp only; omega), upto_nx (by first | omega | (dsimp only; omega)) hA ‹_› (‹_›)⟩⟩, by first | exact rfl | omega | (dsimp only; omega) | (simp only [List.length_append, List.length_cons, List.length_nil, List.length_set]; omega) | (simp; done) | (simp; omega), Wk.mk' [] (by kernel_rfl) (by kernel_rfl) (by kernel_rfl)⟩
    · replace hb4 := of_decide_eq_false (hb4)
      refine X.exit ?_
      refine X.seq ?_
      refine X.rk ⟨[(4, .e (.c (.d (.v (.int .i64 (-1))))))], [], 160⟩ hτ hmix (by kernel_rfl) (by kernel_rfl) rfl ?_
      refine X.ret ?_
      exact ⟨trivial, _, _, ⟨(-1), (by first | exact .inl ⟨by omega, mem_tl ‹_› (Eq.symm ‹_›)⟩ | exact .inr ⟨by omega, not_mem_tl2 hA (by omega)⟩), rfl, rfl⟩, .inl (Ret.mk' [] (by kernel_rfl) (by kernel_rfl) (by kernel_rfl))⟩
  obtain ⟨_, _, ⟨r0, q1, rfl, rfl⟩, hf⟩ := key
  exact ⟨r0, q1, hf⟩

theorem i_hasStr (l : List ByteArray) (x : ByteArray) (hl : l.length ≤ 2000000) : ∃ r0 : Bool, (r0 = hasN l x) ∧ Fn Try.prog 110 [.e (.c (.d (.sl (l.map dS)))), .e (.c (.d (.v (.string x))))] (lookH []) (.e (.c (.d (.v (.bool r0))))) (lookH []) := by
  have key : ∃ x' h', ((fun x' h' => ∃ r0 : Bool, (r0 = hasN l x) ∧ x' = .e (.c (.d (.v (.bool r0)))) ∧ h' = [])) x' h' ∧ Fn Try.prog 110 [.e (.c (.d (.sl (l.map dS)))), .e (.c (.d (.v (.string x))))] (lookH []) x' (lookH h') := by
    refine Fn.bodyX (N := 9) hτ Try.func110 rfl rfl rfl rfl ?_
    refine X.seq ?_
    refine X.rk ⟨[(0, .e (.c (.d (.sl (l.map dS))))), (1, .e (.c (.d (.v (.string x)))))], [], 80⟩ hτ hmix (by kernel_rfl) (by kernel_rfl) rfl ?_
    refine X.seq ?_
    refine X.rs 2 hτ hmix (by kernel_rfl) ?_
    obtain ⟨r1, hr3, hf2⟩ := i_indexStr l x (by omega)
    have hix := hr3
    refine CH.call hf2 Try.func161 ⟨rfl, rfl⟩ [] (by kernel_rfl) (by kernel_rfl) (by kernel_rfl) (by kernel_rfl) ?_
    refine CH.go 2 hτ (by kernel_rfl) ?_
    refine CH.endk ⟨[(4, .e (.c (.d (.v (.bool (decide ((r1 : Int) ≥ 0)))))))], [], 160⟩ (by kernel_rfl) (by kernel_rfl) rfl ?_
    refine X.ret ?_
    exact ⟨trivial, _, _, ⟨decide ((r1 : Int) ≥ 0), (dcd (by rcases hix with ⟨h1, h2⟩ | ⟨h1, h2⟩ <;> simp [h1, h2] <;> omega)), rfl, rfl⟩, .inl (Ret.mk' [] (by kernel_rfl) (by kernel_rfl) (by kernel_rfl))⟩
  obtain ⟨_, _, ⟨r0, q1, rfl, rfl⟩, hf⟩ := key
  exact ⟨r0, q1, hf⟩

theorem s_Signed (table : List S87) (foul : List ByteArray) (m : S80) (hm : Sm80 m) (hd : Dr80 m) (ht : table.length ≤ 1000000000000) (hf : foul.length ≤ 2000000) : ∃ r0 : Bool, (r0 = signed table foul (sigsOf m)) ∧ Fn Try.prog 50 [.e (.c (.d (.sl (table.map d87)))), .e (.c (.d (.sl (foul.map dS)))), .e (.agg [.d (.v (.int .i64 m.f0)), .d (.v (.string m.f1)), .d (.v (.int .i64 m.f2)), .d (.sl (m.f3.map d59)), .d (.v (.int .i64 m.f4.f0)), .d (.v (.int .i64 m.f4.f1)), .d (.v (.string m.f4.f2)), .d (.v (.int .i64 m.f5.f0)), .d (.v (.int .i64 m.f5.f1)), .d (.v (.string m.f5.f2)), .d (.v (.int .i64 m.f6.f0)), .d (.v (.int .i64 m.f6.f1)), .d (.sl (m.f6.f2.map dS)), .d (.v (.int .i64 m.f7.f0)), .d (.sl (m.f7.f1.map dS)), .d (.sl (m.f7.f2.map dI))])] (lookH []) (.e (.c (.d (.v (.bool r0))))) (lookH []) := by
  have key : ∃ x' h', ((fun x' h' => ∃ r0 : Bool, (r0 = signed table foul (sigsOf m)) ∧ x' = .e (.c (.d (.v (.bool r0)))) ∧ h' = [])) x' h' ∧ Fn Try.prog 50 [.e (.c (.d (.sl (table.map d87)))), .e (.c (.d (.sl (foul.map dS)))), .e (.agg [.d (.v (.int .i64 m.f0)), .d (.v (.string m.f1)), .d (.v (.int .i64 m.f2)), .d (.sl (m.f3.map d59)), .d (.v (.int .i64 m.f4.f0)), .d (.v (.int .i64 m.f4.f1)), .d (.v (.string m.f4.f2)), .d (.v (.int .i64 m.f5.f0)), .d (.v (.int .i64 m.f5.f1)), .d (.v (.string m.f5.f2)), .d (.v (.int .i64 m.f6.f0)), .d (.v (.int .i64 m.f6.f1)), .d (.sl (m.f6.f2.map dS)), .d (.v (.int .i64 m.f7.f0)), .d (.sl (m.f7.f1.map dS)), .d (.sl (m.f7.f2.map dI))])] (lookH []) x' (lookH h') := by
    refine Fn.bodyX (N := 34) hτ Try.func50 rfl rfl rfl rfl ?_
    refine X.seq ?_
    refine X.rk ⟨[(0, .e (.c (.d (.sl (table.map d87))))), (1, .e (.c (.d (.sl (foul.map dS))))), (5, .pt 64 0 0)], [(64, some (.box [.d (.v (.int .i64 m.f0)), .d (.v (.string m.f1)), .d (.v (.int .i64 m.f2)), .d (.sl (m.f3.map d59)), .d (.v (.int .i64 m.f4.f0)), .d (.v (.int .i64 m.f4.f1)), .d (.v (.string m.f4.f2)), .d (.v (.int .i64 m.f5.f0)), .d (.v (.int .i64 m.f5.f1)), .d (.v (.string m.f5.f2)), .d (.v (.int .i64 m.f6.f0)), .d (.v (.int .i64 m.f6.f1)), .d (.sl (m.f6.f2.map dS)), .d (.v (.int .i64 m.f7.f0)), .d (.sl (m.f7.f1.map dS)), .d (.sl (m.f7.f2.map dI))]))], 96⟩ hτ hmix (by kernel_rfl) (by kernel_rfl) rfl ?_
    refine X.seq ?_
    refine X.rs 1 hτ hmix (by kernel_rfl) ?_
    obtain ⟨r1, hr3, hf2⟩ := s_SigsOf m (by assumption) (by assumption)
    replace hr3 := hr3.symm; subst hr3
    have hsl := sigs_len m ‹_›
    refine CH.call hf2 Try.func51 ⟨rfl, rfl⟩ [] (by kernel_rfl) (by kernel_rfl) (by kernel_rfl) (by kernel_rfl) ?_
    refine CH.go 1 hτ (by kernel_rfl) ?_
    refine CH.endk ⟨[(0, .e (.c (.d (.sl (table.map d87))))), (1, .e (.c (.d (.sl (foul.map dS))))), (7, .e (.c (.f (.sl ((sigsOf m).map d87)))))], [], 144⟩ (by kernel_rfl) (by kernel_rfl) rfl ?_
    refine X.seq ?_
    refine X.seq ?_
    refine X.rk ⟨[(0, .e (.c (.d (.sl (table.map d87))))), (1, .e (.c (.d (.sl (foul.map dS))))), (7, .e (.c (.f (.sl ((sigsOf m).map d87))))), (8, .e (.c (.d (.v (.int .i64 0)))))], [], 160⟩ hτ hmix (by kernel_rfl) (by kernel_rfl) rfl ?_
    refine X.block ?_
    -- 3: v8 : Int
    refine X.loop (σ := { g : Int // (fun (v8 : Int) => 0 ≤ v8 ∧ v8 ≤ (sigsOf m).length ∧ Upto (fun _ s => s.f4 ∈ foul ∨ s ∈ table) (fun n => (sigsOf m)[n]?) v8) g }) (fun g => (fun (v8 : Int) => ⟨[(0, .e (.c (.d (.sl (table.map d87))))), (1, .e (.c (.d (.sl (foul.map dS))))), (7, .e (.c (.f (.sl ((sigsOf m).map d87))))), (8, .e (.c (.d (.v (.int .i64 v8)))))], [], 160⟩) g.1) (fun g => (fun (v8 : Int) => ((sigsOf m).length - v8).toNat) g.1) ⟨0, ⟨by first | omega | (dsimp only; omega), by first | omega | (dsimp only; omega), upto_zero⟩⟩ (Wk.less (by kernel_rfl)) (fun g => ?_)
    obtain ⟨v8, hg6⟩ := g
    have hg6 : 0 ≤ v8 ∧ v8 ≤ (sigsOf m).length ∧ Upto (fun _ s => s.f4 ∈ foul ∨ s ∈ table) (fun n => (sigsOf m)[n]?) v8 := hg6
    obtain ⟨_, _, hA⟩ := hg6
    refine X.seq ?_
    refine X.seq ?_
    have el7 : ((sigsOf m).map d87).length = (sigsOf m).length := List.length_map ..
    refine X.rk ⟨[(0, .e (.c (.d (.sl (table.map d87))))), (1, .e (.c (.d (.sl (foul.map dS))))), (7, .e (.c (.f (.sl ((sigsOf m).map d87))))), (8, .e (.c (.d (.v (.int .i64 v8))))), (14, .e (.c (.d (.v (.bool (decide ((v8 : Int) < (((sigsOf m).map d87).length : Int))))))))], [], 224⟩ hτ hmix (by kernel_rfl) (by kernel_rfl) rfl ?_
    refine X.if_ (b := decide ((v8 : Int) < (((sigsOf m).map d87).length : Int))) (by kernel_rfl) (fun hb8 => ?_) (fun hb8 => ?_)
    · replace hb8 := of_decide_eq_true (hb8)
      refine X.skip ?_
      refine X.seq ?_
      refine X.block ?_
      refine X.seq ?_
      refine X.rs 3 hτ hmix (by kernel_rfl) ?_
      obtain ⟨x9, hx9⟩ : ∃ x, (sigsOf m)[Int.toNat v8]? = some x := ⟨_, List.getElem?_eq_getElem (by first | omega | (simp; done) | (simp; omega))⟩
      refine CH.idx hτ (d87 x9) (rows := ((sigsOf m).map d87)) (n := v8) (sz := 5) (by kernel_rfl) (by kernel_rfl) (by first | omega | (simp; done) | (simp; omega)) (by rw [List.getElem?_map, hx9]; rfl) (by kernel_rfl) ?_
      refine CH.go 2 hτ (by kernel_rfl) ?_
      obtain ⟨r10, hr12, hf11⟩ := s_l7Has foul x9.f4 (by first | omega | (simp; omega))
      replace hr12 := hr12.symm; subst hr12
      refine CH.call hf11 Try.func111 ⟨rfl, rfl⟩ [] (by kernel_rfl) (by kernel_rfl) (by kernel_rfl) (by kernel_rfl) ?_
      refine CH.go 2 hτ (by kernel_rfl) ?_
      rcases Bool.eq_false_or_eq_true (!(hasN foul x9.f4)) with hb14 | hb14
      · refine CH.alt 24 (sV (.bool (!(hasN foul x9.f4)))) (sV (.bool true)) (by kernel_rfl) (by rw [hb14]) ?_
        refine CH.alt 25 (sV (.bool (!(hasN foul x9.f4)))) (sV (.bool true)) (by kernel_rfl) (by rw [hb14]) ?_
        replace hb14 := bnot_yes (hb14)
        refine CH.go 3 hτ (by kernel_rfl) ?_
        refine CH.idx hτ (d87 x9) (rows := ((sigsOf m).map d87)) (n := v8) (sz := 5) (by kernel_rfl) (by kernel_rfl) (by first | omega | (simp; done) | (simp; omega)) (by rw [List.getElem?_map, hx9]; rfl) (by kernel_rfl) ?_
        refine CH.go 1 hτ (by kernel_rfl) ?_
        obtain ⟨r15, hr17, hf16⟩ := s_l13HasSig table x9 (by first | omega | (simp; omega))
        replace hr17 := hr17.symm; subst hr17
        refine CH.call hf16 Try.func112 ⟨rfl, rfl⟩ [] (by kernel_rfl) (by kernel_rfl) (by kernel_rfl) (by kernel_rfl) ?_
        refine CH.go 2 hτ (by kernel_rfl) ?_
        refine CH.endk ⟨[(0, .e (.c (.d (.sl (table.map d87))))), (1, .e (.c (.d (.sl (foul.map dS))))), (7, .e (.c (.f (.sl ((sigsOf m).map d87))))), (8, .e (.c (.d (.v (.int .i64 v8))))), (33, .e (.c (.d (.v (.bool (!(hasG table x9)))))))], [], 496⟩ (by kernel_rfl) (by kernel_rfl) rfl ?_
        refine X.if_ (b := !(hasG table x9)) (by kernel_rfl) (fun hb19 => ?_) (fun hb19 => ?_)
        · replace hb19 := bnot_yes (hb19)
          refine X.seq ?_
          refine X.rk ⟨[(6, .e (.c (.d (.v (.bool false)))))], [], 512⟩ hτ hmix (by kernel_rfl) (by kernel_rfl) rfl ?_
          refine X.ret ?_
          exact ⟨trivial, _, _, ⟨false, (by first | exact fls (fun h => (h _ (List.mem_of_getElem? ‹_›)).elim (hasN_no ‹_›) (hasG_no ‹_›)) | exact tru (mem_upto hA (by omega))), rfl, rfl⟩, .inl (Ret.mk' [] (by kernel_rfl) (by kernel_rfl) (by kernel_rfl))⟩
        · replace hb19 := bnot_no (hb19)
          refine X.skip ?_
          refine X.rk ⟨[(0, .e (.c (.d (.sl (table.map d87))))), (1, .e (.c (.d (.sl (foul.map dS))))), (7, .e (.c (.f (.sl ((sigsOf m).map d87))))), (8, .e (.c (.d (.v (.int .i64 (wrap64 (v8 + 1)))))))], [], 544⟩ hτ hmix (by kernel_rfl) (by kernel_rfl) (s2 := ⟨[(0, .e (.c (.d (.sl (table.map d87))))), (1, .e (.c (.d (.sl (foul.map dS))))), (7, .e (.c (.f (.sl ((sigsOf m).map d87))))), (8, .e (.c (.d (.v (.int .i64 (v8 + 1))))))], [], 544⟩) (congrArg (fun z : Int => (⟨[(0, .e (.c (.d (.sl (table.map d87))))), (1, .e (.c (.d (.sl (foul.map dS))))), (7, .e (.c (.f (.sl ((sigsOf m).map d87))))), (8, .e (.c (.d (.v (.int .i64 z)))))], [], 544⟩ : St)) (show wrap64 (v8 + 1) = (v8 + 1) by rw [w64 (n := (v8 + 1)) (by omega) (by omega)])) ?_
          refine ⟨⟨(v8 + 1), ⟨by first | omega | (dsimp only; omega), by first | omega | (dsimp only; omega), upto_nx (by first | omega | (dsimp only; omega)) hA ‹_› ((by first | exact .inl (hasN_iff.1 ‹_›) | exact .inr (hasG_iff.1 ‹_›)))⟩⟩, by first | exact rfl | omega | (dsimp only; omega) | (simp only [List.length_append, List.length_cons, List.length_nil, List.length_set]; omega) | (simp; done) | (simp; omega), Wk.mk' [] (by kernel_rfl) (by kernel_rfl) (by kernel_rfl)⟩
      · refine CH.alt 24 (sV (.bool (!(hasN foul x9.f4)))) (sV (.bool false)) (by kernel_rfl) (by rw [hb14]) ?_
        refine CH.alt 25 (sV (.bool (!(hasN foul x9.f4)))) (sV (.bool false)) (by kernel_rfl) (by rw [hb14]) ?_
        replace hb14 := bnot_no (hb14)
        refine CH.go 8 hτ (by kernel_rfl) ?_
        refine CH.endk ⟨[(0, .e (.c (.d (.sl (table.map d87))))), (1, .e (.c (.d (.sl (foul.map dS))))), (7, .e (.c (.f (.sl ((sigsOf m).map d87))))), (8, .e (.c (.d (.v (.int .i64 v8))))), (33, .e (.c (.d (.v (.bool false)))))], [], 496⟩ (by kernel_rfl) (by kernel_rfl) rfl ?_
        refine X.ifF (by kernel_rfl) ?_
        refine X.skip ?_
        refine X.rk ⟨[(0, .e (.c (.d (.sl (table.map d87))))), (1, .e (.c (.d (.sl (foul.map dS))))), (7, .e (.c (.f (.sl ((sigsOf m).map d87))))), (8, .e (.c (.d (.v (.int .i64 (wrap64 (v8 + 1)))))))], [], 544⟩ hτ hmix (by kernel_rfl) (by kernel_rfl) (s2 := ⟨[(0, .e (.c (.d (.sl (table.map d87))))), (1, .e (.c (.d (.sl (foul.map dS))))), (7, .e (.c (.f (.sl ((sigsOf m).map d87))))), (8, .e (.c (.d (.v (.int .i64 (v8 + 1))))))], [], 544⟩) (congrArg (fun z : Int => (⟨[(0, .e (.c (.d (.sl (table.map d87))))), (1, .e (.c (.d (.sl (foul.map dS))))), (7, .e (.c (.f (.sl ((sigsOf m).map d87))))), (8, .e (.c (.d (.v (.int .i64 z)))))], [], 544⟩ : St)) (show wrap64 (v8 + 1) = (v8 + 1) by rw [w64 (n := (v8 + 1)) (by omega) (by omega)])) ?_
        refine ⟨⟨(v8 + 1), ⟨by first | omega | (dsimp only; omega), by first | omega | (dsimp only; omega), upto_nx (by first | omega | (dsimp only; omega)) hA ‹_› ((by first | exact .inl (hasN_iff.1 ‹_›) | exact .inr (hasG_iff.1 ‹_›)))⟩⟩, by first | exact rfl | omega | (dsimp only; omega) | (simp only [List.length_append, List.length_cons, List.length_nil, List.length_set]; omega) | (simp; done) | (simp; omega), Wk.mk' [] (by kernel_rfl) (by kernel_rfl) (by kernel_rfl)⟩
    · replace hb8 := of_decide_eq_false (hb8)
      refine X.exit ?_
      refine X.seq ?_
      refine X.rk ⟨[(6, .e (.c (.d (.v (.bool true)))))], [], 240⟩ hτ hmix (by kernel_rfl) (by kernel_rfl) rfl ?_
      refine X.ret ?_
      exact ⟨trivial, _, _, ⟨true, (by first | exact fls (fun h => (h _ (List.mem_of_getElem? ‹_›)).elim (hasN_no ‹_›) (hasG_no ‹_›)) | exact tru (mem_upto hA (by omega))), rfl, rfl⟩, .inl (Ret.mk' [] (by kernel_rfl) (by kernel_rfl) (by kernel_rfl))⟩
  obtain ⟨_, _, ⟨r0, q1, rfl, rfl⟩, hf⟩ := key
  exact ⟨r0, q1, hf⟩

theorem i_Signed (table : List S87) (foul : List ByteArray) (m : S80) (hm : Sm80 m) (hd : Dr80 m) (ht : table.length ≤ 1000000000000) (hf : foul.length ≤ 2000000) : ∃ r0 : Bool, (r0 = signed table foul (sigsOf m)) ∧ Fn Try.prog 49 [.e (.c (.d (.sl (table.map d87)))), .e (.c (.d (.sl (foul.map dS)))), .e (.agg [.d (.v (.int .i64 m.f0)), .d (.v (.string m.f1)), .d (.v (.int .i64 m.f2)), .d (.sl (m.f3.map d59)), .d (.v (.int .i64 m.f4.f0)), .d (.v (.int .i64 m.f4.f1)), .d (.v (.string m.f4.f2)), .d (.v (.int .i64 m.f5.f0)), .d (.v (.int .i64 m.f5.f1)), .d (.v (.string m.f5.f2)), .d (.v (.int .i64 m.f6.f0)), .d (.v (.int .i64 m.f6.f1)), .d (.sl (m.f6.f2.map dS)), .d (.v (.int .i64 m.f7.f0)), .d (.sl (m.f7.f1.map dS)), .d (.sl (m.f7.f2.map dI))])] (lookH []) (.e (.c (.d (.v (.bool r0))))) (lookH []) := by
  have key : ∃ x' h', ((fun x' h' => ∃ r0 : Bool, (r0 = signed table foul (sigsOf m)) ∧ x' = .e (.c (.d (.v (.bool r0)))) ∧ h' = [])) x' h' ∧ Fn Try.prog 49 [.e (.c (.d (.sl (table.map d87)))), .e (.c (.d (.sl (foul.map dS)))), .e (.agg [.d (.v (.int .i64 m.f0)), .d (.v (.string m.f1)), .d (.v (.int .i64 m.f2)), .d (.sl (m.f3.map d59)), .d (.v (.int .i64 m.f4.f0)), .d (.v (.int .i64 m.f4.f1)), .d (.v (.string m.f4.f2)), .d (.v (.int .i64 m.f5.f0)), .d (.v (.int .i64 m.f5.f1)), .d (.v (.string m.f5.f2)), .d (.v (.int .i64 m.f6.f0)), .d (.v (.int .i64 m.f6.f1)), .d (.sl (m.f6.f2.map dS)), .d (.v (.int .i64 m.f7.f0)), .d (.sl (m.f7.f1.map dS)), .d (.sl (m.f7.f2.map dI))])] (lookH []) x' (lookH h') := by
    refine Fn.bodyX (N := 28) hτ Try.func49 rfl rfl rfl rfl ?_
    refine X.seq ?_
    refine X.rk ⟨[(0, .e (.c (.d (.sl (table.map d87))))), (1, .e (.c (.d (.sl (foul.map dS))))), (5, .pt 64 0 0)], [(64, some (.box [.d (.v (.int .i64 m.f0)), .d (.v (.string m.f1)), .d (.v (.int .i64 m.f2)), .d (.sl (m.f3.map d59)), .d (.v (.int .i64 m.f4.f0)), .d (.v (.int .i64 m.f4.f1)), .d (.v (.string m.f4.f2)), .d (.v (.int .i64 m.f5.f0)), .d (.v (.int .i64 m.f5.f1)), .d (.v (.string m.f5.f2)), .d (.v (.int .i64 m.f6.f0)), .d (.v (.int .i64 m.f6.f1)), .d (.sl (m.f6.f2.map dS)), .d (.v (.int .i64 m.f7.f0)), .d (.sl (m.f7.f1.map dS)), .d (.sl (m.f7.f2.map dI))]))], 96⟩ hτ hmix (by kernel_rfl) (by kernel_rfl) rfl ?_
    refine X.seq ?_
    refine X.seq ?_
    refine X.rs 1 hτ hmix (by kernel_rfl) ?_
    obtain ⟨r1, hr3, hf2⟩ := i_SigsOf m (by assumption) (by assumption)
    replace hr3 := hr3.symm; subst hr3
    have hsl := sigs_len m ‹_›
    refine CH.call hf2 Try.func48 ⟨rfl, rfl⟩ [] (by kernel_rfl) (by kernel_rfl) (by kernel_rfl) (by kernel_rfl) ?_
    refine CH.go 2 hτ (by kernel_rfl) ?_
    have el5 : ((sigsOf m).map d87).length = (sigsOf m).length := List.length_map ..
    refine CH.endk ⟨[(0, .e (.c (.d (.sl (table.map d87))))), (1, .e (.c (.d (.sl (foul.map dS))))), (10, .e (.c (.f (.sl ((sigsOf m).map d87))))), (11, .e (.c (.d (.v (.int .i64 (((sigsOf m).map d87).length : Int)))))), (12, .e (.c (.d (.v (.int .i64 0)))))], [], 160⟩ (by kernel_rfl) (by kernel_rfl) rfl ?_
    refine X.block ?_
    -- 2: v12 : Int
    refine X.loop (σ := { g : Int // (fun (v12 : Int) => 0 ≤ v12 ∧ v12 ≤ (sigsOf m).length ∧ Upto (fun _ s => s.f4 ∈ foul ∨ s ∈ table) (fun n => (sigsOf m)[n]?) v12) g }) (fun g => (fun (v12 : Int) => ⟨[(0, .e (.c (.d (.sl (table.map d87))))), (1, .e (.c (.d (.sl (foul.map dS))))), (10, .e (.c (.f (.sl ((sigsOf m).map d87))))), (11, .e (.c (.d (.v (.int .i64 (((sigsOf m).map d87).length : Int)))))), (12, .e (.c (.d (.v (.int .i64 v12)))))], [], 160⟩) g.1) (fun g => (fun (v12 : Int) => ((sigsOf m).length - v12).toNat) g.1) ⟨0, ⟨by first | omega | (dsimp only; omega), by first | omega | (dsimp only; omega), upto_zero⟩⟩ (Wk.less (by kernel_rfl)) (fun g => ?_)
    obtain ⟨v12, hg7⟩ := g
    have hg7 : 0 ≤ v12 ∧ v12 ≤ (sigsOf m).length ∧ Upto (fun _ s => s.f4 ∈ foul ∨ s ∈ table) (fun n => (sigsOf m)[n]?) v12 := hg7
    obtain ⟨_, _, hA⟩ := hg7
    refine X.seq ?_
    refine X.rk ⟨[(0, .e (.c (.d (.sl (table.map d87))))), (1, .e (.c (.d (.sl (foul.map dS))))), (10, .e (.c (.f (.sl ((sigsOf m).map d87))))), (11, .e (.c (.d (.v (.int .i64 (((sigsOf m).map d87).length : Int)))))), (12, .e (.c (.d (.v (.int .i64 v12))))), (13, .e (.c (.d (.v (.bool (decide ((v12 : Int) < (((sigsOf m).map d87).length : Int))))))))], [], 176⟩ hτ hmix (by kernel_rfl) (by kernel_rfl) rfl ?_
    refine X.seq ?_
    refine X.if_ (b := decide ((v12 : Int) < (((sigsOf m).map d87).length : Int))) (by kernel_rfl) (fun hb8 => ?_) (fun hb8 => ?_)
    · replace hb8 := of_decide_eq_true (hb8)
      refine X.skip ?_
      refine X.seq ?_
      refine X.block ?_
      refine X.seq ?_
      refine X.rs 0 hτ hmix (by kernel_rfl) ?_
      obtain ⟨x9, hx9⟩ : ∃ x, (sigsOf m)[Int.toNat v12]? = some x := ⟨_, List.getElem?_eq_getElem (by first | omega | (simp; done) | (simp; omega))⟩
      refine CH.idx hτ (d87 x9) (rows := ((sigsOf m).map d87)) (n := v12) (sz := 5) (by kernel_rfl) (by kernel_rfl) (by first | omega | (simp; done) | (simp; omega)) (by rw [List.getElem?_map, hx9]; rfl) (by kernel_rfl) ?_
      refine CH.go 3 hτ (by kernel_rfl) ?_
      refine CH.endk ⟨[(0, .e (.c (.d (.sl (table.map d87))))), (1, .e (.c (.d (.sl (foul.map dS))))), (8, .pt 208 0 0), (10, .e (.c (.f (.sl ((sigsOf m).map d87))))), (11, .e (.c (.d (.v (.int .i64 (((sigsOf m).map d87).length : Int)))))), (12, .e (.c (.d (.v (.int .i64 v12)))))], [(208, some (.box [.d (.v (.int .i64 x9.f0)), .d (.v (.int .i64 x9.f1)), .d (.v (.int .i64 x9.f2)), .d (.v (.int .i64 x9.f3)), .d (.v (.string x9.f4))]))], 240⟩ (by kernel_rfl) (by kernel_rfl) rfl ?_
      refine X.seq ?_
      refine X.rs 2 hτ hmix (by kernel_rfl) ?_
      obtain ⟨r10, hr12, hf11⟩ := i_hasSig table x9 (by omega)
      replace hr12 := hr12.symm; subst hr12
      refine CH.call hf11 Try.func109 ⟨rfl, rfl⟩ [] (by kernel_rfl) (by kernel_rfl) (by kernel_rfl) (by kernel_rfl) ?_
      refine CH.go 2 hτ (by kernel_rfl) ?_
      rcases Bool.eq_false_or_eq_true (!(hasG table x9)) with hb14 | hb14
      · refine CH.alt 19 (sV (.bool (!(hasG table x9)))) (sV (.bool true)) (by kernel_rfl) (by rw [hb14]) ?_
        refine CH.alt 20 (sV (.bool (!(hasG table x9)))) (sV (.bool true)) (by kernel_rfl) (by rw [hb14]) ?_
        replace hb14 := bnot_yes (hb14)
        refine CH.go 3 hτ (by kernel_rfl) ?_
        obtain ⟨r15, hr17, hf16⟩ := i_hasStr foul x9.f4 (by omega)
        replace hr17 := hr17.symm; subst hr17
        refine CH.call hf16 Try.func110 ⟨rfl, rfl⟩ [] (by kernel_rfl) (by kernel_rfl) (by kernel_rfl) (by kernel_rfl) ?_
        refine CH.go 2 hτ (by kernel_rfl) ?_
        refine CH.endk ⟨[(0, .e (.c (.d (.sl (table.map d87))))), (1, .e (.c (.d (.sl (foul.map dS))))), (10, .e (.c (.f (.sl ((sigsOf m).map d87))))), (11, .e (.c (.d (.v (.int .i64 (((sigsOf m).map d87).length : Int)))))), (12, .e (.c (.d (.v (.int .i64 v12))))), (26, .e (.c (.d (.v (.bool (!(hasN foul x9.f4)))))))], [], 416⟩ (by kernel_rfl) (by kernel_rfl) rfl ?_
        refine X.if_ (b := !(hasN foul x9.f4)) (by kernel_rfl) (fun hb19 => ?_) (fun hb19 => ?_)
        · replace hb19 := bnot_yes (hb19)
          refine X.seq ?_
          refine X.rk ⟨[(6, .e (.c (.d (.v (.bool false)))))], [], 432⟩ hτ hmix (by kernel_rfl) (by kernel_rfl) rfl ?_
          refine X.ret ?_
          exact ⟨trivial, _, _, ⟨false, (by first | exact fls (fun h => (h _ (List.mem_of_getElem? ‹_›)).elim (hasN_no ‹_›) (hasG_no ‹_›)) | exact tru (mem_upto hA (by omega))), rfl, rfl⟩, .inl (Ret.mk' [] (by kernel_rfl) (by kernel_rfl) (by kernel_rfl))⟩
        · replace hb19 := bnot_no (hb19)
          refine X.skip ?_
          refine X.rk ⟨[(0, .e (.c (.d (.sl (table.map d87))))), (1, .e (.c (.d (.sl (foul.map dS))))), (10, .e (.c (.f (.sl ((sigsOf m).map d87))))), (11, .e (.c (.d (.v (.int .i64 (((sigsOf m).map d87).length : Int)))))), (12, .e (.c (.d (.v (.int .i64 (wrap64 (v12 + 1)))))))], [], 448⟩ hτ hmix (by kernel_rfl) (by kernel_rfl) (s2 := ⟨[(0, .e (.c (.d (.sl (table.map d87))))), (1, .e (.c (.d (.sl (foul.map dS))))), (10, .e (.c (.f (.sl ((sigsOf m).map d87))))), (11, .e (.c (.d (.v (.int .i64 (((sigsOf m).map d87).length : Int)))))), (12, .e (.c (.d (.v (.int .i64 (v12 + 1))))))], [], 448⟩) (congrArg (fun z : Int => (⟨[(0, .e (.c (.d (.sl (table.map d87))))), (1, .e (.c (.d (.sl (foul.map dS))))), (10, .e (.c (.f (.sl ((sigsOf m).map d87))))), (11, .e (.c (.d (.v (.int .i64 (((sigsOf m).map d87).length : Int)))))), (12, .e (.c (.d (.v (.int .i64 z)))))], [], 448⟩ : St)) (show wrap64 (v12 + 1) = (v12 + 1) by rw [w64 (n := (v12 + 1)) (by omega) (by omega)])) ?_
          refine ⟨⟨(v12 + 1), ⟨by first | omega | (dsimp only; omega), by first | omega | (dsimp only; omega), upto_nx (by first | omega | (dsimp only; omega)) hA ‹_› ((by first | exact .inl (hasN_iff.1 ‹_›) | exact .inr (hasG_iff.1 ‹_›)))⟩⟩, by first | exact rfl | omega | (dsimp only; omega) | (simp only [List.length_append, List.length_cons, List.length_nil, List.length_set]; omega) | (simp; done) | (simp; omega), Wk.mk' [] (by kernel_rfl) (by kernel_rfl) (by kernel_rfl)⟩
      · refine CH.alt 19 (sV (.bool (!(hasG table x9)))) (sV (.bool false)) (by kernel_rfl) (by rw [hb14]) ?_
        refine CH.alt 20 (sV (.bool (!(hasG table x9)))) (sV (.bool false)) (by kernel_rfl) (by rw [hb14]) ?_
        replace hb14 := bnot_no (hb14)
        refine CH.go 6 hτ (by kernel_rfl) ?_
        refine CH.endk ⟨[(0, .e (.c (.d (.sl (table.map d87))))), (1, .e (.c (.d (.sl (foul.map dS))))), (10, .e (.c (.f (.sl ((sigsOf m).map d87))))), (11, .e (.c (.d (.v (.int .i64 (((sigsOf m).map d87).length : Int)))))), (12, .e (.c (.d (.v (.int .i64 v12))))), (26, .e (.c (.d (.v (.bool false)))))], [], 416⟩ (by kernel_rfl) (by kernel_rfl) rfl ?_
        refine X.ifF (by kernel_rfl) ?_
        refine X.skip ?_
        refine X.rk ⟨[(0, .e (.c (.d (.sl (table.map d87))))), (1, .e (.c (.d (.sl (foul.map dS))))), (10, .e (.c (.f (.sl ((sigsOf m).map d87))))), (11, .e (.c (.d (.v (.int .i64 (((sigsOf m).map d87).length : Int)))))), (12, .e (.c (.d (.v (.int .i64 (wrap64 (v12 + 1)))))))], [], 448⟩ hτ hmix (by kernel_rfl) (by kernel_rfl) (s2 := ⟨[(0, .e (.c (.d (.sl (table.map d87))))), (1, .e (.c (.d (.sl (foul.map dS))))), (10, .e (.c (.f (.sl ((sigsOf m).map d87))))), (11, .e (.c (.d (.v (.int .i64 (((sigsOf m).map d87).length : Int)))))), (12, .e (.c (.d (.v (.int .i64 (v12 + 1))))))], [], 448⟩) (congrArg (fun z : Int => (⟨[(0, .e (.c (.d (.sl (table.map d87))))), (1, .e (.c (.d (.sl (foul.map dS))))), (10, .e (.c (.f (.sl ((sigsOf m).map d87))))), (11, .e (.c (.d (.v (.int .i64 (((sigsOf m).map d87).length : Int)))))), (12, .e (.c (.d (.v (.int .i64 z)))))], [], 448⟩ : St)) (show wrap64 (v12 + 1) = (v12 + 1) by rw [w64 (n := (v12 + 1)) (by omega) (by omega)])) ?_
        refine ⟨⟨(v12 + 1), ⟨by first | omega | (dsimp only; omega), by first | omega | (dsimp only; omega), upto_nx (by first | omega | (dsimp only; omega)) hA ‹_› ((by first | exact .inl (hasN_iff.1 ‹_›) | exact .inr (hasG_iff.1 ‹_›)))⟩⟩, by first | exact rfl | omega | (dsimp only; omega) | (simp only [List.length_append, List.length_cons, List.length_nil, List.length_set]; omega) | (simp; done) | (simp; omega), Wk.mk' [] (by kernel_rfl) (by kernel_rfl) (by kernel_rfl)⟩
    · replace hb8 := of_decide_eq_false (hb8)
      refine X.exit ?_
      refine X.seq ?_
      refine X.rk ⟨[(6, .e (.c (.d (.v (.bool true)))))], [], 192⟩ hτ hmix (by kernel_rfl) (by kernel_rfl) rfl ?_
      refine X.ret ?_
      exact ⟨trivial, _, _, ⟨true, (by first | exact fls (fun h => (h _ (List.mem_of_getElem? ‹_›)).elim (hasN_no ‹_›) (hasG_no ‹_›)) | exact tru (mem_upto hA (by omega))), rfl, rfl⟩, .inl (Ret.mk' [] (by kernel_rfl) (by kernel_rfl) (by kernel_rfl))⟩
  obtain ⟨_, _, ⟨r0, q1, rfl, rfl⟩, hf⟩ := key
  exact ⟨r0, q1, hf⟩

theorem s_l13Draw (bs : List Int) (i0 h0 : Int) (hl : bs.length ≤ 4611686018427387904) (hi : 0 ≤ i0 ∧ i0 ≤ bs.length)  : ∃ r0 : S80, ∃ i1 h1 : Int, (Sm80 r0 ∧ Dr80 r0) ∧ (0 ≤ i1 ∧ i1 ≤ bs.length) ∧ Fn Try.prog 103 [.pt 0 0 0] (lookH [(0, some (.box [.k 0 (.sl (bs.map dB)), .k 1 (.v (.int .i64 i0)), .k 2 (.v (.int .i64 h0))]))]) (.e (.agg [.d (.v (.int .i64 r0.f0)), .d (.v (.string r0.f1)), .d (.v (.int .i64 r0.f2)), .f (.sl (r0.f3.map d59)), .d (.v (.int .i64 r0.f4.f0)), .d (.v (.int .i64 r0.f4.f1)), .d (.v (.string r0.f4.f2)), .d (.v (.int .i64 r0.f5.f0)), .d (.v (.int .i64 r0.f5.f1)), .d (.v (.string r0.f5.f2)), .d (.v (.int .i64 r0.f6.f0)), .d (.v (.int .i64 r0.f6.f1)), .f (.sl (r0.f6.f2.map dS)), .d (.v (.int .i64 r0.f7.f0)), .f (.sl (r0.f7.f1.map dS)), .f (.sl (r0.f7.f2.map dI))])) (lookH [(0, some (.box [.k 0 (.sl (bs.map dB)), .d (.v (.int .i64 i1)), .d (.v (.int .i64 h1))]))]) := by
  have key : ∃ x' h', ((fun x' h' => ∃ r0 : S80, ∃ i1 h1 : Int, (Sm80 r0 ∧ Dr80 r0) ∧ (0 ≤ i1 ∧ i1 ≤ bs.length) ∧ x' = .e (.agg [.d (.v (.int .i64 r0.f0)), .d (.v (.string r0.f1)), .d (.v (.int .i64 r0.f2)), .f (.sl (r0.f3.map d59)), .d (.v (.int .i64 r0.f4.f0)), .d (.v (.int .i64 r0.f4.f1)), .d (.v (.string r0.f4.f2)), .d (.v (.int .i64 r0.f5.f0)), .d (.v (.int .i64 r0.f5.f1)), .d (.v (.string r0.f5.f2)), .d (.v (.int .i64 r0.f6.f0)), .d (.v (.int .i64 r0.f6.f1)), .f (.sl (r0.f6.f2.map dS)), .d (.v (.int .i64 r0.f7.f0)), .f (.sl (r0.f7.f1.map dS)), .f (.sl (r0.f7.f2.map dI))]) ∧ h' = [(0, some (.box [.k 0 (.sl (bs.map dB)), .d (.v (.int .i64 i1)), .d (.v (.int .i64 h1))]))])) x' h' ∧ Fn Try.prog 103 [.pt 0 0 0] (lookH [(0, some (.box [.k 0 (.sl (bs.map dB)), .k 1 (.v (.int .i64 i0)), .k 2 (.v (.int .i64 h0))]))]) x' (lookH h') := by
    refine Fn.bodyX (N := 64) hτ Try.func103 rfl rfl rfl rfl ?_
    refine X.seq ?_
    refine X.rk ⟨[(0, .pt 0 0 0), (2, .pt 64 0 0)], [(0, some (.box [.k 0 (.sl (bs.map dB)), .d (.v (.int .i64 i0)), .d (.v (.int .i64 h0))])), (64, some (.box [.d (.v (.int .i64 0)), .d (.v (.string (⟨#[]⟩ : ByteArray))), .d (.v (.int .i64 0)), .nil, .d (.v (.int .i64 0)), .d (.v (.int .i64 0)), .d (.v (.string (⟨#[]⟩ : ByteArray))), .d (.v (.int .i64 0)), .d (.v (.int .i64 0)), .d (.v (.string (⟨#[]⟩ : ByteArray))), .d (.v (.int .i64 0)), .d (.v (.int .i64 0)), .nil, .d (.v (.int .i64 0)), .nil, .nil]))], 80⟩ hτ hmix (by kernel_rfl) (by kernel_rfl) rfl ?_
    refine X.seq ?_
    refine X.rs 1 hτ hmix (by kernel_rfl) ?_
    obtain ⟨r1, i4, h5, hr3, hi6, hf2⟩ := s_l1Below bs i0 h0 (by first | assumption | omega) (by omega) 4
    obtain ⟨_, _⟩ := hr3
    refine CH.call hf2 Try.func97 ⟨rfl, rfl⟩ [(0, 0)] (by kernel_rfl) (by kernel_rfl) (by kernel_rfl) (by kernel_rfl) ?_
    refine CH.go 2 hτ (by kernel_rfl) ?_
    obtain ⟨r7, i10, h11, hr9, hi12, hf8⟩ := s_l1Name bs i4 h5 (by first | assumption | omega) (by omega)
    have hs := hr9
    refine CH.call hf8 Try.func151 ⟨rfl, rfl⟩ [(0, 0)] (by kernel_rfl) (by kernel_rfl) (by kernel_rfl) (by kernel_rfl) ?_
    refine CH.go 1 hτ (by kernel_rfl) ?_
    obtain ⟨r13, i16, h17, hr15, hi18, hf14⟩ := s_l1Below bs i10 h11 (by first | assumption | omega) (by omega) 2
    obtain ⟨_, _⟩ := hr15
    refine CH.call hf14 Try.func97 ⟨rfl, rfl⟩ [(0, 0)] (by kernel_rfl) (by kernel_rfl) (by kernel_rfl) (by kernel_rfl) ?_
    refine CH.go 4 hτ (by kernel_rfl) ?_
    refine CH.endk ⟨[(0, .pt 0 0 0), (2, .pt 64 0 0), (3, .pt 224 0 0)], [(0, some (.box [.k 0 (.sl (bs.map dB)), .d (.v (.int .i64 i16)), .d (.v (.int .i64 h17))])), (64, some (.box [.d (.v (.int .i64 0)), .d (.v (.string (⟨#[]⟩ : ByteArray))), .d (.v (.int .i64 0)), .nil, .d (.v (.int .i64 0)), .d (.v (.int .i64 0)), .d (.v (.string (⟨#[]⟩ : ByteArray))), .d (.v (.int .i64 0)), .d (.v (.int .i64 0)), .d (.v (.string (⟨#[]⟩ : ByteArray))), .d (.v (.int .i64 0)), .d (.v (.int .i64 0)), .nil, .d (.v (.int .i64 0)), .nil, .nil])), (224, some (.box [.d (.v (.int .i64 (wrap64 (1 + r1)))), .d (.v (.string r7)), .d (.v (.int .i64 r13)), .nil, .d (.v (.int .i64 0)), .d (.v (.int .i64 0)), .d (.v (.string (⟨#[]⟩ : ByteArray))), .d (.v (.int .i64 0)), .d (.v (.int .i64 0)), .d (.v (.string (⟨#[]⟩ : ByteArray))), .d (.v (.int .i64 0)), .d (.v (.int .i64 (-1))), .nil, .d (.v (.int .i64 0)), .nil, .nil]))], 256⟩ (by kernel_rfl) (by kernel_rfl) (s2 := ⟨[(0, .pt 0 0 0), (2, .pt 64 0 0), (3, .pt 224 0 0)], [(0, some (.box [.k 0 (.sl (bs.map dB)), .d (.v (.int .i64 i16)), .d (.v (.int .i64 h17))])), (64, some (.box [.d (.v (.int .i64 0)), .d (.v (.string (⟨#[]⟩ : ByteArray))), .d (.v (.int .i64 0)), .nil, .d (.v (.int .i64 0)), .d (.v (.int .i64 0)), .d (.v (.string (⟨#[]⟩ : ByteArray))), .d (.v (.int .i64 0)), .d (.v (.int .i64 0)), .d (.v (.string (⟨#[]⟩ : ByteArray))), .d (.v (.int .i64 0)), .d (.v (.int .i64 0)), .nil, .d (.v (.int .i64 0)), .nil, .nil])), (224, some (.box [.d (.v (.int .i64 (1 + r1))), .d (.v (.string r7)), .d (.v (.int .i64 r13)), .nil, .d (.v (.int .i64 0)), .d (.v (.int .i64 0)), .d (.v (.string (⟨#[]⟩ : ByteArray))), .d (.v (.int .i64 0)), .d (.v (.int .i64 0)), .d (.v (.string (⟨#[]⟩ : ByteArray))), .d (.v (.int .i64 0)), .d (.v (.int .i64 (-1))), .nil, .d (.v (.int .i64 0)), .nil, .nil]))], 256⟩) (congrArg (fun z : Int => (⟨[(0, .pt 0 0 0), (2, .pt 64 0 0), (3, .pt 224 0 0)], [(0, some (.box [.k 0 (.sl (bs.map dB)), .d (.v (.int .i64 i16)), .d (.v (.int .i64 h17))])), (64, some (.box [.d (.v (.int .i64 0)), .d (.v (.string (⟨#[]⟩ : ByteArray))), .d (.v (.int .i64 0)), .nil, .d (.v (.int .i64 0)), .d (.v (.int .i64 0)), .d (.v (.string (⟨#[]⟩ : ByteArray))), .d (.v (.int .i64 0)), .d (.v (.int .i64 0)), .d (.v (.string (⟨#[]⟩ : ByteArray))), .d (.v (.int .i64 0)), .d (.v (.int .i64 0)), .nil, .d (.v (.int .i64 0)), .nil, .nil])), (224, some (.box [.d (.v (.int .i64 z)), .d (.v (.string r7)), .d (.v (.int .i64 r13)), .nil, .d (.v (.int .i64 0)), .d (.v (.int .i64 0)), .d (.v (.string (⟨#[]⟩ : ByteArray))), .d (.v (.int .i64 0)), .d (.v (.int .i64 0)), .d (.v (.string (⟨#[]⟩ : ByteArray))), .d (.v (.int .i64 0)), .d (.v (.int .i64 (-1))), .nil, .d (.v (.int .i64 0)), .nil, .nil]))], 256⟩ : St)) (show wrap64 (1 + r1) = (1 + r1) by rw [w64 (n := (1 + r1)) (by omega) (by omega)])) ?_
    -- join: c0_1 : Int, c0_2 : Int, Lc64_3 : List S59, c224_2 : Int, Lc224_3 : List S59, c224_4 : Int, c224_5 : Int, c224_6 : ByteArray, c224_7 : Int, c224_8 : Int, c224_9 : ByteArray, c224_10 : Int, c224_11 : Int, Lc224_12 : List ByteArray, c224_13 : Int, Lc224_14 : List ByteArray, Lc224_15 : List Int
    refine X.seqJ (σ := { g : Int × Int × (List S59) × Int × (List S59) × Int × Int × ByteArray × Int × Int × ByteArray × Int × Int × (List ByteArray) × Int × (List ByteArray) × (List Int) // (fun (c0_1 : Int) (c0_2 : Int) (Lc64_3 : List S59) (c224_2 : Int) (Lc224_3 : List S59) (c224_4 : Int) (c224_5 : Int) (c224_6 : ByteArray) (c224_7 : Int) (c224_8 : Int) (c224_9 : ByteArray) (c224_10 : Int) (c224_11 : Int) (Lc224_12 : List ByteArray) (c224_13 : Int) (Lc224_14 : List ByteArray) (Lc224_15 : List Int) => (0 ≤ c0_1 ∧ c0_1 ≤ bs.length) ∧ (SmL Lc224_3 ∧ Lc224_3.length ≤ 90000 ∧ (∀ x, x ∈ Lc224_3 → Dr59 x) ∧ SmN Lc224_12 ∧ SmN Lc224_14 ∧ Lc224_15.length ≤ 2000000 ∧ Lc224_14.length ≤ Lc224_15.length)) g.1 g.2.1 g.2.2.1 g.2.2.2.1 g.2.2.2.2.1 g.2.2.2.2.2.1 g.2.2.2.2.2.2.1 g.2.2.2.2.2.2.2.1 g.2.2.2.2.2.2.2.2.1 g.2.2.2.2.2.2.2.2.2.1 g.2.2.2.2.2.2.2.2.2.2.1 g.2.2.2.2.2.2.2.2.2.2.2.1 g.2.2.2.2.2.2.2.2.2.2.2.2.1 g.2.2.2.2.2.2.2.2.2.2.2.2.2.1 g.2.2.2.2.2.2.2.2.2.2.2.2.2.2.1 g.2.2.2.2.2.2.2.2.2.2.2.2.2.2.2.1 g.2.2.2.2.2.2.2.2.2.2.2.2.2.2.2.2 }) (fun g => (fun (c0_1 : Int) (c0_2 : Int) (Lc64_3 : List S59) (c224_2 : Int) (Lc224_3 : List S59) (c224_4 : Int) (c224_5 : Int) (c224_6 : ByteArray) (c224_7 : Int) (c224_8 : Int) (c224_9 : ByteArray) (c224_10 : Int) (c224_11 : Int) (Lc224_12 : List ByteArray) (c224_13 : Int) (Lc224_14 : List ByteArray) (Lc224_15 : List Int) => ⟨[(2, .pt 64 0 0), (3, .pt 224 0 0)], [(0, some (.box [.k 0 (.sl (bs.map dB)), .d (.v (.int .i64 c0_1)), .d (.v (.int .i64 c0_2))])), (64, some (.box [.d (.v (.int .i64 0)), .d (.v (.string (⟨#[]⟩ : ByteArray))), .d (.v (.int .i64 0)), .f (.sl (Lc64_3.map d59)), .d (.v (.int .i64 0)), .d (.v (.int .i64 0)), .d (.v (.string (⟨#[]⟩ : ByteArray))), .d (.v (.int .i64 0)), .d (.v (.int .i64 0)), .d (.v (.string (⟨#[]⟩ : ByteArray))), .d (.v (.int .i64 0)), .d (.v (.int .i64 0)), .nil, .d (.v (.int .i64 0)), .nil, .nil])), (224, some (.box [.d (.v (.int .i64 (1 + r1))), .d (.v (.string r7)), .d (.v (.int .i64 c224_2)), .f (.sl (Lc224_3.map d59)), .d (.v (.int .i64 c224_4)), .d (.v (.int .i64 c224_5)), .d (.v (.string c224_6)), .d (.v (.int .i64 c224_7)), .d (.v (.int .i64 c224_8)), .d (.v (.string c224_9)), .d (.v (.int .i64 c224_10)), .d (.v (.int .i64 c224_11)), .f (.sl (Lc224_12.map dS)), .d (.v (.int .i64 c224_13)), .f (.sl (Lc224_14.map dS)), .f (.sl (Lc224_15.map dI))]))], 512⟩) g.1.1 g.1.2.1 g.1.2.2.1 g.1.2.2.2.1 g.1.2.2.2.2.1 g.1.2.2.2.2.2.1 g.1.2.2.2.2.2.2.1 g.1.2.2.2.2.2.2.2.1 g.1.2.2.2.2.2.2.2.2.1 g.1.2.2.2.2.2.2.2.2.2.1 g.1.2.2.2.2.2.2.2.2.2.2.1 g.1.2.2.2.2.2.2.2.2.2.2.2.1 g.1.2.2.2.2.2.2.2.2.2.2.2.2.1 g.1.2.2.2.2.2.2.2.2.2.2.2.2.2.1 g.1.2.2.2.2.2.2.2.2.2.2.2.2.2.2.1 g.1.2.2.2.2.2.2.2.2.2.2.2.2.2.2.2.1 g.1.2.2.2.2.2.2.2.2.2.2.2.2.2.2.2.2) ?_ (fun g => ?_)
    · refine X.seq ?_
      refine X.rk ⟨[(0, .pt 0 0 0), (2, .pt 64 0 0), (3, .pt 224 0 0), (14, .e (.c (.d (.v (.int .i64 (1 + r1))))))], [(0, some (.box [.k 0 (.sl (bs.map dB)), .d (.v (.int .i64 i16)), .d (.v (.int .i64 h17))])), (64, some (.box [.d (.v (.int .i64 0)), .d (.v (.string (⟨#[]⟩ : ByteArray))), .d (.v (.int .i64 0)), .nil, .d (.v (.int .i64 0)), .d (.v (.int .i64 0)), .d (.v (.string (⟨#[]⟩ : ByteArray))), .d (.v (.int .i64 0)), .d (.v (.int .i64 0)), .d (.v (.string (⟨#[]⟩ : ByteArray))), .d (.v (.int .i64 0)), .d (.v (.int .i64 0)), .nil, .d (.v (.int .i64 0)), .nil, .nil])), (224, some (.box [.d (.v (.int .i64 (1 + r1))), .d (.v (.string r7)), .d (.v (.int .i64 r13)), .nil, .d (.v (.int .i64 0)), .d (.v (.int .i64 0)), .d (.v (.string (⟨#[]⟩ : ByteArray))), .d (.v (.int .i64 0)), .d (.v (.int .i64 0)), .d (.v (.string (⟨#[]⟩ : ByteArray))), .d (.v (.int .i64 0)), .d (.v (.int .i64 (-1))), .nil, .d (.v (.int .i64 0)), .nil, .nil]))], 288⟩ hτ hmix (by kernel_rfl) (by kernel_rfl) rfl ?_
      refine X.block ?_
      refine X.seq ?_
      refine X.rk ⟨[(0, .pt 0 0 0), (2, .pt 64 0 0), (3, .pt 224 0 0), (14, .e (.c (.d (.v (.int .i64 (1 + r1)))))), (25, .e (.c (.d (.v (.bool ((1 + r1) == 1))))))], [(0, some (.box [.k 0 (.sl (bs.map dB)), .d (.v (.int .i64 i16)), .d (.v (.int .i64 h17))])), (64, some (.box [.d (.v (.int .i64 0)), .d (.v (.string (⟨#[]⟩ : ByteArray))), .d (.v (.int .i64 0)), .nil, .d (.v (.int .i64 0)), .d (.v (.int .i64 0)), .d (.v (.string (⟨#[]⟩ : ByteArray))), .d (.v (.int .i64 0)), .d (.v (.int .i64 0)), .d (.v (.string (⟨#[]⟩ : ByteArray))), .d (.v (.int .i64 0)), .d (.v (.int .i64 0)), .nil, .d (.v (.int .i64 0)), .nil, .nil])), (224, some (.box [.d (.v (.int .i64 (1 + r1))), .d (.v (.string r7)), .d (.v (.int .i64 r13)), .nil, .d (.v (.int .i64 0)), .d (.v (.int .i64 0)), .d (.v (.string (⟨#[]⟩ : ByteArray))), .d (.v (.int .i64 0)), .d (.v (.int .i64 0)), .d (.v (.string (⟨#[]⟩ : ByteArray))), .d (.v (.int .i64 0)), .d (.v (.int .i64 (-1))), .nil, .d (.v (.int .i64 0)), .nil, .nil]))], 320⟩ hτ hmix (by kernel_rfl) (by kernel_rfl) rfl ?_
      refine X.if_ (b := ((1 + r1) == 1)) (by kernel_rfl) (fun hb20 => ?_) (fun hb20 => ?_)
      · replace hb20 := eq_of_beq (hb20)
        refine X.seq ?_
        refine X.rs 1 hτ hmix (by kernel_rfl) ?_
        obtain ⟨r21, i24, h25, hr23, hi26, hf22⟩ := s_l9Draw bs i16 h17 (by first | assumption | omega) (by omega)
        obtain ⟨hq, hq6, hq8, hqd⟩ := hr23
        refine CH.call hf22 Try.func153 ⟨rfl, rfl⟩ [(0, 0)] (by kernel_rfl) (by kernel_rfl) (by kernel_rfl) (by kernel_rfl) ?_
        refine CH.go 3 hτ (by kernel_rfl) ?_
        refine CH.endk ⟨[(2, .pt 64 0 0), (3, .pt 224 0 0)], [(0, some (.box [.k 0 (.sl (bs.map dB)), .d (.v (.int .i64 i24)), .d (.v (.int .i64 h25))])), (64, some (.box [.d (.v (.int .i64 0)), .d (.v (.string (⟨#[]⟩ : ByteArray))), .d (.v (.int .i64 0)), .nil, .d (.v (.int .i64 0)), .d (.v (.int .i64 0)), .d (.v (.string (⟨#[]⟩ : ByteArray))), .d (.v (.int .i64 0)), .d (.v (.int .i64 0)), .d (.v (.string (⟨#[]⟩ : ByteArray))), .d (.v (.int .i64 0)), .d (.v (.int .i64 0)), .nil, .d (.v (.int .i64 0)), .nil, .nil])), (224, some (.box [.d (.v (.int .i64 (1 + r1))), .d (.v (.string r7)), .d (.v (.int .i64 r13)), .ref 352, .d (.v (.int .i64 0)), .d (.v (.int .i64 0)), .d (.v (.string (⟨#[]⟩ : ByteArray))), .d (.v (.int .i64 0)), .d (.v (.int .i64 0)), .d (.v (.string (⟨#[]⟩ : ByteArray))), .d (.v (.int .i64 0)), .d (.v (.int .i64 (-1))), .nil, .d (.v (.int .i64 0)), .nil, .nil])), (352, some (.row 14 59 (([r21] : List S59).map d59) false true))], 400⟩ (by kernel_rfl) (by kernel_rfl) rfl ?_
        refine X.rs 2 hτ hmix (by kernel_rfl) ?_
        refine CH.idxR hτ (rows := (([r21] : List S59).map d59)) (n := 0) (b := 352) (by kernel_rfl) (by kernel_rfl) (by first | omega | (simp; done) | (simp; omega)) (by simp only [List.length_map, List.length_set]; first | omega | (simp; done) | (simp; omega)) (by kernel_rfl) ?_
        refine CH.go 1 hτ (by kernel_rfl) ?_
        obtain ⟨x27, hx27⟩ : ∃ x, ([r21] : List S59)[0]? = some x := ⟨_, List.getElem?_eq_getElem (by first | omega | (simp; done) | (simp; omega))⟩
        refine CH.row hτ (d59 x27) (by kernel_rfl) (by kernel_rfl) (by rw [List.getElem?_map, hx27]; rfl) (by kernel_rfl) ?_
        refine CH.go 2 hτ (by kernel_rfl) ?_
        refine CH.endk ⟨[(2, .pt 64 0 0), (3, .pt 224 0 0)], [(0, some (.box [.k 0 (.sl (bs.map dB)), .d (.v (.int .i64 i24)), .d (.v (.int .i64 h25))])), (64, some (.box [.d (.v (.int .i64 0)), .d (.v (.string (⟨#[]⟩ : ByteArray))), .d (.v (.int .i64 0)), .nil, .d (.v (.int .i64 0)), .d (.v (.int .i64 0)), .d (.v (.string (⟨#[]⟩ : ByteArray))), .d (.v (.int .i64 0)), .d (.v (.int .i64 0)), .d (.v (.string (⟨#[]⟩ : ByteArray))), .d (.v (.int .i64 0)), .d (.v (.int .i64 0)), .nil, .d (.v (.int .i64 0)), .nil, .nil])), (224, some (.box [.d (.v (.int .i64 (1 + r1))), .d (.v (.string r7)), .f (.v (.int .i64 x27.f1)), .ref 352, .d (.v (.int .i64 0)), .d (.v (.int .i64 0)), .d (.v (.string (⟨#[]⟩ : ByteArray))), .d (.v (.int .i64 0)), .d (.v (.int .i64 0)), .d (.v (.string (⟨#[]⟩ : ByteArray))), .d (.v (.int .i64 0)), .d (.v (.int .i64 (-1))), .nil, .d (.v (.int .i64 0)), .nil, .nil])), (352, some (.row 14 59 (([r21] : List S59).map d59) false true))], 512⟩ (by kernel_rfl) (by kernel_rfl) rfl ?_
        refine ⟨⟨(i24, h25, [], x27.f1, ([r21] : List S59), 0, 0, (⟨#[]⟩ : ByteArray), 0, 0, (⟨#[]⟩ : ByteArray), 0, (-1), [], 0, [], []), ⟨by first | omega | (dsimp only; omega), by exact ⟨by first | exact hL | exact ⟨by simp, all_one hq⟩ | exact ⟨by simp, all_nil⟩, by first | exact hLl | (simp; done), by first | exact hLd | exact all_one hqd | exact all_nil, by first | assumption | exact ⟨by simp, all_nil⟩, by first | exact hq.1 | exact ⟨by simp, all_nil⟩, by first | exact hq.2 | (simp; done), by first | exact hqe | (simp; done)⟩⟩⟩, (Wk.less (s1 := ⟨[(2, .pt 64 0 0), (3, .pt 224 0 0)], [(0, some (.box [.k 0 (.sl (bs.map dB)), .d (.v (.int .i64 i24)), .d (.v (.int .i64 h25))])), (64, some (.box [.d (.v (.int .i64 0)), .d (.v (.string (⟨#[]⟩ : ByteArray))), .d (.v (.int .i64 0)), .nil, .d (.v (.int .i64 0)), .d (.v (.int .i64 0)), .d (.v (.string (⟨#[]⟩ : ByteArray))), .d (.v (.int .i64 0)), .d (.v (.int .i64 0)), .d (.v (.string (⟨#[]⟩ : ByteArray))), .d (.v (.int .i64 0)), .d (.v (.int .i64 0)), .nil, .d (.v (.int .i64 0)), .nil, .nil])), (224, some (.box [.d (.v (.int .i64 (1 + r1))), .d (.v (.string r7)), .f (.v (.int .i64 x27.f1)), .f (.sl (([r21] : List S59).map d59)), .d (.v (.int .i64 0)), .d (.v (.int .i64 0)), .d (.v (.string (⟨#[]⟩ : ByteArray))), .d (.v (.int .i64 0)), .d (.v (.int .i64 0)), .d (.v (.string (⟨#[]⟩ : ByteArray))), .d (.v (.int .i64 0)), .d (.v (.int .i64 (-1))), .nil, .d (.v (.int .i64 0)), .nil, .nil])), (352, some (.row 14 59 (([r21] : List S59).map d59) true true))], 512⟩) (by kernel_rfl)).trans (Wk.mk' [(64, 64), (224, 224)] (by kernel_rfl) (by kernel_rfl) (by kernel_rfl))⟩
      · replace hb20 := beq_eq_false_iff_ne.1 (hb20)
        refine X.seq ?_
        refine X.rk ⟨[(0, .pt 0 0 0), (2, .pt 64 0 0), (3, .pt 224 0 0), (14, .e (.c (.d (.v (.int .i64 (1 + r1)))))), (37, .e (.c (.d (.v (.bool ((1 + r1) == 2))))))], [(0, some (.box [.k 0 (.sl (bs.map dB)), .d (.v (.int .i64 i16)), .d (.v (.int .i64 h17))])), (64, some (.box [.d (.v (.int .i64 0)), .d (.v (.string (⟨#[]⟩ : ByteArray))), .d (.v (.int .i64 0)), .nil, .d (.v (.int .i64 0)), .d (.v (.int .i64 0)), .d (.v (.string (⟨#[]⟩ : ByteArray))), .d (.v (.int .i64 0)), .d (.v (.int .i64 0)), .d (.v (.string (⟨#[]⟩ : ByteArray))), .d (.v (.int .i64 0)), .d (.v (.int .i64 0)), .nil, .d (.v (.int .i64 0)), .nil, .nil])), (224, some (.box [.d (.v (.int .i64 (1 + r1))), .d (.v (.string r7)), .d (.v (.int .i64 r13)), .nil, .d (.v (.int .i64 0)), .d (.v (.int .i64 0)), .d (.v (.string (⟨#[]⟩ : ByteArray))), .d (.v (.int .i64 0)), .d (.v (.int .i64 0)), .d (.v (.string (⟨#[]⟩ : ByteArray))), .d (.v (.int .i64 0)), .d (.v (.int .i64 (-1))), .nil, .d (.v (.int .i64 0)), .nil, .nil]))], 352⟩ hτ hmix (by kernel_rfl) (by kernel_rfl) rfl ?_
        refine X.if_ (b := ((1 + r1) == 2)) (by kernel_rfl) (fun hb28 => ?_) (fun hb28 => ?_)
        · replace hb28 := eq_of_beq (hb28)
          refine X.rs 1 hτ hmix (by kernel_rfl) ?_
          obtain ⟨r29, i32, h33, hr31, hi34, hf30⟩ := s_l1Below bs i16 h17 (by first | assumption | omega) (by omega) 3
          obtain ⟨_, _⟩ := hr31
          refine CH.call hf30 Try.func97 ⟨rfl, rfl⟩ [(0, 0)] (by kernel_rfl) (by kernel_rfl) (by kernel_rfl) (by kernel_rfl) ?_
          refine CH.go 2 hτ (by kernel_rfl) ?_
          obtain ⟨r35, i38, h39, hr37, hi40, hf36⟩ := s_l1Below bs i32 h33 (by first | assumption | omega) (by omega) 4
          obtain ⟨_, _⟩ := hr37
          refine CH.call hf36 Try.func97 ⟨rfl, rfl⟩ [(0, 0)] (by kernel_rfl) (by kernel_rfl) (by kernel_rfl) (by kernel_rfl) ?_
          refine CH.go 1 hτ (by kernel_rfl) ?_
          obtain ⟨r41, i44, h45, hr43, hi46, hf42⟩ := s_l1Name bs i38 h39 (by first | assumption | omega) (by omega)
          have hs := hr43
          refine CH.call hf42 Try.func151 ⟨rfl, rfl⟩ [(0, 0)] (by kernel_rfl) (by kernel_rfl) (by kernel_rfl) (by kernel_rfl) ?_
          refine CH.go 3 hτ (by kernel_rfl) ?_
          refine CH.endk ⟨[(2, .pt 64 0 0), (3, .pt 224 0 0)], [(0, some (.box [.k 0 (.sl (bs.map dB)), .d (.v (.int .i64 i44)), .d (.v (.int .i64 h45))])), (64, some (.box [.d (.v (.int .i64 0)), .d (.v (.string (⟨#[]⟩ : ByteArray))), .d (.v (.int .i64 0)), .nil, .d (.v (.int .i64 0)), .d (.v (.int .i64 0)), .d (.v (.string (⟨#[]⟩ : ByteArray))), .d (.v (.int .i64 0)), .d (.v (.int .i64 0)), .d (.v (.string (⟨#[]⟩ : ByteArray))), .d (.v (.int .i64 0)), .d (.v (.int .i64 0)), .nil, .d (.v (.int .i64 0)), .nil, .nil])), (224, some (.box [.d (.v (.int .i64 (1 + r1))), .d (.v (.string r7)), .d (.v (.int .i64 r13)), .nil, .d (.v (.int .i64 (wrap64 (1 + r29)))), .d (.v (.int .i64 r35)), .d (.v (.string r41)), .d (.v (.int .i64 0)), .d (.v (.int .i64 0)), .d (.v (.string (⟨#[]⟩ : ByteArray))), .d (.v (.int .i64 0)), .d (.v (.int .i64 (-1))), .nil, .d (.v (.int .i64 0)), .nil, .nil]))], 512⟩ (by kernel_rfl) (by kernel_rfl) (s2 := ⟨[(2, .pt 64 0 0), (3, .pt 224 0 0)], [(0, some (.box [.k 0 (.sl (bs.map dB)), .d (.v (.int .i64 i44)), .d (.v (.int .i64 h45))])), (64, some (.box [.d (.v (.int .i64 0)), .d (.v (.string (⟨#[]⟩ : ByteArray))), .d (.v (.int .i64 0)), .nil, .d (.v (.int .i64 0)), .d (.v (.int .i64 0)), .d (.v (.string (⟨#[]⟩ : ByteArray))), .d (.v (.int .i64 0)), .d (.v (.int .i64 0)), .d (.v (.string (⟨#[]⟩ : ByteArray))), .d (.v (.int .i64 0)), .d (.v (.int .i64 0)), .nil, .d (.v (.int .i64 0)), .nil, .nil])), (224, some (.box [.d (.v (.int .i64 (1 + r1))), .d (.v (.string r7)), .d (.v (.int .i64 r13)), .nil, .d (.v (.int .i64 (1 + r29))), .d (.v (.int .i64 r35)), .d (.v (.string r41)), .d (.v (.int .i64 0)), .d (.v (.int .i64 0)), .d (.v (.string (⟨#[]⟩ : ByteArray))), .d (.v (.int .i64 0)), .d (.v (.int .i64 (-1))), .nil, .d (.v (.int .i64 0)), .nil, .nil]))], 512⟩) (congrArg (fun z : Int => (⟨[(2, .pt 64 0 0), (3, .pt 224 0 0)], [(0, some (.box [.k 0 (.sl (bs.map dB)), .d (.v (.int .i64 i44)), .d (.v (.int .i64 h45))])), (64, some (.box [.d (.v (.int .i64 0)), .d (.v (.string (⟨#[]⟩ : ByteArray))), .d (.v (.int .i64 0)), .nil, .d (.v (.int .i64 0)), .d (.v (.int .i64 0)), .d (.v (.string (⟨#[]⟩ : ByteArray))), .d (.v (.int .i64 0)), .d (.v (.int .i64 0)), .d (.v (.string (⟨#[]⟩ : ByteArray))), .d (.v (.int .i64 0)), .d (.v (.int .i64 0)), .nil, .d (.v (.int .i64 0)), .nil, .nil])), (224, some (.box [.d (.v (.int .i64 (1 + r1))), .d (.v (.string r7)), .d (.v (.int .i64 r13)), .nil, .d (.v (.int .i64 z)), .d (.v (.int .i64 r35)), .d (.v (.string r41)), .d (.v (.int .i64 0)), .d (.v (.int .i64 0)), .d (.v (.string (⟨#[]⟩ : ByteArray))), .d (.v (.int .i64 0)), .d (.v (.int .i64 (-1))), .nil, .d (.v (.int .i64 0)), .nil, .nil]))], 512⟩ : St)) (show wrap64 (1 + r29) = (1 + r29) by rw [w64 (n := (1 + r29)) (by omega) (by omega)])) ?_
          refine ⟨⟨(i44, h45, [], r13, [], (1 + r29), r35, r41, 0, 0, (⟨#[]⟩ : ByteArray), 0, (-1), [], 0, [], []), ⟨by first | omega | (dsimp only; omega), by exact ⟨by first | exact hL | exact ⟨by simp, all_one hq⟩ | exact ⟨by simp, all_nil⟩, by first | exact hLl | (simp; done), by first | exact hLd | exact all_one hqd | exact all_nil, by first | assumption | exact ⟨by simp, all_nil⟩, by first | exact hq.1 | exact ⟨by simp, all_nil⟩, by first | exact hq.2 | (simp; done), by first | exact hqe | (simp; done)⟩⟩⟩, Wk.mk' [(64, 64), (224, 224)] (by kernel_rfl) (by kernel_rfl) (by kernel_rfl)⟩
        · replace hb28 := beq_eq_false_iff_ne.1 (hb28)
          refine X.seq ?_
          refine X.rk ⟨[(0, .pt 0 0 0), (2, .pt 64 0 0), (3, .pt 224 0 0), (48, .e (.c (.d (.v (.bool ((1 + r1) == 3))))))], [(0, some (.box [.k 0 (.sl (bs.map dB)), .d (.v (.int .i64 i16)), .d (.v (.int .i64 h17))])), (64, some (.box [.d (.v (.int .i64 0)), .d (.v (.string (⟨#[]⟩ : ByteArray))), .d (.v (.int .i64 0)), .nil, .d (.v (.int .i64 0)), .d (.v (.int .i64 0)), .d (.v (.string (⟨#[]⟩ : ByteArray))), .d (.v (.int .i64 0)), .d (.v (.int .i64 0)), .d (.v (.string (⟨#[]⟩ : ByteArray))), .d (.v (.int .i64 0)), .d (.v (.int .i64 0)), .nil, .d (.v (.int .i64 0)), .nil, .nil])), (224, some (.box [.d (.v (.int .i64 (1 + r1))), .d (.v (.string r7)), .d (.v (.int .i64 r13)), .nil, .d (.v (.int .i64 0)), .d (.v (.int .i64 0)), .d (.v (.string (⟨#[]⟩ : ByteArray))), .d (.v (.int .i64 0)), .d (.v (.int .i64 0)), .d (.v (.string (⟨#[]⟩ : ByteArray))), .d (.v (.int .i64 0)), .d (.v (.int .i64 (-1))), .nil, .d (.v (.int .i64 0)), .nil, .nil]))], 384⟩ hτ hmix (by kernel_rfl) (by kernel_rfl) rfl ?_
          refine X.if_ (b := ((1 + r1) == 3)) (by kernel_rfl) (fun hb47 => ?_) (fun hb47 => ?_)
          · replace hb47 := eq_of_beq (hb47)
            refine X.seq ?_
            refine X.rs 1 hτ hmix (by kernel_rfl) ?_
            obtain ⟨r48, i51, h52, hr50, hi53, hf49⟩ := s_l8Qc bs i16 h17 (by first | assumption | omega) (by omega)
            have hq := hr50
            refine CH.call hf49 Try.func102 ⟨rfl, rfl⟩ [(0, 0)] (by kernel_rfl) (by kernel_rfl) (by kernel_rfl) (by kernel_rfl) ?_
            refine CH.go 2 hτ (by kernel_rfl) ?_
            refine CH.endk ⟨[(0, .pt 0 0 0), (2, .pt 64 0 0), (3, .pt 224 0 0)], [(0, some (.box [.k 0 (.sl (bs.map dB)), .d (.v (.int .i64 i51)), .d (.v (.int .i64 h52))])), (64, some (.box [.d (.v (.int .i64 0)), .d (.v (.string (⟨#[]⟩ : ByteArray))), .d (.v (.int .i64 0)), .nil, .d (.v (.int .i64 0)), .d (.v (.int .i64 0)), .d (.v (.string (⟨#[]⟩ : ByteArray))), .d (.v (.int .i64 0)), .d (.v (.int .i64 0)), .d (.v (.string (⟨#[]⟩ : ByteArray))), .d (.v (.int .i64 0)), .d (.v (.int .i64 0)), .nil, .d (.v (.int .i64 0)), .nil, .nil])), (224, some (.box [.d (.v (.int .i64 (1 + r1))), .d (.v (.string r7)), .d (.v (.int .i64 r13)), .nil, .d (.v (.int .i64 0)), .d (.v (.int .i64 0)), .d (.v (.string (⟨#[]⟩ : ByteArray))), .d (.v (.int .i64 0)), .d (.v (.int .i64 0)), .d (.v (.string (⟨#[]⟩ : ByteArray))), .d (.v (.int .i64 r48.f0)), .d (.v (.int .i64 r48.f1)), .f (.sl (r48.f2.map dS)), .d (.v (.int .i64 0)), .nil, .nil]))], 448⟩ (by kernel_rfl) (by kernel_rfl) rfl ?_
            refine X.rs 1 hτ hmix (by kernel_rfl) ?_
            obtain ⟨r54, i57, h58, hr56, hi59, hf55⟩ := s_l1Below bs i51 h52 (by first | assumption | omega) (by omega) 3
            obtain ⟨_, _⟩ := hr56
            refine CH.call hf55 Try.func97 ⟨rfl, rfl⟩ [(0, 0)] (by kernel_rfl) (by kernel_rfl) (by kernel_rfl) (by kernel_rfl) ?_
            refine CH.go 5 hτ (by kernel_rfl) ?_
            obtain ⟨r60, i63, h64, hr62, hi65, hf61⟩ := s_l1Name bs i57 h58 (by first | assumption | omega) (by omega)
            have hs := hr62
            refine CH.call hf61 Try.func151 ⟨rfl, rfl⟩ [(0, 0)] (by kernel_rfl) (by kernel_rfl) (by kernel_rfl) (by kernel_rfl) ?_
            refine CH.go 3 hτ (by kernel_rfl) ?_
            refine CH.endk ⟨[(2, .pt 64 0 0), (3, .pt 224 0 0)], [(0, some (.box [.k 0 (.sl (bs.map dB)), .d (.v (.int .i64 i63)), .d (.v (.int .i64 h64))])), (64, some (.box [.d (.v (.int .i64 0)), .d (.v (.string (⟨#[]⟩ : ByteArray))), .d (.v (.int .i64 0)), .nil, .d (.v (.int .i64 0)), .d (.v (.int .i64 0)), .d (.v (.string (⟨#[]⟩ : ByteArray))), .d (.v (.int .i64 0)), .d (.v (.int .i64 0)), .d (.v (.string (⟨#[]⟩ : ByteArray))), .d (.v (.int .i64 0)), .d (.v (.int .i64 0)), .nil, .d (.v (.int .i64 0)), .nil, .nil])), (224, some (.box [.d (.v (.int .i64 (1 + r1))), .d (.v (.string r7)), .d (.v (.int .i64 r13)), .nil, .d (.v (.int .i64 0)), .d (.v (.int .i64 0)), .d (.v (.string (⟨#[]⟩ : ByteArray))), .d (.v (.int .i64 (wrap64 (2 + r54)))), .d (.v (.int .i64 r48.f0)), .d (.v (.string r60)), .d (.v (.int .i64 r48.f0)), .d (.v (.int .i64 r48.f1)), .f (.sl (r48.f2.map dS)), .d (.v (.int .i64 0)), .nil, .nil]))], 624⟩ (by kernel_rfl) (by kernel_rfl) (s2 := ⟨[(2, .pt 64 0 0), (3, .pt 224 0 0)], [(0, some (.box [.k 0 (.sl (bs.map dB)), .d (.v (.int .i64 i63)), .d (.v (.int .i64 h64))])), (64, some (.box [.d (.v (.int .i64 0)), .d (.v (.string (⟨#[]⟩ : ByteArray))), .d (.v (.int .i64 0)), .nil, .d (.v (.int .i64 0)), .d (.v (.int .i64 0)), .d (.v (.string (⟨#[]⟩ : ByteArray))), .d (.v (.int .i64 0)), .d (.v (.int .i64 0)), .d (.v (.string (⟨#[]⟩ : ByteArray))), .d (.v (.int .i64 0)), .d (.v (.int .i64 0)), .nil, .d (.v (.int .i64 0)), .nil, .nil])), (224, some (.box [.d (.v (.int .i64 (1 + r1))), .d (.v (.string r7)), .d (.v (.int .i64 r13)), .nil, .d (.v (.int .i64 0)), .d (.v (.int .i64 0)), .d (.v (.string (⟨#[]⟩ : ByteArray))), .d (.v (.int .i64 (2 + r54))), .d (.v (.int .i64 r48.f0)), .d (.v (.string r60)), .d (.v (.int .i64 r48.f0)), .d (.v (.int .i64 r48.f1)), .f (.sl (r48.f2.map dS)), .d (.v (.int .i64 0)), .nil, .nil]))], 624⟩) (congrArg (fun z : Int => (⟨[(2, .pt 64 0 0), (3, .pt 224 0 0)], [(0, some (.box [.k 0 (.sl (bs.map dB)), .d (.v (.int .i64 i63)), .d (.v (.int .i64 h64))])), (64, some (.box [.d (.v (.int .i64 0)), .d (.v (.string (⟨#[]⟩ : ByteArray))), .d (.v (.int .i64 0)), .nil, .d (.v (.int .i64 0)), .d (.v (.int .i64 0)), .d (.v (.string (⟨#[]⟩ : ByteArray))), .d (.v (.int .i64 0)), .d (.v (.int .i64 0)), .d (.v (.string (⟨#[]⟩ : ByteArray))), .d (.v (.int .i64 0)), .d (.v (.int .i64 0)), .nil, .d (.v (.int .i64 0)), .nil, .nil])), (224, some (.box [.d (.v (.int .i64 (1 + r1))), .d (.v (.string r7)), .d (.v (.int .i64 r13)), .nil, .d (.v (.int .i64 0)), .d (.v (.int .i64 0)), .d (.v (.string (⟨#[]⟩ : ByteArray))), .d (.v (.int .i64 z)), .d (.v (.int .i64 r48.f0)), .d (.v (.string r60)), .d (.v (.int .i64 r48.f0)), .d (.v (.int .i64 r48.f1)), .f (.sl (r48.f2.map dS)), .d (.v (.int .i64 0)), .nil, .nil]))], 624⟩ : St)) (show wrap64 (2 + r54) = (2 + r54) by rw [w64 (n := (2 + r54)) (by omega) (by omega)])) ?_
            refine ⟨⟨(i63, h64, [], r13, [], 0, 0, (⟨#[]⟩ : ByteArray), (2 + r54), r48.f0, r60, r48.f0, r48.f1, r48.f2, 0, [], []), ⟨by first | omega | (dsimp only; omega), by exact ⟨by first | exact hL | exact ⟨by simp, all_one hq⟩ | exact ⟨by simp, all_nil⟩, by first | exact hLl | (simp; done), by first | exact hLd | exact all_one hqd | exact all_nil, by first | assumption | exact ⟨by simp, all_nil⟩, by first | exact hq.1 | exact ⟨by simp, all_nil⟩, by first | exact hq.2 | (simp; done), by first | exact hqe | (simp; done)⟩⟩⟩, Wk.mk' [(64, 64), (224, 224)] (by kernel_rfl) (by kernel_rfl) (by kernel_rfl)⟩
          · replace hb47 := beq_eq_false_iff_ne.1 (hb47)
            refine X.seq ?_
            refine X.rs 1 hτ hmix (by kernel_rfl) ?_
            obtain ⟨r66, i69, h70, hr68, hi71, hf67⟩ := s_l10Draw bs i16 h17 (by first | assumption | omega) (by omega) 5 (by omega)
            obtain ⟨hL, hLl, hLd, hLt⟩ := hr68
            refine CH.call hf67 Try.func92 ⟨rfl, rfl⟩ [(0, 0)] (by kernel_rfl) (by kernel_rfl) (by kernel_rfl) (by kernel_rfl) ?_
            refine CH.go 2 hτ (by kernel_rfl) ?_
            refine CH.endk ⟨[(0, .pt 0 0 0), (2, .pt 64 0 0), (3, .pt 224 0 0)], [(0, some (.box [.k 0 (.sl (bs.map dB)), .d (.v (.int .i64 i69)), .d (.v (.int .i64 h70))])), (64, some (.box [.d (.v (.int .i64 0)), .d (.v (.string (⟨#[]⟩ : ByteArray))), .d (.v (.int .i64 0)), .nil, .d (.v (.int .i64 0)), .d (.v (.int .i64 0)), .d (.v (.string (⟨#[]⟩ : ByteArray))), .d (.v (.int .i64 0)), .d (.v (.int .i64 0)), .d (.v (.string (⟨#[]⟩ : ByteArray))), .d (.v (.int .i64 0)), .d (.v (.int .i64 0)), .nil, .d (.v (.int .i64 0)), .nil, .nil])), (224, some (.box [.d (.v (.int .i64 (1 + r1))), .d (.v (.string r7)), .d (.v (.int .i64 r13)), .ref 400, .d (.v (.int .i64 0)), .d (.v (.int .i64 0)), .d (.v (.string (⟨#[]⟩ : ByteArray))), .d (.v (.int .i64 0)), .d (.v (.int .i64 0)), .d (.v (.string (⟨#[]⟩ : ByteArray))), .d (.v (.int .i64 0)), .d (.v (.int .i64 (-1))), .nil, .d (.v (.int .i64 0)), .nil, .nil])), (400, some (.row 14 59 (r66.map d59) false true))], 448⟩ (by kernel_rfl) (by kernel_rfl) rfl ?_
            refine X.seq ?_
            refine X.rk ⟨[(0, .pt 0 0 0), (2, .pt 64 0 0), (3, .pt 224 0 0)], [(0, some (.box [.k 0 (.sl (bs.map dB)), .d (.v (.int .i64 i69)), .d (.v (.int .i64 h70))])), (64, some (.box [.d (.v (.int .i64 0)), .d (.v (.string (⟨#[]⟩ : ByteArray))), .d (.v (.int .i64 0)), .nil, .d (.v (.int .i64 0)), .d (.v (.int .i64 0)), .d (.v (.string (⟨#[]⟩ : ByteArray))), .d (.v (.int .i64 0)), .d (.v (.int .i64 0)), .d (.v (.string (⟨#[]⟩ : ByteArray))), .d (.v (.int .i64 0)), .d (.v (.int .i64 0)), .nil, .d (.v (.int .i64 0)), .nil, .nil])), (224, some (.box [.d (.v (.int .i64 (1 + r1))), .d (.v (.string r7)), .d (.v (.int .i64 0)), .ref 400, .d (.v (.int .i64 0)), .d (.v (.int .i64 0)), .d (.v (.string (⟨#[]⟩ : ByteArray))), .d (.v (.int .i64 0)), .d (.v (.int .i64 0)), .d (.v (.string (⟨#[]⟩ : ByteArray))), .d (.v (.int .i64 0)), .d (.v (.int .i64 (-1))), .nil, .d (.v (.int .i64 0)), .nil, .nil])), (400, some (.row 14 59 (r66.map d59) false true))], 480⟩ hτ hmix (by kernel_rfl) (by kernel_rfl) rfl ?_
            refine X.seq ?_
            refine X.rs 1 hτ hmix (by kernel_rfl) ?_
            obtain ⟨r72, i75, h76, hr74, hi77, hf73⟩ := s_l8Qc bs i69 h70 (by first | assumption | omega) (by omega)
            have hq := hr74
            refine CH.call hf73 Try.func102 ⟨rfl, rfl⟩ [(0, 0)] (by kernel_rfl) (by kernel_rfl) (by kernel_rfl) (by kernel_rfl) ?_
            refine CH.go 2 hτ (by kernel_rfl) ?_
            refine CH.endk ⟨[(0, .pt 0 0 0), (2, .pt 64 0 0), (3, .pt 224 0 0)], [(0, some (.box [.k 0 (.sl (bs.map dB)), .d (.v (.int .i64 i75)), .d (.v (.int .i64 h76))])), (64, some (.box [.d (.v (.int .i64 0)), .d (.v (.string (⟨#[]⟩ : ByteArray))), .d (.v (.int .i64 0)), .nil, .d (.v (.int .i64 0)), .d (.v (.int .i64 0)), .d (.v (.string (⟨#[]⟩ : ByteArray))), .d (.v (.int .i64 0)), .d (.v (.int .i64 0)), .d (.v (.string (⟨#[]⟩ : ByteArray))), .d (.v (.int .i64 0)), .d (.v (.int .i64 0)), .nil, .d (.v (.int .i64 0)), .nil, .nil])), (224, some (.box [.d (.v (.int .i64 (1 + r1))), .d (.v (.string r7)), .d (.v (.int .i64 0)), .ref 400, .d (.v (.int .i64 0)), .d (.v (.int .i64 0)), .d (.v (.string (⟨#[]⟩ : ByteArray))), .d (.v (.int .i64 0)), .d (.v (.int .i64 0)), .d (.v (.string (⟨#[]⟩ : ByteArray))), .d (.v (.int .i64 r72.f0)), .d (.v (.int .i64 r72.f1)), .f (.sl (r72.f2.map dS)), .d (.v (.int .i64 0)), .nil, .nil])), (400, some (.row 14 59 (r66.map d59) false true))], 544⟩ (by kernel_rfl) (by kernel_rfl) rfl ?_
            refine X.rs 1 hτ hmix (by kernel_rfl) ?_
            obtain ⟨r78, i81, h82, hr80, hi83, hf79⟩ := s_l8Tc bs i75 h76 (by first | assumption | omega) (by omega)
            obtain ⟨hq, hqe⟩ := hr80
            refine CH.call hf79 Try.func159 ⟨rfl, rfl⟩ [(0, 0)] (by kernel_rfl) (by kernel_rfl) (by kernel_rfl) (by kernel_rfl) ?_
            refine CH.go 2 hτ (by kernel_rfl) ?_
            refine CH.endk ⟨[(2, .pt 64 0 0), (3, .pt 224 0 0)], [(0, some (.box [.k 0 (.sl (bs.map dB)), .d (.v (.int .i64 i81)), .d (.v (.int .i64 h82))])), (64, some (.box [.d (.v (.int .i64 0)), .d (.v (.string (⟨#[]⟩ : ByteArray))), .d (.v (.int .i64 0)), .nil, .d (.v (.int .i64 0)), .d (.v (.int .i64 0)), .d (.v (.string (⟨#[]⟩ : ByteArray))), .d (.v (.int .i64 0)), .d (.v (.int .i64 0)), .d (.v (.string (⟨#[]⟩ : ByteArray))), .d (.v (.int .i64 0)), .d (.v (.int .i64 0)), .nil, .d (.v (.int .i64 0)), .nil, .nil])), (224, some (.box [.d (.v (.int .i64 (1 + r1))), .d (.v (.string r7)), .d (.v (.int .i64 0)), .ref 400, .d (.v (.int .i64 0)), .d (.v (.int .i64 0)), .d (.v (.string (⟨#[]⟩ : ByteArray))), .d (.v (.int .i64 0)), .d (.v (.int .i64 0)), .d (.v (.string (⟨#[]⟩ : ByteArray))), .d (.v (.int .i64 r72.f0)), .d (.v (.int .i64 r72.f1)), .f (.sl (r72.f2.map dS)), .d (.v (.int .i64 r78.f0)), .f (.sl (r78.f1.map dS)), .f (.sl (r78.f2.map dI))])), (400, some (.row 14 59 (r66.map d59) false true))], 608⟩ (by kernel_rfl) (by kernel_rfl) rfl ?_
            refine ⟨⟨(i81, h82, [], 0, r66, 0, 0, (⟨#[]⟩ : ByteArray), 0, 0, (⟨#[]⟩ : ByteArray), r72.f0, r72.f1, r72.f2, r78.f0, r78.f1, r78.f2), ⟨by first | omega | (dsimp only; omega), by exact ⟨by first | exact hL | exact ⟨by simp, all_one hq⟩ | exact ⟨by simp, all_nil⟩, by first | exact hLl | (simp; done), by first | exact hLd | exact all_one hqd | exact all_nil, by first | assumption | exact ⟨by simp, all_nil⟩, by first | exact hq.1 | exact ⟨by simp, all_nil⟩, by first | exact hq.2 | (simp; done), by first | exact hqe | (simp; done)⟩⟩⟩, (Wk.less (s1 := ⟨[(2, .pt 64 0 0), (3, .pt 224 0 0)], [(0, some (.box [.k 0 (.sl (bs.map dB)), .d (.v (.int .i64 i81)), .d (.v (.int .i64 h82))])), (64, some (.box [.d (.v (.int .i64 0)), .d (.v (.string (⟨#[]⟩ : ByteArray))), .d (.v (.int .i64 0)), .nil, .d (.v (.int .i64 0)), .d (.v (.int .i64 0)), .d (.v (.string (⟨#[]⟩ : ByteArray))), .d (.v (.int .i64 0)), .d (.v (.int .i64 0)), .d (.v (.string (⟨#[]⟩ : ByteArray))), .d (.v (.int .i64 0)), .d (.v (.int .i64 0)), .nil, .d (.v (.int .i64 0)), .nil, .nil])), (224, some (.box [.d (.v (.int .i64 (1 + r1))), .d (.v (.string r7)), .d (.v (.int .i64 0)), .f (.sl (r66.map d59)), .d (.v (.int .i64 0)), .d (.v (.int .i64 0)), .d (.v (.string (⟨#[]⟩ : ByteArray))), .d (.v (.int .i64 0)), .d (.v (.int .i64 0)), .d (.v (.string (⟨#[]⟩ : ByteArray))), .d (.v (.int .i64 r72.f0)), .d (.v (.int .i64 r72.f1)), .f (.sl (r72.f2.map dS)), .d (.v (.int .i64 r78.f0)), .f (.sl (r78.f1.map dS)), .f (.sl (r78.f2.map dI))])), (400, some (.row 14 59 (r66.map d59) true true))], 608⟩) (by kernel_rfl)).trans (Wk.mk' [(64, 64), (224, 224)] (by kernel_rfl) (by kernel_rfl) (by kernel_rfl))⟩
    · obtain ⟨⟨c0_1, c0_2, Lc64_3, c224_2, Lc224_3, c224_4, c224_5, c224_6, c224_7, c224_8, c224_9, c224_10, c224_11, Lc224_12, c224_13, Lc224_14, Lc224_15⟩, hg19⟩ := g
      have hg19 : (0 ≤ c0_1 ∧ c0_1 ≤ bs.length) ∧ (SmL Lc224_3 ∧ Lc224_3.length ≤ 90000 ∧ (∀ x, x ∈ Lc224_3 → Dr59 x) ∧ SmN Lc224_12 ∧ SmN Lc224_14 ∧ Lc224_15.length ≤ 2000000 ∧ Lc224_14.length ≤ Lc224_15.length) := hg19
      obtain ⟨⟨_, _⟩, ⟨hJ1, hJ2, hJ3, hJ4, hJ5, hJ6, hJ7⟩⟩ := hg19
      refine X.seq ?_
      refine X.rk ⟨[(2, .pt 64 0 0)], [(0, some (.box [.k 0 (.sl (bs.map dB)), .d (.v (.int .i64 c0_1)), .d (.v (.int .i64 c0_2))])), (64, some (.box [.d (.v (.int .i64 (1 + r1))), .d (.v (.string r7)), .d (.v (.int .i64 c224_2)), .f (.sl (Lc224_3.map d59)), .d (.v (.int .i64 c224_4)), .d (.v (.int .i64 c224_5)), .d (.v (.string c224_6)), .d (.v (.int .i64 c224_7)), .d (.v (.int .i64 c224_8)), .d (.v (.string c224_9)), .d (.v (.int .i64 c224_10)), .d (.v (.int .i64 c224_11)), .f (.sl (Lc224_12.map dS)), .d (.v (.int .i64 c224_13)), .f (.sl (Lc224_14.map dS)), .f (.sl (Lc224_15.map dI))]))], 544⟩ hτ hmix (by kernel_rfl) (by kernel_rfl) rfl ?_
      refine X.ret ?_
      exact ⟨trivial, _, _, ⟨(⟨(1 + r1), r7, c224_2, Lc224_3, (⟨c224_4, c224_5, c224_6⟩ : S76), (⟨c224_7, c224_8, c224_9⟩ : S78), (⟨c224_10, c224_11, Lc224_12⟩ : S31), (⟨c224_13, Lc224_14, Lc224_15⟩ : S55)⟩ : S80), c0_1, c0_2, ⟨⟨hJ1, hJ2, hJ4, hJ5, hJ6⟩, hJ3, hJ7⟩, (by omega), rfl, rfl⟩, .inl (Ret.mk' [] (by kernel_rfl) (by kernel_rfl) (by kernel_rfl))⟩
  obtain ⟨_, _, ⟨r0, i1, h1, q1, q2, rfl, rfl⟩, hf⟩ := key
  exact ⟨r0, i1, h1, q1, q2, hf⟩

theorem s_DrawSigned (code : List Int) (hl : code.length ≤ 4611686018427387904) : ∃ r0 : List S87, ∃ r1 : List ByteArray, ∃ r2 : S80, (Sm80 r2 ∧ Dr80 r2 ∧ r0.length ≤ 400000000000 ∧ r1.length ≤ 5) ∧ Fn Try.prog 47 [.e (.c (.d (.sl (code.map dB))))] (lookH []) (.tup [.c (.f (.sl (r0.map d87))), .c (.f (.sl (r1.map dS))), .agg [.d (.v (.int .i64 r2.f0)), .d (.v (.string r2.f1)), .d (.v (.int .i64 r2.f2)), .f (.sl (r2.f3.map d59)), .d (.v (.int .i64 r2.f4.f0)), .d (.v (.int .i64 r2.f4.f1)), .d (.v (.string r2.f4.f2)), .d (.v (.int .i64 r2.f5.f0)), .d (.v (.int .i64 r2.f5.f1)), .d (.v (.string r2.f5.f2)), .d (.v (.int .i64 r2.f6.f0)), .d (.v (.int .i64 r2.f6.f1)), .f (.sl (r2.f6.f2.map dS)), .d (.v (.int .i64 r2.f7.f0)), .f (.sl (r2.f7.f1.map dS)), .f (.sl (r2.f7.f2.map dI))]]) (lookH []) := by
  have key : ∃ x' h', ((fun x' h' => ∃ r0 : List S87, ∃ r1 : List ByteArray, ∃ r2 : S80, (Sm80 r2 ∧ Dr80 r2 ∧ r0.length ≤ 400000000000 ∧ r1.length ≤ 5) ∧ x' = .tup [.c (.f (.sl (r0.map d87))), .c (.f (.sl (r1.map dS))), .agg [.d (.v (.int .i64 r2.f0)), .d (.v (.string r2.f1)), .d (.v (.int .i64 r2.f2)), .f (.sl (r2.f3.map d59)), .d (.v (.int .i64 r2.f4.f0)), .d (.v (.int .i64 r2.f4.f1)), .d (.v (.string r2.f4.f2)), .d (.v (.int .i64 r2.f5.f0)), .d (.v (.int .i64 r2.f5.f1)), .d (.v (.string r2.f5.f2)), .d (.v (.int .i64 r2.f6.f0)), .d (.v (.int .i64 r2.f6.f1)), .f (.sl (r2.f6.f2.map dS)), .d (.v (.int .i64 r2.f7.f0)), .f (.sl (r2.f7.f1.map dS)), .f (.sl (r2.f7.f2.map dI))]] ∧ h' = [])) x' h' ∧ Fn Try.prog 47 [.e (.c (.d (.sl (code.map dB))))] (lookH []) x' (lookH h') := by
    refine Fn.bodyX (N := 37) hτ Try.func47 rfl rfl rfl rfl ?_
    refine X.seq ?_
    refine X.rk ⟨[(0, .e (.c (.d (.sl (code.map dB))))), (4, .pt 96 0 0)], [(96, some (.box [.d (.v (.int .i64 0)), .d (.v (.string (⟨#[]⟩ : ByteArray))), .d (.v (.int .i64 0)), .nil, .d (.v (.int .i64 0)), .d (.v (.int .i64 0)), .d (.v (.string (⟨#[]⟩ : ByteArray))), .d (.v (.int .i64 0)), .d (.v (.int .i64 0)), .d (.v (.string (⟨#[]⟩ : ByteArray))), .d (.v (.int .i64 0)), .d (.v (.int .i64 0)), .nil, .d (.v (.int .i64 0)), .nil, .nil]))], 112⟩ hτ hmix (by kernel_rfl) (by kernel_rfl) rfl ?_
    refine X.seq ?_
    refine X.rs 1 hτ hmix (by kernel_rfl) ?_
    obtain ⟨i1, h2, hq4, hf3⟩ := s_l1New code (by first | assumption | omega)
    refine CH.callK hf3 Try.func91 ⟨rfl, rfl⟩ (by kernel_rfl) (by kernel_rfl) (by kernel_rfl) (by kernel_rfl) ?_
    refine CH.go 1 hτ (by kernel_rfl) ?_
    refine CH.endk ⟨[(4, .pt 96 0 0), (5, .pt 128 0 0)], [(96, some (.box [.d (.v (.int .i64 0)), .d (.v (.string (⟨#[]⟩ : ByteArray))), .d (.v (.int .i64 0)), .nil, .d (.v (.int .i64 0)), .d (.v (.int .i64 0)), .d (.v (.string (⟨#[]⟩ : ByteArray))), .d (.v (.int .i64 0)), .d (.v (.int .i64 0)), .d (.v (.string (⟨#[]⟩ : ByteArray))), .d (.v (.int .i64 0)), .d (.v (.int .i64 0)), .nil, .d (.v (.int .i64 0)), .nil, .nil])), (128, some (.box [.d (.sl (code.map dB)), .d (.v (.int .i64 i1)), .d (.v (.int .i64 h2))]))], 160⟩ (by kernel_rfl) (by kernel_rfl) rfl ?_
    refine X.seq ?_
    refine X.rs 1 hτ hmix (by kernel_rfl) ?_
    obtain ⟨r5, i8, h9, hr7, hi10, hf6⟩ := s_l13Draw code i1 h2 (by first | assumption | omega) (by omega)
    obtain ⟨hm, hmd⟩ := hr7
    refine CH.call hf6 Try.func103 ⟨rfl, rfl⟩ [(128, 0)] (by kernel_rfl) (by kernel_rfl) (by kernel_rfl) (by kernel_rfl) ?_
    refine CH.go 2 hτ (by kernel_rfl) ?_
    refine CH.endk ⟨[(4, .pt 96 0 0), (5, .pt 128 0 0), (6, .pt 192 0 0)], [(96, some (.box [.d (.v (.int .i64 0)), .d (.v (.string (⟨#[]⟩ : ByteArray))), .d (.v (.int .i64 0)), .nil, .d (.v (.int .i64 0)), .d (.v (.int .i64 0)), .d (.v (.string (⟨#[]⟩ : ByteArray))), .d (.v (.int .i64 0)), .d (.v (.int .i64 0)), .d (.v (.string (⟨#[]⟩ : ByteArray))), .d (.v (.int .i64 0)), .d (.v (.int .i64 0)), .nil, .d (.v (.int .i64 0)), .nil, .nil])), (128, some (.box [.d (.sl (code.map dB)), .d (.v (.int .i64 i8)), .d (.v (.int .i64 h9))])), (192, some (.box [.d (.v (.int .i64 r5.f0)), .d (.v (.string r5.f1)), .d (.v (.int .i64 r5.f2)), .f (.sl (r5.f3.map d59)), .d (.v (.int .i64 r5.f4.f0)), .d (.v (.int .i64 r5.f4.f1)), .d (.v (.string r5.f4.f2)), .d (.v (.int .i64 r5.f5.f0)), .d (.v (.int .i64 r5.f5.f1)), .d (.v (.string r5.f5.f2)), .d (.v (.int .i64 r5.f6.f0)), .d (.v (.int .i64 r5.f6.f1)), .f (.sl (r5.f6.f2.map dS)), .d (.v (.int .i64 r5.f7.f0)), .f (.sl (r5.f7.f1.map dS)), .f (.sl (r5.f7.f2.map dI))]))], 224⟩ (by kernel_rfl) (by kernel_rfl) rfl ?_
    refine X.seq ?_
    refine X.rs 1 hτ hmix (by kernel_rfl) ?_
    obtain ⟨r11, hr13, hf12⟩ := s_SigsOf r5 (by assumption) (by assumption)
    replace hr13 := hr13.symm; subst hr13
    have hsl := sigs_len r5 ‹_›
    refine CH.call hf12 Try.func51 ⟨rfl, rfl⟩ [] (by kernel_rfl) (by kernel_rfl) (by kernel_rfl) (by kernel_rfl) ?_
    refine CH.go 1 hτ (by kernel_rfl) ?_
    refine CH.endk ⟨[(4, .pt 96 0 0), (5, .pt 128 0 0), (6, .pt 192 0 0), (7, .e (.c (.f (.sl ((sigsOf r5).map d87)))))], [(96, some (.box [.d (.v (.int .i64 0)), .d (.v (.string (⟨#[]⟩ : ByteArray))), .d (.v (.int .i64 0)), .nil, .d (.v (.int .i64 0)), .d (.v (.int .i64 0)), .d (.v (.string (⟨#[]⟩ : ByteArray))), .d (.v (.int .i64 0)), .d (.v (.int .i64 0)), .d (.v (.string (⟨#[]⟩ : ByteArray))), .d (.v (.int .i64 0)), .d (.v (.int .i64 0)), .nil, .d (.v (.int .i64 0)), .nil, .nil])), (128, some (.box [.d (.sl (code.map dB)), .d (.v (.int .i64 i8)), .d (.v (.int .i64 h9))])), (192, some (.box [.d (.v (.int .i64 r5.f0)), .d (.v (.string r5.f1)), .d (.v (.int .i64 r5.f2)), .f (.sl (r5.f3.map d59)), .d (.v (.int .i64 r5.f4.f0)), .d (.v (.int .i64 r5.f4.f1)), .d (.v (.string r5.f4.f2)), .d (.v (.int .i64 r5.f5.f0)), .d (.v (.int .i64 r5.f5.f1)), .d (.v (.string r5.f5.f2)), .d (.v (.int .i64 r5.f6.f0)), .d (.v (.int .i64 r5.f6.f1)), .f (.sl (r5.f6.f2.map dS)), .d (.v (.int .i64 r5.f7.f0)), .f (.sl (r5.f7.f1.map dS)), .f (.sl (r5.f7.f2.map dI))]))], 272⟩ (by kernel_rfl) (by kernel_rfl) rfl ?_
    -- join: c128_1 : Int, c128_2 : Int, v7 : List S87
    refine X.seqJ (σ := { g : Int × Int × (List S87) // (fun (c128_1 : Int) (c128_2 : Int) (v7 : List S87) => (0 ≤ c128_1 ∧ c128_1 ≤ code.length) ∧ (v7.length ≤ 400000000000)) g.1 g.2.1 g.2.2 }) (fun g => (fun (c128_1 : Int) (c128_2 : Int) (v7 : List S87) => ⟨[(4, .pt 96 0 0), (5, .pt 128 0 0), (6, .pt 192 0 0), (7, .e (.c (.f (.sl (v7.map d87)))))], [(96, some (.box [.d (.v (.int .i64 0)), .d (.v (.string (⟨#[]⟩ : ByteArray))), .d (.v (.int .i64 0)), .nil, .d (.v (.int .i64 0)), .d (.v (.int .i64 0)), .d (.v (.string (⟨#[]⟩ : ByteArray))), .d (.v (.int .i64 0)), .d (.v (.int .i64 0)), .d (.v (.string (⟨#[]⟩ : ByteArray))), .d (.v (.int .i64 0)), .d (.v (.int .i64 0)), .nil, .d (.v (.int .i64 0)), .nil, .nil])), (128, some (.box [.d (.sl (code.map dB)), .d (.v (.int .i64 c128_1)), .d (.v (.int .i64 c128_2))])), (192, some (.box [.d (.v (.int .i64 r5.f0)), .d (.v (.string r5.f1)), .d (.v (.int .i64 r5.f2)), .f (.sl (r5.f3.map d59)), .d (.v (.int .i64 r5.f4.f0)), .d (.v (.int .i64 r5.f4.f1)), .d (.v (.string r5.f4.f2)), .d (.v (.int .i64 r5.f5.f0)), .d (.v (.int .i64 r5.f5.f1)), .d (.v (.string r5.f5.f2)), .d (.v (.int .i64 r5.f6.f0)), .d (.v (.int .i64 r5.f6.f1)), .f (.sl (r5.f6.f2.map dS)), .d (.v (.int .i64 r5.f7.f0)), .f (.sl (r5.f7.f1.map dS)), .f (.sl (r5.f7.f2.map dI))]))], 432⟩) g.1.1 g.1.2.1 g.1.2.2) ?_ (fun g => ?_)
    · refine X.seq ?_
      have el16 : ((sigsOf r5).map d87).length = (sigsOf r5).length := List.length_map ..
      refine X.rs 4 hτ hmix (by kernel_rfl) ?_
      rcases Bool.eq_false_or_eq_true (decide (((((sigsOf r5).map d87).length : Int) : Int) > 0)) with hb17 | hb17
      · refine CH.alt 17 (sV (.bool (decide (((((sigsOf r5).map d87).length : Int) : Int) > 0)))) (sV (.bool true)) (by kernel_rfl) (by rw [hb17]) ?_
        refine CH.alt 18 (sV (.bool (decide (((((sigsOf r5).map d87).length : Int) : Int) > 0)))) (sV (.bool true)) (by kernel_rfl) (by rw [hb17]) ?_
        replace hb17 := of_decide_eq_true (hb17)
        refine CH.go 1 hτ (by kernel_rfl) ?_
        obtain ⟨r18, i21, h22, hr20, hi23, hf19⟩ := s_l1Once code i8 h9 (by first | assumption | omega) (by omega) 3
        refine CH.call hf19 Try.func96 ⟨rfl, rfl⟩ [(128, 0)] (by kernel_rfl) (by kernel_rfl) (by kernel_rfl) (by kernel_rfl) ?_
        refine CH.go 1 hτ (by kernel_rfl) ?_
        refine CH.endk ⟨[(4, .pt 96 0 0), (5, .pt 128 0 0), (6, .pt 192 0 0), (7, .e (.c (.f (.sl ((sigsOf r5).map d87))))), (21, .e (.c (.d (.v (.bool r18)))))], [(96, some (.box [.d (.v (.int .i64 0)), .d (.v (.string (⟨#[]⟩ : ByteArray))), .d (.v (.int .i64 0)), .nil, .d (.v (.int .i64 0)), .d (.v (.int .i64 0)), .d (.v (.string (⟨#[]⟩ : ByteArray))), .d (.v (.int .i64 0)), .d (.v (.int .i64 0)), .d (.v (.string (⟨#[]⟩ : ByteArray))), .d (.v (.int .i64 0)), .d (.v (.int .i64 0)), .nil, .d (.v (.int .i64 0)), .nil, .nil])), (128, some (.box [.d (.sl (code.map dB)), .d (.v (.int .i64 i21)), .d (.v (.int .i64 h22))])), (192, some (.box [.d (.v (.int .i64 r5.f0)), .d (.v (.string r5.f1)), .d (.v (.int .i64 r5.f2)), .f (.sl (r5.f3.map d59)), .d (.v (.int .i64 r5.f4.f0)), .d (.v (.int .i64 r5.f4.f1)), .d (.v (.string r5.f4.f2)), .d (.v (.int .i64 r5.f5.f0)), .d (.v (.int .i64 r5.f5.f1)), .d (.v (.string r5.f5.f2)), .d (.v (.int .i64 r5.f6.f0)), .d (.v (.int .i64 r5.f6.f1)), .f (.sl (r5.f6.f2.map dS)), .d (.v (.int .i64 r5.f7.f0)), .f (.sl (r5.f7.f1.map dS)), .f (.sl (r5.f7.f2.map dI))]))], 384⟩ (by kernel_rfl) (by kernel_rfl) rfl ?_
        refine X.if_ (b := r18) (by kernel_rfl) (fun hb24 => ?_) (fun hb24 => ?_)
        · refine X.rs 1 hτ hmix (by kernel_rfl) ?_
          refine CH.cut hτ (cc := .f (.sl ((sigsOf r5).map d87))) (rows := ((sigsOf r5).map d87)) (sz := 5) (l := 1) (h := (((sigsOf r5).map d87).length : Int)) (by kernel_rfl) (by kernel_rfl) (by first | omega | (simp; done) | (simp; omega)) (by first | omega | (simp; done) | (simp; omega)) (by first | omega | (simp only [List.length_map]; omega)) (flat_ok (f := d87) (fun x => rfl)) ?_
          refine CH.alt 23 (.e (.c (.f (.sl ((((sigsOf r5).map d87).drop (Int.toNat 1)).take (Int.toNat (((sigsOf r5).map d87).length : Int) - Int.toNat 1)))))) (.e (.c (.f (.sl ((((sigsOf r5).drop (Int.toNat 1)).take (Int.toNat (((sigsOf r5).map d87).length : Int) - Int.toNat 1)).map d87))))) (by kernel_rfl) (by rw [List.map_take, List.map_drop]) ?_
          refine CH.go 1 hτ (by kernel_rfl) ?_
          refine CH.endk ⟨[(4, .pt 96 0 0), (5, .pt 128 0 0), (6, .pt 192 0 0), (7, .e (.c (.f (.sl ((((sigsOf r5).drop (Int.toNat 1)).take (Int.toNat (((sigsOf r5).map d87).length : Int) - Int.toNat 1)).map d87)))))], [(96, some (.box [.d (.v (.int .i64 0)), .d (.v (.string (⟨#[]⟩ : ByteArray))), .d (.v (.int .i64 0)), .nil, .d (.v (.int .i64 0)), .d (.v (.int .i64 0)), .d (.v (.string (⟨#[]⟩ : ByteArray))), .d (.v (.int .i64 0)), .d (.v (.int .i64 0)), .d (.v (.string (⟨#[]⟩ : ByteArray))), .d (.v (.int .i64 0)), .d (.v (.int .i64 0)), .nil, .d (.v (.int .i64 0)), .nil, .nil])), (128, some (.box [.d (.sl (code.map dB)), .d (.v (.int .i64 i21)), .d (.v (.int .i64 h22))])), (192, some (.box [.d (.v (.int .i64 r5.f0)), .d (.v (.string r5.f1)), .d (.v (.int .i64 r5.f2)), .f (.sl (r5.f3.map d59)), .d (.v (.int .i64 r5.f4.f0)), .d (.v (.int .i64 r5.f4.f1)), .d (.v (.string r5.f4.f2)), .d (.v (.int .i64 r5.f5.f0)), .d (.v (.int .i64 r5.f5.f1)), .d (.v (.string r5.f5.f2)), .d (.v (.int .i64 r5.f6.f0)), .d (.v (.int .i64 r5.f6.f1)), .f (.sl (r5.f6.f2.map dS)), .d (.v (.int .i64 r5.f7.f0)), .f (.sl (r5.f7.f1.map dS)), .f (.sl (r5.f7.f2.map dI))]))], 432⟩ (by kernel_rfl) (by kernel_rfl) rfl ?_
          refine ⟨⟨(i21, h22, (((sigsOf r5).drop (Int.toNat 1)).take (Int.toNat (((sigsOf r5).map d87).length : Int) - Int.toNat 1))), ⟨by first | omega | (dsimp only; omega), (by first | exact hsl | (simp only [List.length_take, List.length_drop]; omega))⟩⟩, Wk.mk' [(96, 96), (128, 128), (192, 192)] (by kernel_rfl) (by kernel_rfl) (by kernel_rfl)⟩
        · refine X.skip ?_
          refine ⟨⟨(i21, h22, (sigsOf r5)), ⟨by first | omega | (dsimp only; omega), (by first | exact hsl | (simp only [List.length_take, List.length_drop]; omega))⟩⟩, Wk.mk' [(96, 96), (128, 128), (192, 192)] (by kernel_rfl) (by kernel_rfl) (by kernel_rfl)⟩
      · refine CH.alt 17 (sV (.bool (decide (((((sigsOf r5).map d87).length : Int) : Int) > 0)))) (sV (.bool false)) (by kernel_rfl) (by rw [hb17]) ?_
        refine CH.alt 18 (sV (.bool (decide (((((sigsOf r5).map d87).length : Int) : Int) > 0)))) (sV (.bool false)) (by kernel_rfl) (by rw [hb17]) ?_
        replace hb17 := of_decide_eq_false (hb17)
        refine CH.go 3 hτ (by kernel_rfl) ?_
        refine CH.endk ⟨[(4, .pt 96 0 0), (5, .pt 128 0 0), (6, .pt 192 0 0), (7, .e (.c (.f (.sl ((sigsOf r5).map d87))))), (21, .e (.c (.d (.v (.bool false)))))], [(96, some (.box [.d (.v (.int .i64 0)), .d (.v (.string (⟨#[]⟩ : ByteArray))), .d (.v (.int .i64 0)), .nil, .d (.v (.int .i64 0)), .d (.v (.int .i64 0)), .d (.v (.string (⟨#[]⟩ : ByteArray))), .d (.v (.int .i64 0)), .d (.v (.int .i64 0)), .d (.v (.string (⟨#[]⟩ : ByteArray))), .d (.v (.int .i64 0)), .d (.v (.int .i64 0)), .nil, .d (.v (.int .i64 0)), .nil, .nil])), (128, some (.box [.d (.sl (code.map dB)), .d (.v (.int .i64 i8)), .d (.v (.int .i64 h9))])), (192, some (.box [.d (.v (.int .i64 r5.f0)), .d (.v (.string r5.f1)), .d (.v (.int .i64 r5.f2)), .f (.sl (r5.f3.map d59)), .d (.v (.int .i64 r5.f4.f0)), .d (.v (.int .i64 r5.f4.f1)), .d (.v (.string r5.f4.f2)), .d (.v (.int .i64 r5.f5.f0)), .d (.v (.int .i64 r5.f5.f1)), .d (.v (.string r5.f5.f2)), .d (.v (.int .i64 r5.f6.f0)), .d (.v (.int .i64 r5.f6.f1)), .f (.sl (r5.f6.f2.map dS)), .d (.v (.int .i64 r5.f7.f0)), .f (.sl (r5.f7.f1.map dS)), .f (.sl (r5.f7.f2.map dI))]))], 384⟩ (by kernel_rfl) (by kernel_rfl) rfl ?_
        refine X.ifF (by kernel_rfl) ?_
        refine X.skip ?_
        refine ⟨⟨(i8, h9, (sigsOf r5)), ⟨by first | omega | (dsimp only; omega), (by first | exact hsl | (simp only [List.length_take, List.length_drop]; omega))⟩⟩, Wk.mk' [(96, 96), (128, 128), (192, 192)] (by kernel_rfl) (by kernel_rfl) (by kernel_rfl)⟩
    · obtain ⟨⟨c128_1, c128_2, v7⟩, hg15⟩ := g
      have hg15 : (0 ≤ c128_1 ∧ c128_1 ≤ code.length) ∧ (v7.length ≤ 400000000000) := hg15
      obtain ⟨⟨_, _⟩, hJ1⟩ := hg15
      refine X.seq ?_
      refine X.rk ⟨[(4, .pt 96 0 0), (5, .pt 128 0 0), (6, .pt 192 0 0), (7, .e (.c (.f (.sl (v7.map d87))))), (8, .e (.c (.ref 432)))], [(96, some (.box [.d (.v (.int .i64 0)), .d (.v (.string (⟨#[]⟩ : ByteArray))), .d (.v (.int .i64 0)), .nil, .d (.v (.int .i64 0)), .d (.v (.int .i64 0)), .d (.v (.string (⟨#[]⟩ : ByteArray))), .d (.v (.int .i64 0)), .d (.v (.int .i64 0)), .d (.v (.string (⟨#[]⟩ : ByteArray))), .d (.v (.int .i64 0)), .d (.v (.int .i64 0)), .nil, .d (.v (.int .i64 0)), .nil, .nil])), (128, some (.box [.d (.sl (code.map dB)), .d (.v (.int .i64 c128_1)), .d (.v (.int .i64 c128_2))])), (192, some (.box [.d (.v (.int .i64 r5.f0)), .d (.v (.string r5.f1)), .d (.v (.int .i64 r5.f2)), .f (.sl (r5.f3.map d59)), .d (.v (.int .i64 r5.f4.f0)), .d (.v (.int .i64 r5.f4.f1)), .d (.v (.string r5.f4.f2)), .d (.v (.int .i64 r5.f5.f0)), .d (.v (.int .i64 r5.f5.f1)), .d (.v (.string r5.f5.f2)), .d (.v (.int .i64 r5.f6.f0)), .d (.v (.int .i64 r5.f6.f1)), .f (.sl (r5.f6.f2.map dS)), .d (.v (.int .i64 r5.f7.f0)), .f (.sl (r5.f7.f1.map dS)), .f (.sl (r5.f7.f2.map dI))])), (432, some (.row 1 9 [] false true))], 464⟩ hτ hmix (by kernel_rfl) (by kernel_rfl) rfl ?_
      -- join: c128_1 : Int, c128_2 : Int, Lv8 : List ByteArray
      refine X.seqJ (σ := { g : Int × Int × (List ByteArray) // (fun (c128_1 : Int) (c128_2 : Int) (Lv8 : List ByteArray) => (0 ≤ c128_1 ∧ c128_1 ≤ code.length) ∧ (Lv8.length ≤ 5)) g.1 g.2.1 g.2.2 }) (fun g => (fun (c128_1 : Int) (c128_2 : Int) (Lv8 : List ByteArray) => ⟨[(4, .pt 96 0 0), (5, .pt 128 0 0), (6, .pt 192 0 0), (7, .e (.c (.f (.sl (v7.map d87))))), (8, .e (.c (.ref 512)))], [(96, some (.box [.d (.v (.int .i64 0)), .d (.v (.string (⟨#[]⟩ : ByteArray))), .d (.v (.int .i64 0)), .nil, .d (.v (.int .i64 0)), .d (.v (.int .i64 0)), .d (.v (.string (⟨#[]⟩ : ByteArray))), .d (.v (.int .i64 0)), .d (.v (.int .i64 0)), .d (.v (.string (⟨#[]⟩ : ByteArray))), .d (.v (.int .i64 0)), .d (.v (.int .i64 0)), .nil, .d (.v (.int .i64 0)), .nil, .nil])), (128, some (.box [.d (.sl (code.map dB)), .d (.v (.int .i64 c128_1)), .d (.v (.int .i64 c128_2))])), (192, some (.box [.d (.v (.int .i64 r5.f0)), .d (.v (.string r5.f1)), .d (.v (.int .i64 r5.f2)), .f (.sl (r5.f3.map d59)), .d (.v (.int .i64 r5.f4.f0)), .d (.v (.int .i64 r5.f4.f1)), .d (.v (.string r5.f4.f2)), .d (.v (.int .i64 r5.f5.f0)), .d (.v (.int .i64 r5.f5.f1)), .d (.v (.string r5.f5.f2)), .d (.v (.int .i64 r5.f6.f0)), .d (.v (.int .i64 r5.f6.f1)), .f (.sl (r5.f6.f2.map dS)), .d (.v (.int .i64 r5.f7.f0)), .f (.sl (r5.f7.f1.map dS)), .f (.sl (r5.f7.f2.map dI))])), (512, some (.row 1 9 (Lv8.map dS) false true))], 544⟩) g.1.1 g.1.2.1 g.1.2.2) ?_ (fun g => ?_)
      · refine X.seq ?_
        refine X.rs 1 hτ hmix (by kernel_rfl) ?_
        obtain ⟨r26, i29, h30, hr28, hi31, hf27⟩ := s_l1Once code c128_1 c128_2 (by first | assumption | omega) (by omega) 2
        refine CH.call hf27 Try.func96 ⟨rfl, rfl⟩ [(128, 0)] (by kernel_rfl) (by kernel_rfl) (by kernel_rfl) (by kernel_rfl) ?_
        refine CH.endk ⟨[(4, .pt 96 0 0), (5, .pt 128 0 0), (6, .pt 192 0 0), (7, .e (.c (.f (.sl (v7.map d87))))), (8, .e (.c (.ref 432))), (26, .e (.c (.d (.v (.bool r26)))))], [(96, some (.box [.d (.v (.int .i64 0)), .d (.v (.string (⟨#[]⟩ : ByteArray))), .d (.v (.int .i64 0)), .nil, .d (.v (.int .i64 0)), .d (.v (.int .i64 0)), .d (.v (.string (⟨#[]⟩ : ByteArray))), .d (.v (.int .i64 0)), .d (.v (.int .i64 0)), .d (.v (.string (⟨#[]⟩ : ByteArray))), .d (.v (.int .i64 0)), .d (.v (.int .i64 0)), .nil, .d (.v (.int .i64 0)), .nil, .nil])), (128, some (.box [.d (.sl (code.map dB)), .d (.v (.int .i64 i29)), .d (.v (.int .i64 h30))])), (192, some (.box [.d (.v (.int .i64 r5.f0)), .d (.v (.string r5.f1)), .d (.v (.int .i64 r5.f2)), .f (.sl (r5.f3.map d59)), .d (.v (.int .i64 r5.f4.f0)), .d (.v (.int .i64 r5.f4.f1)), .d (.v (.string r5.f4.f2)), .d (.v (.int .i64 r5.f5.f0)), .d (.v (.int .i64 r5.f5.f1)), .d (.v (.string r5.f5.f2)), .d (.v (.int .i64 r5.f6.f0)), .d (.v (.int .i64 r5.f6.f1)), .f (.sl (r5.f6.f2.map dS)), .d (.v (.int .i64 r5.f7.f0)), .f (.sl (r5.f7.f1.map dS)), .f (.sl (r5.f7.f2.map dI))])), (432, some (.row 1 9 [] false true))], 496⟩ (by kernel_rfl) (by kernel_rfl) rfl ?_
        refine X.if_ (b := r26) (by kernel_rfl) (fun hb32 => ?_) (fun hb32 => ?_)
        · refine X.rs 1 hτ hmix (by kernel_rfl) ?_
          obtain ⟨r33, i36, h37, hr35, hi38, hf34⟩ := s_l1Names code i29 h30 (by first | assumption | omega) (by omega)
          obtain ⟨hnl, hns⟩ := hr35
          refine CH.call hf34 Try.func104 ⟨rfl, rfl⟩ [(128, 0)] (by kernel_rfl) (by kernel_rfl) (by kernel_rfl) (by kernel_rfl) ?_
          refine CH.go 1 hτ (by kernel_rfl) ?_
          refine CH.endk ⟨[(4, .pt 96 0 0), (5, .pt 128 0 0), (6, .pt 192 0 0), (7, .e (.c (.f (.sl (v7.map d87))))), (8, .e (.c (.ref 512)))], [(96, some (.box [.d (.v (.int .i64 0)), .d (.v (.string (⟨#[]⟩ : ByteArray))), .d (.v (.int .i64 0)), .nil, .d (.v (.int .i64 0)), .d (.v (.int .i64 0)), .d (.v (.string (⟨#[]⟩ : ByteArray))), .d (.v (.int .i64 0)), .d (.v (.int .i64 0)), .d (.v (.string (⟨#[]⟩ : ByteArray))), .d (.v (.int .i64 0)), .d (.v (.int .i64 0)), .nil, .d (.v (.int .i64 0)), .nil, .nil])), (128, some (.box [.d (.sl (code.map dB)), .d (.v (.int .i64 i36)), .d (.v (.int .i64 h37))])), (192, some (.box [.d (.v (.int .i64 r5.f0)), .d (.v (.string r5.f1)), .d (.v (.int .i64 r5.f2)), .f (.sl (r5.f3.map d59)), .d (.v (.int .i64 r5.f4.f0)), .d (.v (.int .i64 r5.f4.f1)), .d (.v (.string r5.f4.f2)), .d (.v (.int .i64 r5.f5.f0)), .d (.v (.int .i64 r5.f5.f1)), .d (.v (.string r5.f5.f2)), .d (.v (.int .i64 r5.f6.f0)), .d (.v (.int .i64 r5.f6.f1)), .f (.sl (r5.f6.f2.map dS)), .d (.v (.int .i64 r5.f7.f0)), .f (.sl (r5.f7.f1.map dS)), .f (.sl (r5.f7.f2.map dI))])), (512, some (.row 1 9 (r33.map dS) false true))], 544⟩ (by kernel_rfl) (by kernel_rfl) rfl ?_
          refine ⟨⟨(i36, h37, r33), ⟨by first | omega | (dsimp only; omega), (by first | exact hnl | (simp; done))⟩⟩, Wk.mk' [(96, 96), (128, 128), (192, 192), (512, 512)] (by kernel_rfl) (by kernel_rfl) (by kernel_rfl)⟩
        · refine X.skip ?_
          refine ⟨⟨(i29, h30, []), ⟨by first | omega | (dsimp only; omega), (by first | exact hnl | (simp; done))⟩⟩, Wk.mk' [(96, 96), (128, 128), (192, 192), (512, 432)] (by kernel_rfl) (by kernel_rfl) (by kernel_rfl)⟩
      · obtain ⟨⟨c128_1, c128_2, Lv8⟩, hg25⟩ := g
        have hg25 : (0 ≤ c128_1 ∧ c128_1 ≤ code.length) ∧ (Lv8.length ≤ 5) := hg25
        obtain ⟨⟨_, _⟩, hJ2⟩ := hg25
        refine X.seq ?_
        refine X.seq ?_
        refine X.rs 1 hτ hmix (by kernel_rfl) ?_
        obtain ⟨r39, i42, h43, hr41, hi44, hf40⟩ := s_l1Once code c128_1 c128_2 (by first | assumption | omega) (by omega) 4
        refine CH.call hf40 Try.func96 ⟨rfl, rfl⟩ [(128, 0)] (by kernel_rfl) (by kernel_rfl) (by kernel_rfl) (by kernel_rfl) ?_
        refine CH.endk ⟨[(4, .pt 96 0 0), (6, .pt 192 0 0), (7, .e (.c (.f (.sl (v7.map d87))))), (8, .e (.c (.ref 512))), (30, .e (.c (.d (.v (.bool r39)))))], [(96, some (.box [.d (.v (.int .i64 0)), .d (.v (.string (⟨#[]⟩ : ByteArray))), .d (.v (.int .i64 0)), .nil, .d (.v (.int .i64 0)), .d (.v (.int .i64 0)), .d (.v (.string (⟨#[]⟩ : ByteArray))), .d (.v (.int .i64 0)), .d (.v (.int .i64 0)), .d (.v (.string (⟨#[]⟩ : ByteArray))), .d (.v (.int .i64 0)), .d (.v (.int .i64 0)), .nil, .d (.v (.int .i64 0)), .nil, .nil])), (192, some (.box [.d (.v (.int .i64 r5.f0)), .d (.v (.string r5.f1)), .d (.v (.int .i64 r5.f2)), .f (.sl (r5.f3.map d59)), .d (.v (.int .i64 r5.f4.f0)), .d (.v (.int .i64 r5.f4.f1)), .d (.v (.string r5.f4.f2)), .d (.v (.int .i64 r5.f5.f0)), .d (.v (.int .i64 r5.f5.f1)), .d (.v (.string r5.f5.f2)), .d (.v (.int .i64 r5.f6.f0)), .d (.v (.int .i64 r5.f6.f1)), .f (.sl (r5.f6.f2.map dS)), .d (.v (.int .i64 r5.f7.f0)), .f (.sl (r5.f7.f1.map dS)), .f (.sl (r5.f7.f2.map dI))])), (512, some (.row 1 9 (Lv8.map dS) false true))], 576⟩ (by kernel_rfl) (by kernel_rfl) rfl ?_
        refine X.if_ (b := r39) (by kernel_rfl) (fun hb45 => ?_) (fun hb45 => ?_)
        · refine X.seq ?_
          refine X.rk ⟨[(2, .e (.c (.ref 576))), (3, .e (.c (.ref 512))), (4, .pt 96 0 0)], [(96, some (.box [.d (.v (.int .i64 r5.f0)), .d (.v (.string r5.f1)), .d (.v (.int .i64 r5.f2)), .f (.sl (r5.f3.map d59)), .d (.v (.int .i64 r5.f4.f0)), .d (.v (.int .i64 r5.f4.f1)), .d (.v (.string r5.f4.f2)), .d (.v (.int .i64 r5.f5.f0)), .d (.v (.int .i64 r5.f5.f1)), .d (.v (.string r5.f5.f2)), .d (.v (.int .i64 r5.f6.f0)), .d (.v (.int .i64 r5.f6.f1)), .f (.sl (r5.f6.f2.map dS)), .d (.v (.int .i64 r5.f7.f0)), .f (.sl (r5.f7.f1.map dS)), .f (.sl (r5.f7.f2.map dI))])), (512, some (.row 1 9 (Lv8.map dS) false true)), (576, some (.row 5 87 [] false true))], 672⟩ hτ hmix (by kernel_rfl) (by kernel_rfl) rfl ?_
          refine X.ret ?_
          exact ⟨trivial, _, _, ⟨[], Lv8, r5, ⟨hm, hmd, by first | (simp; done) | omega, by omega⟩, rfl, rfl⟩, .inr ⟨⟨[(2, .e (.c (.f (.sl [])))), (3, .e (.c (.f (.sl (Lv8.map dS))))), (4, .pt 96 0 0)], [(96, some (.box [.d (.v (.int .i64 r5.f0)), .d (.v (.string r5.f1)), .d (.v (.int .i64 r5.f2)), .f (.sl (r5.f3.map d59)), .d (.v (.int .i64 r5.f4.f0)), .d (.v (.int .i64 r5.f4.f1)), .d (.v (.string r5.f4.f2)), .d (.v (.int .i64 r5.f5.f0)), .d (.v (.int .i64 r5.f5.f1)), .d (.v (.string r5.f5.f2)), .d (.v (.int .i64 r5.f6.f0)), .d (.v (.int .i64 r5.f6.f1)), .f (.sl (r5.f6.f2.map dS)), .d (.v (.int .i64 r5.f7.f0)), .f (.sl (r5.f7.f1.map dS)), .f (.sl (r5.f7.f2.map dI))])), (512, some (.row 1 9 (Lv8.map dS) true true)), (576, some (.row 5 87 [] true true))], 672⟩, Wk.less (by kernel_rfl), Ret.mk' [] (by kernel_rfl) (by kernel_rfl) (by kernel_rfl)⟩⟩
        · refine X.skip ?_
          refine X.seq ?_
          refine X.rk ⟨[(2, .e (.c (.f (.sl (v7.map d87))))), (3, .e (.c (.ref 512))), (4, .pt 96 0 0)], [(96, some (.box [.d (.v (.int .i64 r5.f0)), .d (.v (.string r5.f1)), .d (.v (.int .i64 r5.f2)), .f (.sl (r5.f3.map d59)), .d (.v (.int .i64 r5.f4.f0)), .d (.v (.int .i64 r5.f4.f1)), .d (.v (.string r5.f4.f2)), .d (.v (.int .i64 r5.f5.f0)), .d (.v (.int .i64 r5.f5.f1)), .d (.v (.string r5.f5.f2)), .d (.v (.int .i64 r5.f6.f0)), .d (.v (.int .i64 r5.f6.f1)), .f (.sl (r5.f6.f2.map dS)), .d (.v (.int .i64 r5.f7.f0)), .f (.sl (r5.f7.f1.map dS)), .f (.sl (r5.f7.f2.map dI))])), (512, some (.row 1 9 (Lv8.map dS) false true))], 672⟩ hτ hmix (by kernel_rfl) (by kernel_rfl) rfl ?_
          refine X.ret ?_
          exact ⟨trivial, _, _, ⟨v7, Lv8, r5, ⟨hm, hmd, by first | (simp; done) | omega, by omega⟩, rfl, rfl⟩, .inr ⟨⟨[(2, .e (.c (.f (.sl (v7.map d87))))), (3, .e (.c (.f (.sl (Lv8.map dS))))), (4, .pt 96 0 0)], [(96, some (.box [.d (.v (.int .i64 r5.f0)), .d (.v (.string r5.f1)), .d (.v (.int .i64 r5.f2)), .f (.sl (r5.f3.map d59)), .d (.v (.int .i64 r5.f4.f0)), .d (.v (.int .i64 r5.f4.f1)), .d (.v (.string r5.f4.f2)), .d (.v (.int .i64 r5.f5.f0)), .d (.v (.int .i64 r5.f5.f1)), .d (.v (.string r5.f5.f2)), .d (.v (.int .i64 r5.f6.f0)), .d (.v (.int .i64 r5.f6.f1)), .f (.sl (r5.f6.f2.map dS)), .d (.v (.int .i64 r5.f7.f0)), .f (.sl (r5.f7.f1.map dS)), .f (.sl (r5.f7.f2.map dI))])), (512, some (.row 1 9 (Lv8.map dS) true true))], 672⟩, Wk.less (by kernel_rfl), Ret.mk' [] (by kernel_rfl) (by kernel_rfl) (by kernel_rfl)⟩⟩
  obtain ⟨_, _, ⟨r0, r1, r2, q1, rfl, rfl⟩, hf⟩ := key
  exact ⟨r0, r1, r2, q1, hf⟩

theorem l_FnSigned (code : List Int) (hl : code.length ≤ 4611686018427387904) : ∃ r0 : Bool, (r0 = true) ∧ Fn Try.prog 12 [.e (.c (.d (.sl (code.map dB))))] (lookH []) (.e (.c (.d (.v (.bool r0))))) (lookH []) := by
  have key : ∃ x' h', ((fun x' h' => ∃ r0 : Bool, (r0 = true) ∧ x' = .e (.c (.d (.v (.bool r0)))) ∧ h' = [])) x' h' ∧ Fn Try.prog 12 [.e (.c (.d (.sl (code.map dB))))] (lookH []) x' (lookH h') := by
    refine Fn.bodyX (N := 82) hτ Try.func12 rfl rfl rfl rfl ?_
    refine X.seq ?_
    refine X.rk ⟨[(0, .e (.c (.d (.sl (code.map dB)))))], [], 80⟩ hτ hmix (by kernel_rfl) (by kernel_rfl) rfl ?_
    refine X.seq ?_
    refine X.seq ?_
    refine X.rs 1 hτ hmix (by kernel_rfl) ?_
    obtain ⟨r1, hr3, hf2⟩ := l_big code (by assumption)
    refine CH.call hf2 Try.func40 ⟨rfl, rfl⟩ [] (by kernel_rfl) (by kernel_rfl) (by kernel_rfl) (by kernel_rfl) ?_
    refine CH.endk ⟨[(0, .e (.c (.d (.sl (code.map dB))))), (12, .e (.c (.d (.v (.bool r1)))))], [], 112⟩ (by kernel_rfl) (by kernel_rfl) rfl ?_
    refine X.if_ (b := r1) (by kernel_rfl) (fun hb4 => ?_) (fun hb4 => ?_)
    · refine X.seq ?_
      refine X.rk ⟨[(2, .e (.c (.d (.v (.bool true)))))], [], 128⟩ hτ hmix (by kernel_rfl) (by kernel_rfl) rfl ?_
      refine X.ret ?_
      exact ⟨trivial, _, _, ⟨true, (by first | exact rfl | exact absurd rfl ‹_› | exact tf (signed_self _ _) ‹_› | exact tf (sg_has (hS ‹_›) ‹_› hH hA (by omega)) ‹_›), rfl, rfl⟩, .inl (Ret.mk' [] (by kernel_rfl) (by kernel_rfl) (by kernel_rfl))⟩
    · refine X.skip ?_
      refine X.seq ?_
      refine X.rs 1 hτ hmix (by kernel_rfl) ?_
      obtain ⟨r5, r6, r7, hr9, hf8⟩ := s_DrawSigned code (by first | omega | (simp; done) | (simp; omega))
      obtain ⟨hm, hmd, hrl, hrf⟩ := hr9
      refine CH.call hf8 Try.func47 ⟨rfl, rfl⟩ [] (by kernel_rfl) (by kernel_rfl) (by kernel_rfl) (by kernel_rfl) ?_
      refine CH.go 8 hτ (by kernel_rfl) ?_
      refine CH.endk ⟨[(3, .e (.c (.f (.sl (r5.map d87))))), (4, .e (.c (.f (.sl (r6.map dS))))), (5, .pt 208 0 0)], [(208, some (.box [.d (.v (.int .i64 r7.f0)), .d (.v (.string r7.f1)), .d (.v (.int .i64 r7.f2)), .f (.sl (r7.f3.map d59)), .d (.v (.int .i64 r7.f4.f0)), .d (.v (.int .i64 r7.f4.f1)), .d (.v (.string r7.f4.f2)), .d (.v (.int .i64 r7.f5.f0)), .d (.v (.int .i64 r7.f5.f1)), .d (.v (.string r7.f5.f2)), .d (.v (.int .i64 r7.f6.f0)), .d (.v (.int .i64 r7.f6.f1)), .f (.sl (r7.f6.f2.map dS)), .d (.v (.int .i64 r7.f7.f0)), .f (.sl (r7.f7.f1.map dS)), .f (.sl (r7.f7.f2.map dI))]))], 272⟩ (by kernel_rfl) (by kernel_rfl) rfl ?_
      refine X.seq ?_
      refine X.rs 1 hτ hmix (by kernel_rfl) ?_
      obtain ⟨r10, hr12, hf11⟩ := i_SigsOf r7 (by assumption) (by assumption)
      replace hr12 := hr12.symm; subst hr12
      have hsl := sigs_len r7 ‹_›
      refine CH.call hf11 Try.func48 ⟨rfl, rfl⟩ [] (by kernel_rfl) (by kernel_rfl) (by kernel_rfl) (by kernel_rfl) ?_
      refine CH.go 1 hτ (by kernel_rfl) ?_
      refine CH.endk ⟨[(3, .e (.c (.f (.sl (r5.map d87))))), (4, .e (.c (.f (.sl (r6.map dS))))), (5, .pt 208 0 0), (6, .e (.c (.f (.sl ((sigsOf r7).map d87)))))], [(208, some (.box [.d (.v (.int .i64 r7.f0)), .d (.v (.string r7.f1)), .d (.v (.int .i64 r7.f2)), .f (.sl (r7.f3.map d59)), .d (.v (.int .i64 r7.f4.f0)), .d (.v (.int .i64 r7.f4.f1)), .d (.v (.string r7.f4.f2)), .d (.v (.int .i64 r7.f5.f0)), .d (.v (.int .i64 r7.f5.f1)), .d (.v (.string r7.f5.f2)), .d (.v (.int .i64 r7.f6.f0)), .d (.v (.int .i64 r7.f6.f1)), .f (.sl (r7.f6.f2.map dS)), .d (.v (.int .i64 r7.f7.f0)), .f (.sl (r7.f7.f1.map dS)), .f (.sl (r7.f7.f2.map dI))]))], 320⟩ (by kernel_rfl) (by kernel_rfl) rfl ?_
      refine X.seq ?_
      refine X.rs 3 hτ hmix (by kernel_rfl) ?_
      obtain ⟨r14, hr16, hf15⟩ := i_Signed r5 r6 r7 (by assumption) (by assumption) (by omega) (by omega)
      replace hr16 := hr16.symm; subst hr16
      refine CH.call hf15 Try.func49 ⟨rfl, rfl⟩ [] (by kernel_rfl) (by kernel_rfl) (by kernel_rfl) (by kernel_rfl) ?_
      refine CH.go 1 hτ (by kernel_rfl) ?_
      refine CH.endk ⟨[(3, .e (.c (.f (.sl (r5.map d87))))), (4, .e (.c (.f (.sl (r6.map dS))))), (5, .pt 208 0 0), (6, .e (.c (.f (.sl ((sigsOf r7).map d87))))), (7, .e (.c (.d (.v (.bool (signed r5 r6 (sigsOf r7)))))))], [(208, some (.box [.d (.v (.int .i64 r7.f0)), .d (.v (.string r7.f1)), .d (.v (.int .i64 r7.f2)), .f (.sl (r7.f3.map d59)), .d (.v (.int .i64 r7.f4.f0)), .d (.v (.int .i64 r7.f4.f1)), .d (.v (.string r7.f4.f2)), .d (.v (.int .i64 r7.f5.f0)), .d (.v (.int .i64 r7.f5.f1)), .d (.v (.string r7.f5.f2)), .d (.v (.int .i64 r7.f6.f0)), .d (.v (.int .i64 r7.f6.f1)), .f (.sl (r7.f6.f2.map dS)), .d (.v (.int .i64 r7.f7.f0)), .f (.sl (r7.f7.f1.map dS)), .f (.sl (r7.f7.f2.map dI))]))], 400⟩ (by kernel_rfl) (by kernel_rfl) rfl ?_
      refine X.seq ?_
      refine X.seq ?_
      refine X.rs 4 hτ hmix (by kernel_rfl) ?_
      obtain ⟨r18, hr20, hf19⟩ := s_Signed r5 r6 r7 (by assumption) (by assumption) (by omega) (by omega)
      replace hr20 := hr20.symm; subst hr20
      refine CH.call hf19 Try.func50 ⟨rfl, rfl⟩ [] (by kernel_rfl) (by kernel_rfl) (by kernel_rfl) (by kernel_rfl) ?_
      refine CH.eqB (t := 4) (ng := true) (a := (signed r5 r6 (sigsOf r7))) (b := (signed r5 r6 (sigsOf r7))) (by kernel_rfl) (by kernel_rfl) Try.underlying4 ?_
      refine CH.go 1 hτ (by kernel_rfl) ?_
      rcases Bool.eq_false_or_eq_true (!((signed r5 r6 (sigsOf r7)) == (signed r5 r6 (sigsOf r7)))) with hb22 | hb22
      · refine CH.alt 30 (sV (.bool (!((signed r5 r6 (sigsOf r7)) == (signed r5 r6 (sigsOf r7)))))) (sV (.bool true)) (by kernel_rfl) (by rw [hb22]) ?_
        refine CH.alt 31 (sV (.bool (!((signed r5 r6 (sigsOf r7)) == (signed r5 r6 (sigsOf r7)))))) (sV (.bool true)) (by kernel_rfl) (by rw [hb22]) ?_
        replace hb22 := beq_eq_false_iff_ne.1 (bnot_yes (hb22))
        refine CH.go 14 hτ (by kernel_rfl) ?_
        refine CH.endk ⟨[(3, .e (.c (.f (.sl (r5.map d87))))), (4, .e (.c (.f (.sl (r6.map dS))))), (6, .e (.c (.f (.sl ((sigsOf r7).map d87))))), (7, .e (.c (.d (.v (.bool (signed r5 r6 (sigsOf r7))))))), (45, .e (.c (.d (.v (.bool true)))))], [], 736⟩ (by kernel_rfl) (by kernel_rfl) rfl ?_
        refine X.ifT (by kernel_rfl) ?_
        refine X.seq ?_
        refine X.rk ⟨[(2, .e (.c (.d (.v (.bool false)))))], [], 752⟩ hτ hmix (by kernel_rfl) (by kernel_rfl) rfl ?_
        refine X.ret ?_
        exact ⟨trivial, _, _, ⟨false, (by first | exact rfl | exact absurd rfl ‹_› | exact tf (signed_self _ _) ‹_› | exact tf (sg_has (hS ‹_›) ‹_› hH hA (by omega)) ‹_›), rfl, rfl⟩, .inl (Ret.mk' [] (by kernel_rfl) (by kernel_rfl) (by kernel_rfl))⟩
      · refine CH.alt 30 (sV (.bool (!((signed r5 r6 (sigsOf r7)) == (signed r5 r6 (sigsOf r7)))))) (sV (.bool false)) (by kernel_rfl) (by rw [hb22]) ?_
        refine CH.alt 31 (sV (.bool (!((signed r5 r6 (sigsOf r7)) == (signed r5 r6 (sigsOf r7)))))) (sV (.bool false)) (by kernel_rfl) (by rw [hb22]) ?_
        replace hb22 := eq_of_beq (bnot_no (hb22))
        refine CH.go 3 hτ (by kernel_rfl) ?_
        obtain ⟨r23, hr25, hf24⟩ := i_Signed (sigsOf r7) r6 r7 (by assumption) (by assumption) (by omega) (by omega)
        replace hr25 := hr25.symm; subst hr25
        refine CH.call hf24 Try.func49 ⟨rfl, rfl⟩ [] (by kernel_rfl) (by kernel_rfl) (by kernel_rfl) (by kernel_rfl) ?_
        refine CH.go 3 hτ (by kernel_rfl) ?_
        rcases Bool.eq_false_or_eq_true (!(signed (sigsOf r7) r6 (sigsOf r7))) with hb27 | hb27
        · refine CH.alt 36 (sV (.bool (!(signed (sigsOf r7) r6 (sigsOf r7))))) (sV (.bool true)) (by kernel_rfl) (by rw [hb27]) ?_
          refine CH.alt 37 (sV (.bool (!(signed (sigsOf r7) r6 (sigsOf r7))))) (sV (.bool true)) (by kernel_rfl) (by rw [hb27]) ?_
          refine CH.alt 38 (sV (.bool (!(signed (sigsOf r7) r6 (sigsOf r7))))) (sV (.bool true)) (by kernel_rfl) (by rw [hb27]) ?_
          replace hb27 := bnot_yes (hb27)
          refine CH.go 7 hτ (by kernel_rfl) ?_
          refine CH.endk ⟨[(3, .e (.c (.f (.sl (r5.map d87))))), (4, .e (.c (.f (.sl (r6.map dS))))), (6, .e (.c (.f (.sl ((sigsOf r7).map d87))))), (7, .e (.c (.d (.v (.bool (signed r5 r6 (sigsOf r7))))))), (45, .e (.c (.d (.v (.bool true)))))], [], 736⟩ (by kernel_rfl) (by kernel_rfl) rfl ?_
          refine X.ifT (by kernel_rfl) ?_
          refine X.seq ?_
          refine X.rk ⟨[(2, .e (.c (.d (.v (.bool false)))))], [], 752⟩ hτ hmix (by kernel_rfl) (by kernel_rfl) rfl ?_
          refine X.ret ?_
          exact ⟨trivial, _, _, ⟨false, (by first | exact rfl | exact absurd rfl ‹_› | exact tf (signed_self _ _) ‹_› | exact tf (sg_has (hS ‹_›) ‹_› hH hA (by omega)) ‹_›), rfl, rfl⟩, .inl (Ret.mk' [] (by kernel_rfl) (by kernel_rfl) (by kernel_rfl))⟩
        · refine CH.alt 36 (sV (.bool (!(signed (sigsOf r7) r6 (sigsOf r7))))) (sV (.bool false)) (by kernel_rfl) (by rw [hb27]) ?_
          refine CH.alt 37 (sV (.bool (!(signed (sigsOf r7) r6 (sigsOf r7))))) (sV (.bool false)) (by kernel_rfl) (by rw [hb27]) ?_
          refine CH.alt 38 (sV (.bool (!(signed (sigsOf r7) r6 (sigsOf r7))))) (sV (.bool false)) (by kernel_rfl) (by rw [hb27]) ?_
          replace hb27 := bnot_no (hb27)
          refine CH.go 3 hτ (by kernel_rfl) ?_
          have el28 : ((sigsOf r7).map d87).length = (sigsOf r7).length := List.length_map ..
          obtain ⟨r29, hr31, hf30⟩ := s_SigsOf r7 (by assumption) (by assumption)
          replace hr31 := hr31.symm; subst hr31
          have hsl := sigs_len r7 ‹_›
          refine CH.call hf30 Try.func51 ⟨rfl, rfl⟩ [] (by kernel_rfl) (by kernel_rfl) (by kernel_rfl) (by kernel_rfl) ?_
          refine CH.go 3 hτ (by kernel_rfl) ?_
          refine CH.endk ⟨[(3, .e (.c (.f (.sl (r5.map d87))))), (4, .e (.c (.f (.sl (r6.map dS))))), (6, .e (.c (.f (.sl ((sigsOf r7).map d87))))), (7, .e (.c (.d (.v (.bool (signed r5 r6 (sigsOf r7))))))), (45, .e (.c (.d (.v (.bool ((((sigsOf r7).map d87).length : Int) != (((sigsOf r7).map d87).length : Int)))))))], [], 736⟩ (by kernel_rfl) (by kernel_rfl) rfl ?_
          refine X.if_ (b := ((((sigsOf r7).map d87).length : Int) != (((sigsOf r7).map d87).length : Int))) (by kernel_rfl) (fun hb33 => ?_) (fun hb33 => ?_)
          · replace hb33 := bne_iff_ne.1 (hb33)
            refine X.seq ?_
            refine X.rk ⟨[(2, .e (.c (.d (.v (.bool false)))))], [], 752⟩ hτ hmix (by kernel_rfl) (by kernel_rfl) rfl ?_
            refine X.ret ?_
            exact ⟨trivial, _, _, ⟨false, (by first | exact rfl | exact absurd rfl ‹_› | exact tf (signed_self _ _) ‹_› | exact tf (sg_has (hS ‹_›) ‹_› hH hA (by omega)) ‹_›), rfl, rfl⟩, .inl (Ret.mk' [] (by kernel_rfl) (by kernel_rfl) (by kernel_rfl))⟩
          · replace hb33 := bne_eq_false_iff_eq.1 (hb33)
            refine X.skip ?_
            refine X.seq ?_
            refine X.seq ?_
            refine X.rk ⟨[(3, .e (.c (.f (.sl (r5.map d87))))), (4, .e (.c (.f (.sl (r6.map dS))))), (6, .e (.c (.f (.sl ((sigsOf r7).map d87))))), (7, .e (.c (.d (.v (.bool (signed r5 r6 (sigsOf r7))))))), (8, .e (.c (.d (.v (.int .i64 0)))))], [], 752⟩ hτ hmix (by kernel_rfl) (by kernel_rfl) rfl ?_
            refine X.block ?_
            -- 9: v7 : Bool, v8 : Int
            refine X.loop (σ := { g : Bool × Int // (fun (v7 : Bool) (v8 : Int) => 0 ≤ v8 ∧ v8 ≤ (sigsOf r7).length ∧ (v7 = true → signed r5 r6 (sigsOf r7) = true)) g.1 g.2 }) (fun g => (fun (v7 : Bool) (v8 : Int) => ⟨[(3, .e (.c (.f (.sl (r5.map d87))))), (4, .e (.c (.f (.sl (r6.map dS))))), (6, .e (.c (.f (.sl ((sigsOf r7).map d87))))), (7, .e (.c (.d (.v (.bool v7))))), (8, .e (.c (.d (.v (.int .i64 v8)))))], [], 752⟩) g.1.1 g.1.2) (fun g => (fun (v7 : Bool) (v8 : Int) => ((sigsOf r7).length - v8).toNat) g.1.1 g.1.2) ⟨((signed r5 r6 (sigsOf r7)), 0), ⟨by first | omega | (dsimp only; omega), by first | omega | (dsimp only; omega), fun h => h⟩⟩ (Wk.less (by kernel_rfl)) (fun g => ?_)
            obtain ⟨⟨v7, v8⟩, hg35⟩ := g
            have hg35 : 0 ≤ v8 ∧ v8 ≤ (sigsOf r7).length ∧ (v7 = true → signed r5 r6 (sigsOf r7) = true) := hg35
            obtain ⟨_, _, hS⟩ := hg35
            refine X.seq ?_
            refine X.seq ?_
            refine X.rk ⟨[(3, .e (.c (.f (.sl (r5.map d87))))), (4, .e (.c (.f (.sl (r6.map dS))))), (6, .e (.c (.f (.sl ((sigsOf r7).map d87))))), (7, .e (.c (.d (.v (.bool v7))))), (8, .e (.c (.d (.v (.int .i64 v8))))), (49, .e (.c (.d (.v (.bool (decide ((v8 : Int) < (((sigsOf r7).map d87).length : Int))))))))], [], 816⟩ hτ hmix (by kernel_rfl) (by kernel_rfl) rfl ?_
            refine X.if_ (b := decide ((v8 : Int) < (((sigsOf r7).map d87).length : Int))) (by kernel_rfl) (fun hb36 => ?_) (fun hb36 => ?_)
            · replace hb36 := of_decide_eq_true (hb36)
              refine X.skip ?_
              refine X.seq ?_
              refine X.block ?_
              refine X.seq ?_
              refine X.rs 3 hτ hmix (by kernel_rfl) ?_
              obtain ⟨x37, hx37⟩ : ∃ x, (sigsOf r7)[Int.toNat v8]? = some x := ⟨_, List.getElem?_eq_getElem (by first | omega | (simp; done) | (simp; omega))⟩
              refine CH.idx hτ (d87 x37) (rows := ((sigsOf r7).map d87)) (n := v8) (sz := 5) (by kernel_rfl) (by kernel_rfl) (by first | omega | (simp; done) | (simp; omega)) (by rw [List.getElem?_map, hx37]; rfl) (by kernel_rfl) ?_
              refine CH.go 2 hτ (by kernel_rfl) ?_
              obtain ⟨r38, hr40, hf39⟩ := l_among r6 x37.f4 (by first | omega | (simp; omega))
              replace hr40 := hr40.symm; subst hr40
              refine CH.call hf39 Try.func52 ⟨rfl, rfl⟩ [] (by kernel_rfl) (by kernel_rfl) (by kernel_rfl) (by kernel_rfl) ?_
              refine CH.go 1 hτ (by kernel_rfl) ?_
              refine CH.endk ⟨[(3, .e (.c (.f (.sl (r5.map d87))))), (4, .e (.c (.f (.sl (r6.map dS))))), (6, .e (.c (.f (.sl ((sigsOf r7).map d87))))), (7, .e (.c (.d (.v (.bool v7))))), (8, .e (.c (.d (.v (.int .i64 v8))))), (9, .e (.c (.d (.v (.bool (hasN r6 x37.f4))))))], [], 944⟩ (by kernel_rfl) (by kernel_rfl) rfl ?_
              refine X.seq ?_
              refine X.seq ?_
              refine X.rk ⟨[(3, .e (.c (.f (.sl (r5.map d87))))), (4, .e (.c (.f (.sl (r6.map dS))))), (6, .e (.c (.f (.sl ((sigsOf r7).map d87))))), (7, .e (.c (.d (.v (.bool v7))))), (8, .e (.c (.d (.v (.int .i64 v8))))), (9, .e (.c (.d (.v (.bool (hasN r6 x37.f4)))))), (10, .e (.c (.d (.v (.int .i64 0)))))], [], 960⟩ hτ hmix (by kernel_rfl) (by kernel_rfl) rfl ?_
              refine X.block ?_
              -- 13: v9 : Bool, v10 : Int
              refine X.loop (σ := { g : Bool × Int // (fun (v9 : Bool) (v10 : Int) => 0 ≤ v10 ∧ v10 ≤ r5.length ∧ (hasN r6 x37.f4 = true → v9 = true) ∧ Upto (fun _ y => y = x37 → v9 = true) (fun n => r5[n]?) v10) g.1 g.2 }) (fun g => (fun (v9 : Bool) (v10 : Int) => ⟨[(3, .e (.c (.f (.sl (r5.map d87))))), (4, .e (.c (.f (.sl (r6.map dS))))), (6, .e (.c (.f (.sl ((sigsOf r7).map d87))))), (7, .e (.c (.d (.v (.bool v7))))), (8, .e (.c (.d (.v (.int .i64 v8))))), (9, .e (.c (.d (.v (.bool v9))))), (10, .e (.c (.d (.v (.int .i64 v10)))))], [], 960⟩) g.1.1 g.1.2) (fun g => (fun (v9 : Bool) (v10 : Int) => (r5.length - v10).toNat) g.1.1 g.1.2) ⟨((hasN r6 x37.f4), 0), ⟨by first | omega | (dsimp only; omega), by first | omega | (dsimp only; omega), fun h => h, upto_zero⟩⟩ (Wk.less (by kernel_rfl)) (fun g => ?_)
              obtain ⟨⟨v9, v10⟩, hg43⟩ := g
              have hg43 : 0 ≤ v10 ∧ v10 ≤ r5.length ∧ (hasN r6 x37.f4 = true → v9 = true) ∧ Upto (fun _ y => y = x37 → v9 = true) (fun n => r5[n]?) v10 := hg43
              obtain ⟨_, _, hH, hA⟩ := hg43
              refine X.seq ?_
              refine X.seq ?_
              have el44 : (r5.map d87).length = r5.length := List.length_map ..
              refine X.rk ⟨[(3, .e (.c (.f (.sl (r5.map d87))))), (4, .e (.c (.f (.sl (r6.map dS))))), (6, .e (.c (.f (.sl ((sigsOf r7).map d87))))), (7, .e (.c (.d (.v (.bool v7))))), (8, .e (.c (.d (.v (.int .i64 v8))))), (9, .e (.c (.d (.v (.bool v9))))), (10, .e (.c (.d (.v (.int .i64 v10))))), (62, .e (.c (.d (.v (.bool (decide ((v10 : Int) < ((r5.map d87).length : Int))))))))], [], 1024⟩ hτ hmix (by kernel_rfl) (by kernel_rfl) rfl ?_
              refine X.if_ (b := decide ((v10 : Int) < ((r5.map d87).length : Int))) (by kernel_rfl) (fun hb45 => ?_) (fun hb45 => ?_)
              · replace hb45 := of_decide_eq_true (hb45)
                refine X.skip ?_
                refine X.seq ?_
                refine X.block ?_
                refine X.rs 2 hτ hmix (by kernel_rfl) ?_
                rcases Bool.eq_false_or_eq_true (v9) with hb46 | hb46
                · refine CH.alt 9 (sV (.bool (v9))) (sV (.bool true)) (by kernel_rfl) (by rw [hb46]) ?_
                  refine CH.alt 65 (sV (.bool (v9))) (sV (.bool true)) (by kernel_rfl) (by rw [hb46]) ?_
                  refine CH.alt 66 (sV (.bool (v9))) (sV (.bool true)) (by kernel_rfl) (by rw [hb46]) ?_
                  refine CH.go 11 hτ (by kernel_rfl) ?_
                  refine CH.endk ⟨[(3, .e (.c (.f (.sl (r5.map d87))))), (4, .e (.c (.f (.sl (r6.map dS))))), (6, .e (.c (.f (.sl ((sigsOf r7).map d87))))), (7, .e (.c (.d (.v (.bool v7))))), (8, .e (.c (.d (.v (.int .i64 v8))))), (9, .e (.c (.d (.v (.bool true))))), (10, .e (.c (.d (.v (.int .i64 v10)))))], [], 1232⟩ (by kernel_rfl) (by kernel_rfl) rfl ?_
                  refine X.rk ⟨[(3, .e (.c (.f (.sl (r5.map d87))))), (4, .e (.c (.f (.sl (r6.map dS))))), (6, .e (.c (.f (.sl ((sigsOf r7).map d87))))), (7, .e (.c (.d (.v (.bool v7))))), (8, .e (.c (.d (.v (.int .i64 v8))))), (9, .e (.c (.d (.v (.bool true))))), (10, .e (.c (.d (.v (.int .i64 (wrap64 (v10 + 1)))))))], [], 1280⟩ hτ hmix (by kernel_rfl) (by kernel_rfl) (s2 := ⟨[(3, .e (.c (.f (.sl (r5.map d87))))), (4, .e (.c (.f (.sl (r6.map dS))))), (6, .e (.c (.f (.sl ((sigsOf r7).map d87))))), (7, .e (.c (.d (.v (.bool v7))))), (8, .e (.c (.d (.v (.int .i64 v8))))), (9, .e (.c (.d (.v (.bool true))))), (10, .e (.c (.d (.v (.int .i64 (v10 + 1))))))], [], 1280⟩) (congrArg (fun z : Int => (⟨[(3, .e (.c (.f (.sl (r5.map d87))))), (4, .e (.c (.f (.sl (r6.map dS))))), (6, .e (.c (.f (.sl ((sigsOf r7).map d87))))), (7, .e (.c (.d (.v (.bool v7))))), (8, .e (.c (.d (.v (.int .i64 v8))))), (9, .e (.c (.d (.v (.bool true))))), (10, .e (.c (.d (.v (.int .i64 z)))))], [], 1280⟩ : St)) (show wrap64 (v10 + 1) = (v10 + 1) by rw [w64 (n := (v10 + 1)) (by omega) (by omega)])) ?_
                  refine ⟨⟨(true, (v10 + 1)), ⟨by first | omega | (dsimp only; omega), by first | omega | (dsimp only; omega), by first | exact fun _ => rfl | exact fun h => tf (hH h) ‹_›, by first | exact fun j y _ _ _ _ => rfl | exact hs_next hA ‹_› (by first | omega | (dsimp only; omega)) ‹_›⟩⟩, by first | exact rfl | omega | (dsimp only; omega) | (simp only [List.length_append, List.length_cons, List.length_nil, List.length_set]; omega) | (simp; done) | (simp; omega), Wk.mk' [] (by kernel_rfl) (by kernel_rfl) (by kernel_rfl)⟩
                · refine CH.alt 9 (sV (.bool (v9))) (sV (.bool false)) (by kernel_rfl) (by rw [hb46]) ?_
                  refine CH.alt 65 (sV (.bool (v9))) (sV (.bool false)) (by kernel_rfl) (by rw [hb46]) ?_
                  refine CH.alt 66 (sV (.bool (v9))) (sV (.bool false)) (by kernel_rfl) (by rw [hb46]) ?_
                  refine CH.go 2 hτ (by kernel_rfl) ?_
                  obtain ⟨x47, hx47⟩ : ∃ x, r5[Int.toNat v10]? = some x := ⟨_, List.getElem?_eq_getElem (by first | omega | (simp; done) | (simp; omega))⟩
                  refine CH.idx hτ (d87 x47) (rows := (r5.map d87)) (n := v10) (sz := 5) (by kernel_rfl) (by kernel_rfl) (by first | omega | (simp; done) | (simp; omega)) (by rw [List.getElem?_map, hx47]; rfl) (by kernel_rfl) ?_
                  refine CH.go 3 hτ (by kernel_rfl) ?_
                  refine CH.idx hτ (d87 x37) (rows := ((sigsOf r7).map d87)) (n := v8) (sz := 5) (by kernel_rfl) (by kernel_rfl) (by first | omega | (simp; done) | (simp; omega)) (by rw [List.getElem?_map, hx37]; rfl) (by kernel_rfl) ?_
                  refine CH.go 1 hτ (by kernel_rfl) ?_
                  refine CH.eqS (t := 87) (ng := false) (sm87 x47 x37) (by kernel_rfl) (by kernel_rfl) (flatS87 x47) ?_
                  refine CH.go 2 hτ (by kernel_rfl) ?_
                  refine CH.endk ⟨[(3, .e (.c (.f (.sl (r5.map d87))))), (4, .e (.c (.f (.sl (r6.map dS))))), (6, .e (.c (.f (.sl ((sigsOf r7).map d87))))), (7, .e (.c (.d (.v (.bool v7))))), (8, .e (.c (.d (.v (.int .i64 v8))))), (9, .e (.c (.d (.v (.bool (sm87 x47 x37)))))), (10, .e (.c (.d (.v (.int .i64 v10)))))], [], 1232⟩ (by kernel_rfl) (by kernel_rfl) rfl ?_
                  refine X.rk ⟨[(3, .e (.c (.f (.sl (r5.map d87))))), (4, .e (.c (.f (.sl (r6.map dS))))), (6, .e (.c (.f (.sl ((sigsOf r7).map d87))))), (7, .e (.c (.d (.v (.bool v7))))), (8, .e (.c (.d (.v (.int .i64 v8))))), (9, .e (.c (.d (.v (.bool (sm87 x47 x37)))))), (10, .e (.c (.d (.v (.int .i64 (wrap64 (v10 + 1)))))))], [], 1280⟩ hτ hmix (by kernel_rfl) (by kernel_rfl) (s2 := ⟨[(3, .e (.c (.f (.sl (r5.map d87))))), (4, .e (.c (.f (.sl (r6.map dS))))), (6, .e (.c (.f (.sl ((sigsOf r7).map d87))))), (7, .e (.c (.d (.v (.bool v7))))), (8, .e (.c (.d (.v (.int .i64 v8))))), (9, .e (.c (.d (.v (.bool (sm87 x47 x37)))))), (10, .e (.c (.d (.v (.int .i64 (v10 + 1))))))], [], 1280⟩) (congrArg (fun z : Int => (⟨[(3, .e (.c (.f (.sl (r5.map d87))))), (4, .e (.c (.f (.sl (r6.map dS))))), (6, .e (.c (.f (.sl ((sigsOf r7).map d87))))), (7, .e (.c (.d (.v (.bool v7))))), (8, .e (.c (.d (.v (.int .i64 v8))))), (9, .e (.c (.d (.v (.bool (sm87 x47 x37)))))), (10, .e (.c (.d (.v (.int .i64 z)))))], [], 1280⟩ : St)) (show wrap64 (v10 + 1) = (v10 + 1) by rw [w64 (n := (v10 + 1)) (by omega) (by omega)])) ?_
                  refine ⟨⟨((sm87 x47 x37), (v10 + 1)), ⟨by first | omega | (dsimp only; omega), by first | omega | (dsimp only; omega), by first | exact fun _ => rfl | exact fun h => tf (hH h) ‹_›, by first | exact fun j y _ _ _ _ => rfl | exact hs_next hA ‹_› (by first | omega | (dsimp only; omega)) ‹_›⟩⟩, by first | exact rfl | omega | (dsimp only; omega) | (simp only [List.length_append, List.length_cons, List.length_nil, List.length_set]; omega) | (simp; done) | (simp; omega), Wk.mk' [] (by kernel_rfl) (by kernel_rfl) (by kernel_rfl)⟩
              · replace hb45 := of_decide_eq_false (hb45)
                refine X.exit ?_
                refine X.seq ?_
                refine X.rs 2 hτ hmix (by kernel_rfl) ?_
                rcases Bool.eq_false_or_eq_true (v7) with hb48 | hb48
                · refine CH.alt 7 (sV (.bool (v7))) (sV (.bool true)) (by kernel_rfl) (by rw [hb48]) ?_
                  refine CH.alt 77 (sV (.bool (v7))) (sV (.bool true)) (by kernel_rfl) (by rw [hb48]) ?_
                  refine CH.alt 78 (sV (.bool (v7))) (sV (.bool true)) (by kernel_rfl) (by rw [hb48]) ?_
                  refine CH.go 3 hτ (by kernel_rfl) ?_
                  refine CH.endk ⟨[(3, .e (.c (.f (.sl (r5.map d87))))), (4, .e (.c (.f (.sl (r6.map dS))))), (6, .e (.c (.f (.sl ((sigsOf r7).map d87))))), (7, .e (.c (.d (.v (.bool true))))), (8, .e (.c (.d (.v (.int .i64 v8))))), (81, .e (.c (.d (.v (.bool (!v9))))))], [], 1104⟩ (by kernel_rfl) (by kernel_rfl) rfl ?_
                  refine X.if_ (b := !v9) (by kernel_rfl) (fun hb49 => ?_) (fun hb49 => ?_)
                  · replace hb49 := bnot_yes (hb49)
                    refine X.seq ?_
                    refine X.rk ⟨[(2, .e (.c (.d (.v (.bool false)))))], [], 1120⟩ hτ hmix (by kernel_rfl) (by kernel_rfl) rfl ?_
                    refine X.ret ?_
                    exact ⟨trivial, _, _, ⟨false, (by first | exact rfl | exact absurd rfl ‹_› | exact tf (signed_self _ _) ‹_› | exact tf (sg_has (hS ‹_›) ‹_› hH hA (by omega)) ‹_›), rfl, rfl⟩, .inl (Ret.mk' [] (by kernel_rfl) (by kernel_rfl) (by kernel_rfl))⟩
                  · replace hb49 := bnot_no (hb49)
                    refine X.skip ?_
                    refine X.rk ⟨[(3, .e (.c (.f (.sl (r5.map d87))))), (4, .e (.c (.f (.sl (r6.map dS))))), (6, .e (.c (.f (.sl ((sigsOf r7).map d87))))), (7, .e (.c (.d (.v (.bool true))))), (8, .e (.c (.d (.v (.int .i64 (wrap64 (v8 + 1)))))))], [], 1152⟩ hτ hmix (by kernel_rfl) (by kernel_rfl) (s2 := ⟨[(3, .e (.c (.f (.sl (r5.map d87))))), (4, .e (.c (.f (.sl (r6.map dS))))), (6, .e (.c (.f (.sl ((sigsOf r7).map d87))))), (7, .e (.c (.d (.v (.bool true))))), (8, .e (.c (.d (.v (.int .i64 (v8 + 1))))))], [], 1152⟩) (congrArg (fun z : Int => (⟨[(3, .e (.c (.f (.sl (r5.map d87))))), (4, .e (.c (.f (.sl (r6.map dS))))), (6, .e (.c (.f (.sl ((sigsOf r7).map d87))))), (7, .e (.c (.d (.v (.bool true))))), (8, .e (.c (.d (.v (.int .i64 z)))))], [], 1152⟩ : St)) (show wrap64 (v8 + 1) = (v8 + 1) by rw [w64 (n := (v8 + 1)) (by omega) (by omega)])) ?_
                    refine ⟨⟨(true, (v8 + 1)), ⟨by first | omega | (dsimp only; omega), by first | omega | (dsimp only; omega), fun h => by first | exact hS h | exact hS ‹_› | cases h⟩⟩, by first | exact rfl | omega | (dsimp only; omega) | (simp only [List.length_append, List.length_cons, List.length_nil, List.length_set]; omega) | (simp; done) | (simp; omega), Wk.mk' [] (by kernel_rfl) (by kernel_rfl) (by kernel_rfl)⟩
                · refine CH.alt 7 (sV (.bool (v7))) (sV (.bool false)) (by kernel_rfl) (by rw [hb48]) ?_
                  refine CH.alt 77 (sV (.bool (v7))) (sV (.bool false)) (by kernel_rfl) (by rw [hb48]) ?_
                  refine CH.alt 78 (sV (.bool (v7))) (sV (.bool false)) (by kernel_rfl) (by rw [hb48]) ?_
                  refine CH.go 3 hτ (by kernel_rfl) ?_
                  refine CH.endk ⟨[(3, .e (.c (.f (.sl (r5.map d87))))), (4, .e (.c (.f (.sl (r6.map dS))))), (6, .e (.c (.f (.sl ((sigsOf r7).map d87))))), (7, .e (.c (.d (.v (.bool false))))), (8, .e (.c (.d (.v (.int .i64 v8))))), (81, .e (.c (.d (.v (.bool false)))))], [], 1104⟩ (by kernel_rfl) (by kernel_rfl) rfl ?_
                  refine X.ifF (by kernel_rfl) ?_
                  refine X.skip ?_
                  refine X.rk ⟨[(3, .e (.c (.f (.sl (r5.map d87))))), (4, .e (.c (.f (.sl (r6.map dS))))), (6, .e (.c (.f (.sl ((sigsOf r7).map d87))))), (7, .e (.c (.d (.v (.bool false))))), (8, .e (.c (.d (.v (.int .i64 (wrap64 (v8 + 1)))))))], [], 1152⟩ hτ hmix (by kernel_rfl) (by kernel_rfl) (s2 := ⟨[(3, .e (.c (.f (.sl (r5.map d87))))), (4, .e (.c (.f (.sl (r6.map dS))))), (6, .e (.c (.f (.sl ((sigsOf r7).map d87))))), (7, .e (.c (.d (.v (.bool false))))), (8, .e (.c (.d (.v (.int .i64 (v8 + 1))))))], [], 1152⟩) (congrArg (fun z : Int => (⟨[(3, .e (.c (.f (.sl (r5.map d87))))), (4, .e (.c (.f (.sl (r6.map dS))))), (6, .e (.c (.f (.sl ((sigsOf r7).map d87))))), (7, .e (.c (.d (.v (.bool false))))), (8, .e (.c (.d (.v (.int .i64 z)))))], [], 1152⟩ : St)) (show wrap64 (v8 + 1) = (v8 + 1) by rw [w64 (n := (v8 + 1)) (by omega) (by omega)])) ?_
                  refine ⟨⟨(false, (v8 + 1)), ⟨by first | omega | (dsimp only; omega), by first | omega | (dsimp only; omega), fun h => by first | exact hS h | exact hS ‹_› | cases h⟩⟩, by first | exact rfl | omega | (dsimp only; omega) | (simp only [List.length_append, List.length_cons, List.length_nil, List.length_set]; omega) | (simp; done) | (simp; omega), Wk.mk' [] (by kernel_rfl) (by kernel_rfl) (by kernel_rfl)⟩
            · replace hb36 := of_decide_eq_false (hb36)
              refine X.exit ?_
              refine X.seq ?_
              refine X.rk ⟨[(2, .e (.c (.d (.v (.bool true)))))], [], 832⟩ hτ hmix (by kernel_rfl) (by kernel_rfl) rfl ?_
              refine X.ret ?_
              exact ⟨trivial, _, _, ⟨true, (by first | exact rfl | exact absurd rfl ‹_› | exact tf (signed_self _ _) ‹_› | exact tf (sg_has (hS ‹_›) ‹_› hH hA (by omega)) ‹_›), rfl, rfl⟩, .inl (Ret.mk' [] (by kernel_rfl) (by kernel_rfl) (by kernel_rfl))⟩
  obtain ⟨_, _, ⟨r0, q1, rfl, rfl⟩, hf⟩ := key
  exact ⟨r0, q1, hf⟩
end Go.Proofs.Ytnldeeefiidcaaa.Av
