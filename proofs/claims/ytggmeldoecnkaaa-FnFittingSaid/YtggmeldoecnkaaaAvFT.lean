/-
What functions of the program come to, walked one by one.
Conditions: none beside those that each theorem names.
-/
import Derived.Test.YtggmeldoecnkaaaAvLE
import Derived.Test.YtggmeldoecnkaaaAv37
import Derived.Test.YtggmeldoecnkaaaAvP
set_option linter.unusedVariables false
set_option linter.unusedSimpArgs false
namespace Go.Proofs.Ytggmeldoecnkaaa.Av
open Go.RowKit
set_option maxRecDepth 20000
set_option maxHeartbeats 4000000

/-- An order no older than its account. -/
def dropB (g : S27) (t : S35) : Bool := decide (0 ≤ acAt g.f1 t.f1) && (match g.f1[(acAt g.f1 t.f1).toNat]? with
  | some a => decide (a.f2 ≤ t.f4)
  | none => false)
def pdW (l : List S35) (g : S27) : List S35 := l.filter (dropB g)
theorem drop_yes {g : S27} {t : S35} {a : S38} (h : acAt g.f1 t.f1 ≥ 0) (hx : g.f1[(acAt g.f1 t.f1).toNat]? = some a) (h2 : t.f4 ≥ a.f2) : dropB g t = true := by
  unfold dropB
  rw [hx]
  have : 0 ≤ acAt g.f1 t.f1 := h
  simp only [Bool.and_eq_true, decide_eq_true_eq]
  exact ⟨this, h2⟩
theorem drop_no1 {g : S27} {t : S35} (h : ¬ acAt g.f1 t.f1 ≥ 0) : dropB g t = false := by
  unfold dropB
  rw [show decide (0 ≤ acAt g.f1 t.f1) = false from decide_eq_false h]
  rfl
theorem drop_no2 {g : S27} {t : S35} {a : S38} (hx : g.f1[(acAt g.f1 t.f1).toNat]? = some a) (h2 : ¬ t.f4 ≥ a.f2) : dropB g t = false := by
  unfold dropB
  rw [hx]
  show (_ && decide (a.f2 ≤ t.f4)) = false
  rw [show decide (a.f2 ≤ t.f4) = false from decide_eq_false h2, Bool.and_false]
section
variable {l L : List S35} {g : S27} {i : Int} {x : S35}
theorem pd_i0 : ([] : List S35) = pdW (l.take (0 : Int).toNat) g := by simp [pdW]
theorem pd_y (h0 : 0 ≤ i) (hx : l[i.toNat]? = some x) (h : L = pdW (l.take i.toNat) g) (hb : dropB g x = true) : L ++ [x] = pdW (l.take (i + 1).toNat) g := by
  rw [h, ← take_succ h0 hx]
  unfold pdW
  rw [List.filter_append, List.filter_cons_of_pos hb]
  rfl
theorem pd_n (h0 : 0 ≤ i) (hx : l[i.toNat]? = some x) (h : L = pdW (l.take i.toNat) g) (hb : dropB g x = false) : L = pdW (l.take (i + 1).toNat) g := by
  rw [h, ← take_succ h0 hx]
  unfold pdW
  rw [List.filter_append, List.filter_cons_of_neg (by simp [hb])]
  simp
theorem pd_e (h : L = pdW (l.take i.toNat) g) (hi : (l.length : Int) ≤ i) : L = pdW l g := by rw [h, take_all (by omega)]
theorem pd_len (l : List S35) (g : S27) : (pdW l g).length ≤ l.length := List.length_filter_le ..
theorem pd_mem (hx : x ∈ pdW l g) : dropB g x = true := (List.mem_filter.1 hx).2
theorem dropB_at (h : dropB g x = true) : ¬ acAt g.f1 x.f1 < 0 ∧ ∀ a, g.f1[(acAt g.f1 x.f1).toNat]? = some a → ¬ x.f4 < a.f2 := by
  unfold dropB at h
  simp only [Bool.and_eq_true, decide_eq_true_eq] at h
  refine ⟨by omega, fun a ha => ?_⟩
  have h2 := h.2
  rw [ha] at h2
  have h2 : decide (a.f2 ≤ x.f4) = true := h2
  simp only [decide_eq_true_eq] at h2
  omega
end
/-- Orders that fit, one behind the other; the ledger behind orders. -/
noncomputable def fitW (g : S27) : List S35 → List S35
  | [] => []
  | t :: l => if (apW g t).2 = 0 then t :: fitW (apW g t).1 l else fitW (apW g t).1 l
noncomputable def allW (g : S27) : List S35 → S27
  | [] => g
  | t :: l => allW (apW g t).1 l
theorem fit_len (g : S27) (l : List S35) : (fitW g l).length ≤ l.length := by
  induction l generalizing g with
  | nil => exact Nat.le_refl _
  | cons t l ih =>
    unfold fitW
    have := ih (apW g t).1
    split <;> simp <;> omega
theorem fit_sm {p : S35 → Prop} (g : S27) {l : List S35} (h : ∀ x, x ∈ l → p x) : ∀ x, x ∈ fitW g l → p x := by
  induction l generalizing g with
  | nil => intro x hx; cases hx
  | cons t l ih =>
    have ih := ih (apW g t).1 (fun x hx => h x (List.mem_cons_of_mem _ hx))
    unfold fitW
    intro x hx
    split at hx
    · rcases List.mem_cons.1 hx with rfl | hx
      · exact h _ List.mem_cons_self
      · exact ih x hx
    · exact ih x hx
/-- Those that fit fit again. -/
theorem fit_fit (g : S27) (l : List S35) : fitW g (fitW g l) = fitW g l := by
  induction l generalizing g with
  | nil => rfl
  | cons t l ih =>
    have ih := ih (apW g t).1
    by_cases h : (apW g t).2 = 0
    · have e : fitW g (t :: l) = t :: fitW (apW g t).1 l := by conv => lhs; unfold fitW
                                                               rw [if_pos h]
      rw [e]
      conv => lhs; unfold fitW
      rw [if_pos h, ih]
    · have hg : (apW g t).1 = g := by
        rcases ap_cases g t with ⟨h1, _⟩ | ⟨h1, _⟩
        · exact h1
        · exact absurd h1 h
      have e : fitW g (t :: l) = fitW g l := by conv => lhs; unfold fitW
                                                rw [if_neg h, hg]
      rw [e]
      rw [hg] at ih
      exact ih
section
variable {l L : List S35} {g g' : S27} {i n : Int} {x : S35}
def fitI (l : List S35) (g : S27) (L : List S35) (g' : S27) (i : Int) : Prop := L ++ fitW g' (l.drop i.toNat) = fitW g l ∧ allW g' (l.drop i.toNat) = allW g l ∧ L.length ≤ i.toNat
theorem fi_i0 : fitI l g [] g 0 := ⟨by simp, by simp, Nat.zero_le _⟩
theorem fi_y (h0 : 0 ≤ i) (hx : l[i.toNat]? = some x) (h : fitI l g L g' i) (hb : (apW g' x).2 = 0) : fitI l g (L ++ [x]) (apW g' x).1 (i + 1) := by
  obtain ⟨h1, h2, h3⟩ := h
  obtain ⟨hl, e⟩ := List.getElem?_eq_some_iff.1 hx
  have ed : l.drop i.toNat = x :: l.drop (i + 1).toNat := by rw [List.drop_eq_getElem_cons hl, e, show (i + 1).toNat = i.toNat + 1 by omega]
  rw [ed] at h1 h2
  refine ⟨?_, ?_, by simp; omega⟩
  · rw [← h1, List.append_assoc]
    conv => rhs; rhs; unfold fitW
    rw [if_pos hb]
    rfl
  · rw [← h2]; rfl
theorem fi_n (h0 : 0 ≤ i) (hx : l[i.toNat]? = some x) (h : fitI l g L g' i) (hb : (apW g' x).2 ≠ 0) : fitI l g L (apW g' x).1 (i + 1) := by
  obtain ⟨h1, h2, h3⟩ := h
  obtain ⟨hl, e⟩ := List.getElem?_eq_some_iff.1 hx
  have ed : l.drop i.toNat = x :: l.drop (i + 1).toNat := by rw [List.drop_eq_getElem_cons hl, e, show (i + 1).toNat = i.toNat + 1 by omega]
  rw [ed] at h1 h2
  refine ⟨?_, ?_, by omega⟩
  · rw [← h1]
    conv => rhs; rhs; unfold fitW
    rw [if_neg hb]
  · rw [← h2]; rfl
theorem fi_e (h : fitI l g L g' i) (hi : (l.length : Int) ≤ i) : L = fitW g l := by
  have := h.1
  rw [List.drop_eq_nil_of_le (by omega)] at this
  rw [← this]
  simp [fitW]
theorem fi_e2 (h : fitI l g L g' i) (hi : (l.length : Int) ≤ i) : g' = allW g l := by
  have := h.2.1
  rw [List.drop_eq_nil_of_le (by omega)] at this
  exact this
def cntI (l : List S35) (g : S27) (n : Int) (g' : S27) (i : Int) : Prop := ∃ L, n = (L.length : Int) ∧ fitI l g L g' i
theorem cn_i0 : cntI l g 0 g 0 := ⟨[], rfl, fi_i0⟩
theorem cn_y (h0 : 0 ≤ i) (hx : l[i.toNat]? = some x) (h : cntI l g n g' i) (hb : (apW g' x).2 = 0) : cntI l g (n + 1) (apW g' x).1 (i + 1) := by
  obtain ⟨L, rfl, h⟩ := h
  exact ⟨_, by simp, fi_y h0 hx h hb⟩
theorem cn_n (h0 : 0 ≤ i) (hx : l[i.toNat]? = some x) (h : cntI l g n g' i) (hb : (apW g' x).2 ≠ 0) : cntI l g n (apW g' x).1 (i + 1) := by
  obtain ⟨L, rfl, h⟩ := h
  exact ⟨_, rfl, fi_n h0 hx h hb⟩
theorem cn_e (h : cntI l g n g' i) (hi : (l.length : Int) ≤ i) : g' = allW g l ∧ n = ((fitW g l).length : Int) := by
  obtain ⟨L, rfl, h⟩ := h
  exact ⟨fi_e2 h hi, by rw [fi_e h hi]⟩
theorem cn_bd (h : cntI l g n g' i) : 0 ≤ n ∧ n ≤ (i.toNat : Int) := by
  obtain ⟨L, rfl, h⟩ := h
  have := h.2.2
  omega
end
def acS3 (n : Nat) (a : S38) : Prop := SmS a.f0 ∧ a.f4.length ≤ n
theorem acS3_sm {n : Nat} {l : List S38} {k : Nat} (hk : l.length ≤ k) (hk2 : k ≤ 2000000) (hn : n ≤ 2000000) (h : ∀ x, x ∈ l → acS3 n x) : acsSm l := ⟨by omega, fun x hx => ⟨(h x hx).1, by have := (h x hx).2; omega⟩⟩
theorem acS3_up {n m : Nat} {l : List S38} (hn : n ≤ m) (h : ∀ x, x ∈ l → acS3 n x) : ∀ x, x ∈ l → acS3 m x := fun x hx => ⟨(h x hx).1, by have := (h x hx).2; omega⟩
theorem s_l4Acct (bs : List Int) (i0 : Int) (h0 : Int) (hl : bs.length ≤ 4611686018427387904) (hi : 0 ≤ i0 ∧ i0 ≤ bs.length) (s : ByteArray) (hs : SmS s) : ∃ r0 : S38, ∃ i1 : Int, ∃ h1 : Int, (acS3 3 r0) ∧ (0 ≤ i1 ∧ i1 ≤ bs.length) ∧ Fn Try.prog 157 [.pt 0 0 0, .e (.c (.d (.v (.string s))))] (lookH [(0, some (.box [.k 0 (.sl (bs.map dB)), .k 1 (.v (.int .i64 i0)), .k 2 (.v (.int .i64 h0))]))]) (.e (.agg [.d (.v (.string r0.f0)), .d (.v (.int .i64 r0.f1)), .d (.v (.int .i64 r0.f2)), .d (.v (.int .i64 r0.f3)), .ref 64])) (lookH [(0, some (.box [.k 0 (.sl (bs.map dB)), .d (.v (.int .i64 i1)), .d (.v (.int .i64 h1))])), (64, some (.row 2 188 (r0.f4.map d188) false true))]) := by
 have key : ∃ x' h', ((fun x' h' => ∃ r0 : S38, ∃ i1 : Int, ∃ h1 : Int, (acS3 3 r0) ∧ (0 ≤ i1 ∧ i1 ≤ bs.length) ∧ x' = .e (.agg [.d (.v (.string r0.f0)), .d (.v (.int .i64 r0.f1)), .d (.v (.int .i64 r0.f2)), .d (.v (.int .i64 r0.f3)), .ref 64]) ∧ h' = [(0, some (.box [.k 0 (.sl (bs.map dB)), .d (.v (.int .i64 i1)), .d (.v (.int .i64 h1))])), (64, some (.row 2 188 (r0.f4.map d188) false true))])) x' h' ∧ Fn Try.prog 157 [.pt 0 0 0, .e (.c (.d (.v (.string s))))] (lookH [(0, some (.box [.k 0 (.sl (bs.map dB)), .k 1 (.v (.int .i64 i0)), .k 2 (.v (.int .i64 h0))]))]) x' (lookH h') := by
  refine Fn.bodyX (N := 35) hτ Try.func157 rfl rfl rfl rfl ?_
  refine sk ⟨[(0, .pt 0 0 0), (1, .e (.c (.d (.v (.string s))))), (4, .pt 64 0 0)], [(0, some (.box [.k 0 (.sl (bs.map dB)), .d (.v (.int .i64 i0)), .d (.v (.int .i64 h0))])), (64, some (.box [.d (.v (.string (⟨#[]⟩ : ByteArray))), .d (.v (.int .i64 0)), .d (.v (.int .i64 0)), .d (.v (.int .i64 0)), .nil]))], 80⟩ ?_
  refine X.seq (rs 3 ?_)
  obtain ⟨r1, i4, h5, hr3, hi6, hf2⟩ := s_l1Int bs i0 h0 (by first | assumption | omega) (by omega) ([0, 10, 100, 5] : List Int) (by first | omega | (simp; done) | (simp; omega))
  have hmi := hr3
  refine CH.call hf2 Try.func109 ⟨rfl, rfl⟩ [(0, 0)] (by kernel_rfl) (by kernel_rfl) (by kernel_rfl) (by kernel_rfl) ?_
  refine go 1 ?_
  obtain ⟨r7, i10, h11, hr9, hi12, hf8⟩ := s_l1Below bs i4 h5 (by first | assumption | omega) (by omega) 3
  obtain ⟨_, _⟩ := hr9
  refine CH.call hf8 Try.func108 ⟨rfl, rfl⟩ [(0, 0)] (by kernel_rfl) (by kernel_rfl) (by kernel_rfl) (by kernel_rfl) ?_
  refine go 2 ?_
  obtain ⟨r13, i16, h17, hr15, hi18, hf14⟩ := s_l1Int bs i10 h11 (by first | assumption | omega) (by omega) ([10, 10, 0, 4, 5, 30] : List Int) (by first | omega | (simp; done) | (simp; omega))
  have hmi := hr15
  refine CH.call hf14 Try.func109 ⟨rfl, rfl⟩ [(0, 0)] (by kernel_rfl) (by kernel_rfl) (by kernel_rfl) (by kernel_rfl) ?_
  refine go 3 ?_
  refine ek ⟨[(0, .pt 0 0 0), (4, .pt 64 0 0), (5, .pt 240 0 0)], [(0, some (.box [.k 0 (.sl (bs.map dB)), .d (.v (.int .i64 i16)), .d (.v (.int .i64 h17))])), (64, some (.box [.d (.v (.string (⟨#[]⟩ : ByteArray))), .d (.v (.int .i64 0)), .d (.v (.int .i64 0)), .d (.v (.int .i64 0)), .nil])), (240, some (.box [.d (.v (.string s)), .d (.v (.int .i64 r1)), .d (.v (.int .i64 r7)), .d (.v (.int .i64 r13)), .nil]))], 272⟩ ?_
  refine X.seq ?_
  refine sk ⟨[(0, .pt 0 0 0), (4, .pt 64 0 0), (5, .pt 240 0 0), (6, iV 0)], [(0, some (.box [.k 0 (.sl (bs.map dB)), .d (.v (.int .i64 i16)), .d (.v (.int .i64 h17))])), (64, some (.box [.d (.v (.string (⟨#[]⟩ : ByteArray))), .d (.v (.int .i64 0)), .d (.v (.int .i64 0)), .d (.v (.int .i64 0)), .nil])), (240, some (.box [.d (.v (.string s)), .d (.v (.int .i64 r1)), .d (.v (.int .i64 r7)), .d (.v (.int .i64 r13)), .nil]))], 288⟩ ?_
  refine X.block ?_
  refine X.weak (Wk.ownB 240 [.d (.v (.string s)), .d (.v (.int .i64 r1)), .d (.v (.int .i64 r7)), .d (.v (.int .i64 r13)), .nil] 4 2 188 (by kernel_rfl) rfl (by kernel_rfl) (by kernel_rfl)) ?_
  -- 3: c0_1 : Int, c0_2 : Int, Lc240_4 : List S188, v6 : Int
  refine X.loop (σ := { g : Int × Int × (List S188) × Int // (fun (c0_1 : Int) (c0_2 : Int) (Lc240_4 : List S188) (v6 : Int) => (0 ≤ c0_1 ∧ c0_1 ≤ bs.length) ∧ (0 ≤ v6 ∧ v6 ≤ 3 ∧ SmS s ∧ (Lc240_4.length : Int) ≤ v6)) g.1 g.2.1 g.2.2.1 g.2.2.2 }) (fun g => (fun (c0_1 : Int) (c0_2 : Int) (Lc240_4 : List S188) (v6 : Int) => ⟨[(0, .pt 0 0 0), (4, .pt 64 0 0), (5, .pt 240 0 0), (6, iV v6)], [(0, some (.box [.k 0 (.sl (bs.map dB)), .d (.v (.int .i64 c0_1)), .d (.v (.int .i64 c0_2))])), (64, some (.box [.d (.v (.string (⟨#[]⟩ : ByteArray))), .d (.v (.int .i64 0)), .d (.v (.int .i64 0)), .d (.v (.int .i64 0)), .nil])), (240, some (.box [.d (.v (.string s)), .d (.v (.int .i64 r1)), .d (.v (.int .i64 r7)), .d (.v (.int .i64 r13)), .ref 288])), (288, some (.row 2 188 (Lc240_4.map d188) false true))], 304⟩) g.1.1 g.1.2.1 g.1.2.2.1 g.1.2.2.2) (fun g => (fun (c0_1 : Int) (c0_2 : Int) (Lc240_4 : List S188) (v6 : Int) => (3 - v6).toNat) g.1.1 g.1.2.1 g.1.2.2.1 g.1.2.2.2) ⟨(i16, h17, [], 0), ⟨by first | omega | (dsimp only; omega), ⟨by first | omega | (dsimp only; omega), by first | omega | (dsimp only; omega), hs, by simp⟩⟩⟩ (Wk.less (by kernel_rfl)) (fun g => ?_)
  obtain ⟨⟨c0_1, c0_2, Lc240_4, v6⟩, hg20⟩ := g
  have hg20 : (0 ≤ c0_1 ∧ c0_1 ≤ bs.length) ∧ (0 ≤ v6 ∧ v6 ≤ 3 ∧ SmS s ∧ (Lc240_4.length : Int) ≤ v6) := hg20
  obtain ⟨⟨_, _⟩, ⟨_, _, hF, _⟩⟩ := hg20
  refine X.seq ?_
  refine sk ⟨[(0, .pt 0 0 0), (4, .pt 64 0 0), (5, .pt 240 0 0), (6, iV v6), (18, bV (decide ((v6 : Int) < 3)))], [(0, some (.box [.k 0 (.sl (bs.map dB)), .d (.v (.int .i64 c0_1)), .d (.v (.int .i64 c0_2))])), (64, some (.box [.d (.v (.string (⟨#[]⟩ : ByteArray))), .d (.v (.int .i64 0)), .d (.v (.int .i64 0)), .d (.v (.int .i64 0)), .nil])), (240, some (.box [.d (.v (.string s)), .d (.v (.int .i64 r1)), .d (.v (.int .i64 r7)), .d (.v (.int .i64 r13)), .ref 288])), (288, some (.row 2 188 (Lc240_4.map d188) false true))], 336⟩ ?_
  refine if_ (b := decide ((v6 : Int) < 3)) (fun hb21 => ?_) (fun hb21 => ?_)
  ·replace hb21 := of_decide_eq_true (hb21)
   refine X.skip ?_
   refine X.seq ?_
   refine X.block ?_
   refine X.seq (rs 1 ?_)
   obtain ⟨r22, i25, h26, hr24, hi27, hf23⟩ := s_l1Once bs c0_1 c0_2 (by first | assumption | omega) (by omega) 4
   refine CH.call hf23 Try.func44 ⟨rfl, rfl⟩ [(0, 0)] (by kernel_rfl) (by kernel_rfl) (by kernel_rfl) (by kernel_rfl) ?_
   refine ek ⟨[(0, .pt 0 0 0), (4, .pt 64 0 0), (5, .pt 240 0 0), (6, iV v6), (22, bV r22)], [(0, some (.box [.k 0 (.sl (bs.map dB)), .d (.v (.int .i64 i25)), .d (.v (.int .i64 h26))])), (64, some (.box [.d (.v (.string (⟨#[]⟩ : ByteArray))), .d (.v (.int .i64 0)), .d (.v (.int .i64 0)), .d (.v (.int .i64 0)), .nil])), (240, some (.box [.d (.v (.string s)), .d (.v (.int .i64 r1)), .d (.v (.int .i64 r7)), .d (.v (.int .i64 r13)), .ref 288])), (288, some (.row 2 188 (Lc240_4.map d188) false true))], 368⟩ ?_
   refine if_ (b := r22) (fun hb28 => ?_) (fun hb28 => ?_)
   ·refine rs 3 ?_
    obtain ⟨r29, i32, h33, hr31, hi34, hf30⟩ := s_l1Below bs i25 h26 (by first | assumption | omega) (by omega) 9
    obtain ⟨_, _⟩ := hr31
    refine CH.call hf30 Try.func108 ⟨rfl, rfl⟩ [(0, 0)] (by kernel_rfl) (by kernel_rfl) (by kernel_rfl) (by kernel_rfl) ?_
    refine go 5 ?_
    have el35 : (Lc240_4.map d188).length = Lc240_4.length := List.length_map ..
    have el36 : (([(⟨wrap64 (1 + r29), wrap64 (v6 + 1)⟩ : S188)] : List S188).map d188).length = ([(⟨wrap64 (1 + r29), wrap64 (v6 + 1)⟩ : S188)] : List S188).length := List.length_map ..
    have el37 : ([(⟨wrap64 (1 + r29), wrap64 (v6 + 1)⟩ : S188)] : List S188).length = 1 := rfl
    refine CH.app hτ (rows := (Lc240_4.map d188)) (rows2 := (([(⟨wrap64 (1 + r29), wrap64 (v6 + 1)⟩ : S188)] : List S188).map d188)) (sz := 2) (bys := 16) true (by kernel_rfl) (by kernel_rfl) (fun _ => flat_d d188 (fun x => rfl)) (flat_ok (f := d188) (fun x => rfl)) (by simp only [List.length_map] <;> (first | done | omega | (simp; done) | (simp; omega))) (by kernel_rfl) ?_
    refine go 2 ?_
    refine CH.endk ⟨[(0, .pt 0 0 0), (4, .pt 64 0 0), (5, .pt 240 0 0), (6, iV v6)], [(0, some (.box [.k 0 (.sl (bs.map dB)), .d (.v (.int .i64 i32)), .d (.v (.int .i64 h33))])), (64, some (.box [.d (.v (.string (⟨#[]⟩ : ByteArray))), .d (.v (.int .i64 0)), .d (.v (.int .i64 0)), .d (.v (.int .i64 0)), .nil])), (240, some (.box [.d (.v (.string s)), .d (.v (.int .i64 r1)), .d (.v (.int .i64 r7)), .d (.v (.int .i64 r13)), .ref 512])), (512, some (.row 2 188 ((Lc240_4.map d188) ++ (([(⟨wrap64 (1 + r29), wrap64 (v6 + 1)⟩ : S188)] : List S188).map d188)) false true))], 560⟩ (by kernel_rfl) (by kernel_rfl) (s2 := ⟨[(0, .pt 0 0 0), (4, .pt 64 0 0), (5, .pt 240 0 0), (6, iV v6)], [(0, some (.box [.k 0 (.sl (bs.map dB)), .d (.v (.int .i64 i32)), .d (.v (.int .i64 h33))])), (64, some (.box [.d (.v (.string (⟨#[]⟩ : ByteArray))), .d (.v (.int .i64 0)), .d (.v (.int .i64 0)), .d (.v (.int .i64 0)), .nil])), (240, some (.box [.d (.v (.string s)), .d (.v (.int .i64 r1)), .d (.v (.int .i64 r7)), .d (.v (.int .i64 r13)), .ref 512])), (512, some (.row 2 188 ((Lc240_4 ++ ([(⟨wrap64 (1 + r29), wrap64 (v6 + 1)⟩ : S188)] : List S188)).map d188) false true))], 560⟩) (congrArg (fun z : List (List D) => (⟨[(0, .pt 0 0 0), (4, .pt 64 0 0), (5, .pt 240 0 0), (6, iV v6)], [(0, some (.box [.k 0 (.sl (bs.map dB)), .d (.v (.int .i64 i32)), .d (.v (.int .i64 h33))])), (64, some (.box [.d (.v (.string (⟨#[]⟩ : ByteArray))), .d (.v (.int .i64 0)), .d (.v (.int .i64 0)), .d (.v (.int .i64 0)), .nil])), (240, some (.box [.d (.v (.string s)), .d (.v (.int .i64 r1)), .d (.v (.int .i64 r7)), .d (.v (.int .i64 r13)), .ref 512])), (512, some (.row 2 188 z false true))], 560⟩ : St)) (show (Lc240_4.map d188) ++ (([(⟨wrap64 (1 + r29), wrap64 (v6 + 1)⟩ : S188)] : List S188).map d188) = ((Lc240_4 ++ ([(⟨wrap64 (1 + r29), wrap64 (v6 + 1)⟩ : S188)] : List S188)).map d188) from List.map_append.symm)) ?_
    refine X.rk ⟨[(0, .pt 0 0 0), (4, .pt 64 0 0), (5, .pt 240 0 0), (6, iV (wrap64 (v6 + 1)))], [(0, some (.box [.k 0 (.sl (bs.map dB)), .d (.v (.int .i64 i32)), .d (.v (.int .i64 h33))])), (64, some (.box [.d (.v (.string (⟨#[]⟩ : ByteArray))), .d (.v (.int .i64 0)), .d (.v (.int .i64 0)), .d (.v (.int .i64 0)), .nil])), (240, some (.box [.d (.v (.string s)), .d (.v (.int .i64 r1)), .d (.v (.int .i64 r7)), .d (.v (.int .i64 r13)), .ref 512])), (512, some (.row 2 188 ((Lc240_4 ++ ([(⟨wrap64 (1 + r29), wrap64 (v6 + 1)⟩ : S188)] : List S188)).map d188) false true))], 608⟩ hτ hmix (by kernel_rfl) (by kernel_rfl) (s2 := ⟨[(0, .pt 0 0 0), (4, .pt 64 0 0), (5, .pt 240 0 0), (6, iV (v6 + 1))], [(0, some (.box [.k 0 (.sl (bs.map dB)), .d (.v (.int .i64 i32)), .d (.v (.int .i64 h33))])), (64, some (.box [.d (.v (.string (⟨#[]⟩ : ByteArray))), .d (.v (.int .i64 0)), .d (.v (.int .i64 0)), .d (.v (.int .i64 0)), .nil])), (240, some (.box [.d (.v (.string s)), .d (.v (.int .i64 r1)), .d (.v (.int .i64 r7)), .d (.v (.int .i64 r13)), .ref 512])), (512, some (.row 2 188 ((Lc240_4 ++ ([(⟨wrap64 (1 + r29), wrap64 (v6 + 1)⟩ : S188)] : List S188)).map d188) false true))], 608⟩) (congrArg (fun z : Int => (⟨[(0, .pt 0 0 0), (4, .pt 64 0 0), (5, .pt 240 0 0), (6, iV z)], [(0, some (.box [.k 0 (.sl (bs.map dB)), .d (.v (.int .i64 i32)), .d (.v (.int .i64 h33))])), (64, some (.box [.d (.v (.string (⟨#[]⟩ : ByteArray))), .d (.v (.int .i64 0)), .d (.v (.int .i64 0)), .d (.v (.int .i64 0)), .nil])), (240, some (.box [.d (.v (.string s)), .d (.v (.int .i64 r1)), .d (.v (.int .i64 r7)), .d (.v (.int .i64 r13)), .ref 512])), (512, some (.row 2 188 ((Lc240_4 ++ ([(⟨wrap64 (1 + r29), wrap64 (v6 + 1)⟩ : S188)] : List S188)).map d188) false true))], 608⟩ : St)) (show wrap64 (v6 + 1) = (v6 + 1) by rw [w64 (n := (v6 + 1)) (by omega) (by omega)])) ?_
    refine ⟨⟨(i32, h33, (Lc240_4 ++ ([(⟨wrap64 (1 + r29), wrap64 (v6 + 1)⟩ : S188)] : List S188)), (v6 + 1)), ⟨by first | omega | (dsimp only; omega), ⟨by first | omega | (dsimp only; omega), by first | omega | (dsimp only; omega), hF, by first | omega | (simp only [List.length_append, List.length_cons, List.length_nil]; (first | omega | (dsimp only; omega)))⟩⟩⟩, by first | exact rfl | omega | (dsimp only; omega) | (simp only [List.length_append, List.length_cons, List.length_nil, List.length_set]; omega) | (simp; done) | (simp; omega), Wk.mk' [(64, 64), (240, 240), (288, 512)] (by kernel_rfl) (by kernel_rfl) (by kernel_rfl)⟩
   ·refine X.skip ?_
    refine X.rk ⟨[(0, .pt 0 0 0), (4, .pt 64 0 0), (5, .pt 240 0 0), (6, iV (wrap64 (v6 + 1)))], [(0, some (.box [.k 0 (.sl (bs.map dB)), .d (.v (.int .i64 i25)), .d (.v (.int .i64 h26))])), (64, some (.box [.d (.v (.string (⟨#[]⟩ : ByteArray))), .d (.v (.int .i64 0)), .d (.v (.int .i64 0)), .d (.v (.int .i64 0)), .nil])), (240, some (.box [.d (.v (.string s)), .d (.v (.int .i64 r1)), .d (.v (.int .i64 r7)), .d (.v (.int .i64 r13)), .ref 288])), (288, some (.row 2 188 (Lc240_4.map d188) false true))], 416⟩ hτ hmix (by kernel_rfl) (by kernel_rfl) (s2 := ⟨[(0, .pt 0 0 0), (4, .pt 64 0 0), (5, .pt 240 0 0), (6, iV (v6 + 1))], [(0, some (.box [.k 0 (.sl (bs.map dB)), .d (.v (.int .i64 i25)), .d (.v (.int .i64 h26))])), (64, some (.box [.d (.v (.string (⟨#[]⟩ : ByteArray))), .d (.v (.int .i64 0)), .d (.v (.int .i64 0)), .d (.v (.int .i64 0)), .nil])), (240, some (.box [.d (.v (.string s)), .d (.v (.int .i64 r1)), .d (.v (.int .i64 r7)), .d (.v (.int .i64 r13)), .ref 288])), (288, some (.row 2 188 (Lc240_4.map d188) false true))], 416⟩) (congrArg (fun z : Int => (⟨[(0, .pt 0 0 0), (4, .pt 64 0 0), (5, .pt 240 0 0), (6, iV z)], [(0, some (.box [.k 0 (.sl (bs.map dB)), .d (.v (.int .i64 i25)), .d (.v (.int .i64 h26))])), (64, some (.box [.d (.v (.string (⟨#[]⟩ : ByteArray))), .d (.v (.int .i64 0)), .d (.v (.int .i64 0)), .d (.v (.int .i64 0)), .nil])), (240, some (.box [.d (.v (.string s)), .d (.v (.int .i64 r1)), .d (.v (.int .i64 r7)), .d (.v (.int .i64 r13)), .ref 288])), (288, some (.row 2 188 (Lc240_4.map d188) false true))], 416⟩ : St)) (show wrap64 (v6 + 1) = (v6 + 1) by rw [w64 (n := (v6 + 1)) (by omega) (by omega)])) ?_
    refine ⟨⟨(i25, h26, Lc240_4, (v6 + 1)), ⟨by first | omega | (dsimp only; omega), ⟨by first | omega | (dsimp only; omega), by first | omega | (dsimp only; omega), hF, by first | omega | (simp only [List.length_append, List.length_cons, List.length_nil]; (first | omega | (dsimp only; omega)))⟩⟩⟩, by first | exact rfl | omega | (dsimp only; omega) | (simp only [List.length_append, List.length_cons, List.length_nil, List.length_set]; omega) | (simp; done) | (simp; omega), Wk.mk' [(64, 64), (240, 240), (288, 288)] (by kernel_rfl) (by kernel_rfl) (by kernel_rfl)⟩
  ·replace hb21 := of_decide_eq_false (hb21)
   refine X.exit ?_
   refine sk ⟨[(4, .pt 64 0 0)], [(0, some (.box [.k 0 (.sl (bs.map dB)), .d (.v (.int .i64 c0_1)), .d (.v (.int .i64 c0_2))])), (64, some (.box [.d (.v (.string s)), .d (.v (.int .i64 r1)), .d (.v (.int .i64 r7)), .d (.v (.int .i64 r13)), .ref 288])), (288, some (.row 2 188 (Lc240_4.map d188) false true))], 368⟩ ?_
   refine X.ret ?_
   exact ⟨trivial, _, _, ⟨(⟨s, r1, r7, r13, Lc240_4⟩ : S38), c0_1, c0_2, ⟨hF, by dsimp only; omega⟩, (by omega), rfl, rfl⟩, .inl (Ret.mk' [(64, 288)] (by kernel_rfl) (by kernel_rfl) (by kernel_rfl))⟩
 obtain ⟨_, _, ⟨r0, i1, h1, h1_, h2_, rfl, rfl⟩, hf⟩ := key
 exact ⟨r0, i1, h1, h1_, h2_, hf⟩

theorem s_l4Draw (bs : List Int) (i0 : Int) (h0 : Int) (hl : bs.length ≤ 4611686018427387904) (hi : 0 ≤ i0 ∧ i0 ≤ bs.length)  : ∃ r0 : List S38, ∃ i1 : Int, ∃ h1 : Int, (r0.length ≤ 5 ∧ ∀ x, x ∈ r0 → acS3 3 x) ∧ (0 ≤ i1 ∧ i1 ≤ bs.length) ∧ Fn Try.prog 155 [.pt 0 0 0] (lookH [(0, some (.box [.k 0 (.sl (bs.map dB)), .k 1 (.v (.int .i64 i0)), .k 2 (.v (.int .i64 h0))]))]) (rV 64) (lookH [(0, some (.box [.k 0 (.sl (bs.map dB)), .d (.v (.int .i64 i1)), .d (.v (.int .i64 h1))])), (64, some (.nst 5 38 [(4, 2, 188)] (r0.map d38) []))]) := by
 have key : ∃ x' h', ((fun x' h' => ∃ r0 : List S38, ∃ i1 : Int, ∃ h1 : Int, (r0.length ≤ 5 ∧ ∀ x, x ∈ r0 → acS3 3 x) ∧ (0 ≤ i1 ∧ i1 ≤ bs.length) ∧ x' = rV 64 ∧ h' = [(0, some (.box [.k 0 (.sl (bs.map dB)), .d (.v (.int .i64 i1)), .d (.v (.int .i64 h1))])), (64, some (.nst 5 38 [(4, 2, 188)] (r0.map d38) []))])) x' h' ∧ Fn Try.prog 155 [.pt 0 0 0] (lookH [(0, some (.box [.k 0 (.sl (bs.map dB)), .k 1 (.v (.int .i64 i0)), .k 2 (.v (.int .i64 h0))]))]) x' (lookH h') := by
  refine Fn.bodyX (N := 25) hτ Try.func155 rfl rfl rfl rfl ?_
  refine sk ⟨[(0, .pt 0 0 0)], [(0, some (.box [.k 0 (.sl (bs.map dB)), .d (.v (.int .i64 i0)), .d (.v (.int .i64 h0))]))], 80⟩ ?_
  refine sk ⟨[(0, .pt 0 0 0), (3, rV 80)], [(0, some (.box [.k 0 (.sl (bs.map dB)), .d (.v (.int .i64 i0)), .d (.v (.int .i64 h0))])), (80, some (.row 5 38 [] false true))], 112⟩ ?_
  refine X.weak (Wk.emN 80 5 38 [(4, 2, 188)] (by kernel_rfl) (by kernel_rfl)) ?_
  refine X.seq (rs 1 ?_)
  obtain ⟨r1, i4, h5, hr3, hi6, hf2⟩ := s_l1Names bs i0 h0 (by first | assumption | omega) (by omega)
  obtain ⟨hnl, hns⟩ := hr3
  refine CH.call hf2 Try.func184 ⟨rfl, rfl⟩ [(0, 0)] (by kernel_rfl) (by kernel_rfl) (by kernel_rfl) (by kernel_rfl) ?_
  refine go 1 ?_
  refine ek ⟨[(0, .pt 0 0 0), (3, rV 80), (4, rV 128)], [(0, some (.box [.k 0 (.sl (bs.map dB)), .d (.v (.int .i64 i4)), .d (.v (.int .i64 h5))])), (80, some (.nst 5 38 [(4, 2, 188)] [] [])), (128, some (.row 1 9 (r1.map dS) false true))], 160⟩ ?_
  refine X.seq ?_
  refine sk ⟨[(0, .pt 0 0 0), (3, rV 80), (4, rV 128), (5, iV 0)], [(0, some (.box [.k 0 (.sl (bs.map dB)), .d (.v (.int .i64 i4)), .d (.v (.int .i64 h5))])), (80, some (.nst 5 38 [(4, 2, 188)] [] [])), (128, some (.row 1 9 (r1.map dS) false true))], 176⟩ ?_
  refine X.block ?_
  -- 4: c0_1 : Int, c0_2 : Int, Lv3 : List S38, v5 : Int
  refine X.loop (σ := { g : Int × Int × (List S38) × Int // (fun (c0_1 : Int) (c0_2 : Int) (Lv3 : List S38) (v5 : Int) => (0 ≤ c0_1 ∧ c0_1 ≤ bs.length) ∧ (0 ≤ v5 ∧ v5 ≤ 5 ∧ (Lv3.length : Int) ≤ v5 ∧ ∀ x, x ∈ Lv3 → acS3 3 x)) g.1 g.2.1 g.2.2.1 g.2.2.2 }) (fun g => (fun (c0_1 : Int) (c0_2 : Int) (Lv3 : List S38) (v5 : Int) => ⟨[(0, .pt 0 0 0), (3, rV 80), (4, rV 128), (5, iV v5)], [(0, some (.box [.k 0 (.sl (bs.map dB)), .d (.v (.int .i64 c0_1)), .d (.v (.int .i64 c0_2))])), (80, some (.nst 5 38 [(4, 2, 188)] (Lv3.map d38) [])), (128, some (.row 1 9 (r1.map dS) false true))], 176⟩) g.1.1 g.1.2.1 g.1.2.2.1 g.1.2.2.2) (fun g => (fun (c0_1 : Int) (c0_2 : Int) (Lv3 : List S38) (v5 : Int) => (5 - v5).toNat) g.1.1 g.1.2.1 g.1.2.2.1 g.1.2.2.2) ⟨(i4, h5, [], 0), ⟨by first | omega | (dsimp only; omega), ⟨by first | omega | (dsimp only; omega), by first | omega | (dsimp only; omega), by simp, all_nil⟩⟩⟩ (Wk.less (by kernel_rfl)) (fun g => ?_)
  obtain ⟨⟨c0_1, c0_2, Lv3, v5⟩, hg8⟩ := g
  have hg8 : (0 ≤ c0_1 ∧ c0_1 ≤ bs.length) ∧ (0 ≤ v5 ∧ v5 ≤ 5 ∧ (Lv3.length : Int) ≤ v5 ∧ ∀ x, x ∈ Lv3 → acS3 3 x) := hg8
  obtain ⟨⟨_, _⟩, ⟨_, _, _, hA⟩⟩ := hg8
  refine X.seq ?_
  refine X.seq ?_
  have el9 : (r1.map dS).length = r1.length := List.length_map ..
  refine rk ⟨[(0, .pt 0 0 0), (3, rV 80), (4, rV 128), (5, iV v5), (12, bV (decide ((v5 : Int) < ((r1.map dS).length : Int))))], [(0, some (.box [.k 0 (.sl (bs.map dB)), .d (.v (.int .i64 c0_1)), .d (.v (.int .i64 c0_2))])), (80, some (.nst 5 38 [(4, 2, 188)] (Lv3.map d38) [])), (128, some (.row 1 9 (r1.map dS) false true))], 240⟩ ?_
  refine if_ (b := decide ((v5 : Int) < ((r1.map dS).length : Int))) (fun hb10 => ?_) (fun hb10 => ?_)
  ·replace hb10 := of_decide_eq_true (hb10)
   refine X.skip ?_
   refine X.seq ?_
   refine X.block ?_
   refine rs 4 ?_
   refine CH.idxR hτ (rows := (r1.map dS)) (n := v5) (b := 128) (by kernel_rfl) (by kernel_rfl) (by first | omega | (simp; done) | (simp; omega)) (by simp only [List.length_map, List.length_set]; first | omega | (simp; done) | (simp; omega)) (by kernel_rfl) ?_
   obtain ⟨x11, hx11⟩ : ∃ x, r1[Int.toNat v5]? = some x := ⟨_, List.getElem?_eq_getElem (by first | omega | (simp; done) | (simp; omega))⟩
   have hxs := hns _ (List.mem_of_getElem? hx11)
   refine CH.row hτ (dS x11) (by kernel_rfl) (by kernel_rfl) (by rw [List.getElem?_map, hx11]; rfl) (by kernel_rfl) ?_
   obtain ⟨r12, i15, h16, hr14, hi17, hf13⟩ := s_l4Acct bs c0_1 c0_2 (by first | assumption | omega) (by omega) x11 (by assumption)
   have ha := hr14
   refine CH.call hf13 Try.func157 ⟨rfl, rfl⟩ [(0, 0)] (by kernel_rfl) (by kernel_rfl) (by kernel_rfl) (by kernel_rfl) ?_
   refine CH.ltN hτ (L := [(4, 336, (r12.f4.map d188))]) [(4, 2, 188)] (by kernel_rfl) (by kernel_rfl) ⟨flat_d d188 (fun x => rfl), trivial⟩ (by kernel_rfl) ?_
   have el18 : (Lv3.map d38).length = Lv3.length := List.length_map ..
   have el19 : (([r12] : List S38).map d38).length = ([r12] : List S38).length := List.length_map ..
   have el20 : ([r12] : List S38).length = 1 := rfl
   refine CH.apN hτ (rows := (Lv3.map d38)) (rows2 := (([r12] : List S38).map d38)) (bys := 64) [(4, 2, 188)] (by kernel_rfl) (by kernel_rfl) (by simp only [List.length_map] <;> (first | done | omega | (simp; done) | (simp; omega))) (by kernel_rfl) ?_
   refine go 1 ?_
   refine CH.endk ⟨[(0, .pt 0 0 0), (3, rV 368), (4, rV 128), (5, iV v5)], [(0, some (.box [.k 0 (.sl (bs.map dB)), .d (.v (.int .i64 i15)), .d (.v (.int .i64 h16))])), (128, some (.row 1 9 (r1.map dS) false true)), (368, some (.nst 5 38 [(4, 2, 188)] ((Lv3.map d38) ++ (([r12] : List S38).map d38)) []))], 400⟩ (by kernel_rfl) (by kernel_rfl) (s2 := ⟨[(0, .pt 0 0 0), (3, rV 368), (4, rV 128), (5, iV v5)], [(0, some (.box [.k 0 (.sl (bs.map dB)), .d (.v (.int .i64 i15)), .d (.v (.int .i64 h16))])), (128, some (.row 1 9 (r1.map dS) false true)), (368, some (.nst 5 38 [(4, 2, 188)] ((Lv3 ++ ([r12] : List S38)).map d38) []))], 400⟩) (congrArg (fun z : List (List D) => (⟨[(0, .pt 0 0 0), (3, rV 368), (4, rV 128), (5, iV v5)], [(0, some (.box [.k 0 (.sl (bs.map dB)), .d (.v (.int .i64 i15)), .d (.v (.int .i64 h16))])), (128, some (.row 1 9 (r1.map dS) false true)), (368, some (.nst 5 38 [(4, 2, 188)] z []))], 400⟩ : St)) (show (Lv3.map d38) ++ (([r12] : List S38).map d38) = ((Lv3 ++ ([r12] : List S38)).map d38) from List.map_append.symm)) ?_
   refine X.rk ⟨[(0, .pt 0 0 0), (3, rV 368), (4, rV 128), (5, iV (wrap64 (v5 + 1)))], [(0, some (.box [.k 0 (.sl (bs.map dB)), .d (.v (.int .i64 i15)), .d (.v (.int .i64 h16))])), (128, some (.row 1 9 (r1.map dS) false true)), (368, some (.nst 5 38 [(4, 2, 188)] ((Lv3 ++ ([r12] : List S38)).map d38) []))], 448⟩ hτ hmix (by kernel_rfl) (by kernel_rfl) (s2 := ⟨[(0, .pt 0 0 0), (3, rV 368), (4, rV 128), (5, iV (v5 + 1))], [(0, some (.box [.k 0 (.sl (bs.map dB)), .d (.v (.int .i64 i15)), .d (.v (.int .i64 h16))])), (128, some (.row 1 9 (r1.map dS) false true)), (368, some (.nst 5 38 [(4, 2, 188)] ((Lv3 ++ ([r12] : List S38)).map d38) []))], 448⟩) (congrArg (fun z : Int => (⟨[(0, .pt 0 0 0), (3, rV 368), (4, rV 128), (5, iV z)], [(0, some (.box [.k 0 (.sl (bs.map dB)), .d (.v (.int .i64 i15)), .d (.v (.int .i64 h16))])), (128, some (.row 1 9 (r1.map dS) false true)), (368, some (.nst 5 38 [(4, 2, 188)] ((Lv3 ++ ([r12] : List S38)).map d38) []))], 448⟩ : St)) (show wrap64 (v5 + 1) = (v5 + 1) by rw [w64 (n := (v5 + 1)) (by omega) (by omega)])) ?_
   refine ⟨⟨(i15, h16, (Lv3 ++ ([r12] : List S38)), (v5 + 1)), ⟨by first | omega | (dsimp only; omega), ⟨by first | omega | (dsimp only; omega), by first | omega | (dsimp only; omega), by first | omega | (simp only [List.length_append, List.length_cons, List.length_nil]; (first | omega | (dsimp only; omega))), all_app hA (all_one ha)⟩⟩⟩, by first | exact rfl | omega | (dsimp only; omega) | (simp only [List.length_append, List.length_cons, List.length_nil, List.length_set]; omega) | (simp; done) | (simp; omega), Wk.mk' [(80, 368), (128, 128)] (by kernel_rfl) (by kernel_rfl) (by kernel_rfl)⟩
  ·replace hb10 := of_decide_eq_false (hb10)
   refine X.exit ?_
   refine sk ⟨[(2, rV 80)], [(0, some (.box [.k 0 (.sl (bs.map dB)), .d (.v (.int .i64 c0_1)), .d (.v (.int .i64 c0_2))])), (80, some (.nst 5 38 [(4, 2, 188)] (Lv3.map d38) []))], 272⟩ ?_
   refine X.ret ?_
   exact ⟨trivial, _, _, ⟨Lv3, c0_1, c0_2, ⟨by omega, hA⟩, (by omega), rfl, rfl⟩, .inl (Ret.mk' [(64, 80)] (by kernel_rfl) (by kernel_rfl) (by kernel_rfl))⟩
 obtain ⟨_, _, ⟨r0, i1, h1, h1_, h2_, rfl, rfl⟩, hf⟩ := key
 exact ⟨r0, i1, h1, h1_, h2_, hf⟩

theorem s_l4Any (bs : List Int) (i0 : Int) (h0 : Int) (hl : bs.length ≤ 4611686018427387904) (hi : 0 ≤ i0 ∧ i0 ≤ bs.length)  : ∃ r0 : List S38, ∃ i1 : Int, ∃ h1 : Int, (r0.length ≤ 6 ∧ ∀ x, x ∈ r0 → acS3 4 x) ∧ (0 ≤ i1 ∧ i1 ≤ bs.length) ∧ Fn Try.prog 110 [.pt 0 0 0] (lookH [(0, some (.box [.k 0 (.sl (bs.map dB)), .k 1 (.v (.int .i64 i0)), .k 2 (.v (.int .i64 h0))]))]) (rV 64) (lookH [(0, some (.box [.k 0 (.sl (bs.map dB)), .d (.v (.int .i64 i1)), .d (.v (.int .i64 h1))])), (64, some (.nst 5 38 [(4, 2, 188)] (r0.map d38) []))]) := by
 have key : ∃ x' h', ((fun x' h' => ∃ r0 : List S38, ∃ i1 : Int, ∃ h1 : Int, (r0.length ≤ 6 ∧ ∀ x, x ∈ r0 → acS3 4 x) ∧ (0 ≤ i1 ∧ i1 ≤ bs.length) ∧ x' = rV 64 ∧ h' = [(0, some (.box [.k 0 (.sl (bs.map dB)), .d (.v (.int .i64 i1)), .d (.v (.int .i64 h1))])), (64, some (.nst 5 38 [(4, 2, 188)] (r0.map d38) []))])) x' h' ∧ Fn Try.prog 110 [.pt 0 0 0] (lookH [(0, some (.box [.k 0 (.sl (bs.map dB)), .k 1 (.v (.int .i64 i0)), .k 2 (.v (.int .i64 h0))]))]) x' (lookH h') := by
  refine Fn.bodyX (N := 48) hτ Try.func110 rfl rfl rfl rfl ?_
  refine sk ⟨[(0, .pt 0 0 0)], [(0, some (.box [.k 0 (.sl (bs.map dB)), .d (.v (.int .i64 i0)), .d (.v (.int .i64 h0))]))], 80⟩ ?_
  refine X.seq (rs 1 ?_)
  obtain ⟨r1, i4, h5, hr3, hi6, hf2⟩ := s_l4Draw bs i0 h0 (by first | assumption | omega) (by omega)
  obtain ⟨hgl, hgs⟩ := hr3
  refine CH.call hf2 Try.func155 ⟨rfl, rfl⟩ [(0, 0)] (by kernel_rfl) (by kernel_rfl) (by kernel_rfl) (by kernel_rfl) ?_
  refine go 1 ?_
  refine ek ⟨[(0, .pt 0 0 0), (3, rV 96)], [(0, some (.box [.k 0 (.sl (bs.map dB)), .d (.v (.int .i64 i4)), .d (.v (.int .i64 h5))])), (96, some (.nst 5 38 [(4, 2, 188)] (r1.map d38) []))], 128⟩ ?_
  refine X.seq ?_
  refine X.seq (rs 1 ?_)
  obtain ⟨r7, i10, h11, hr9, hi12, hf8⟩ := s_l1Below bs i4 h5 (by first | assumption | omega) (by omega) 12
  obtain ⟨_, _⟩ := hr9
  refine CH.call hf8 Try.func108 ⟨rfl, rfl⟩ [(0, 0)] (by kernel_rfl) (by kernel_rfl) (by kernel_rfl) (by kernel_rfl) ?_
  refine ek ⟨[(0, .pt 0 0 0), (3, rV 96), (7, iV r7)], [(0, some (.box [.k 0 (.sl (bs.map dB)), .d (.v (.int .i64 i10)), .d (.v (.int .i64 h11))])), (96, some (.nst 5 38 [(4, 2, 188)] (r1.map d38) []))], 160⟩ ?_
  refine X.block ?_
  refine sk ⟨[(0, .pt 0 0 0), (3, rV 96), (7, iV r7), (8, bV (r7 == 0))], [(0, some (.box [.k 0 (.sl (bs.map dB)), .d (.v (.int .i64 i10)), .d (.v (.int .i64 h11))])), (96, some (.nst 5 38 [(4, 2, 188)] (r1.map d38) []))], 192⟩ ?_
  refine if_ (b := (r7 == 0)) (fun hb13 => ?_) (fun hb13 => ?_)
  ·replace hb13 := eq_of_beq (hb13)
   refine rs 3 ?_
   obtain ⟨r14, i17, h18, hr16, hi19, hf15⟩ := s_l1NameAny bs i10 h11 (by first | assumption | omega) (by omega)
   have hs := hr16
   refine CH.call hf15 Try.func158 ⟨rfl, rfl⟩ [(0, 0)] (by kernel_rfl) (by kernel_rfl) (by kernel_rfl) (by kernel_rfl) ?_
   obtain ⟨r20, i23, h24, hr22, hi25, hf21⟩ := s_l4Acct bs i17 h18 (by first | assumption | omega) (by omega) r14 (by assumption)
   have ha := hr22
   refine CH.call hf21 Try.func157 ⟨rfl, rfl⟩ [(0, 0)] (by kernel_rfl) (by kernel_rfl) (by kernel_rfl) (by kernel_rfl) ?_
   refine CH.ltN hτ (L := [(4, 256, (r20.f4.map d188))]) [(4, 2, 188)] (by kernel_rfl) (by kernel_rfl) ⟨flat_d d188 (fun x => rfl), trivial⟩ (by kernel_rfl) ?_
   have el26 : (r1.map d38).length = r1.length := List.length_map ..
   have el27 : (([r20] : List S38).map d38).length = ([r20] : List S38).length := List.length_map ..
   have el28 : ([r20] : List S38).length = 1 := rfl
   refine CH.apN hτ (rows := (r1.map d38)) (rows2 := (([r20] : List S38).map d38)) (bys := 64) [(4, 2, 188)] (by kernel_rfl) (by kernel_rfl) (by simp only [List.length_map] <;> (first | done | omega | (simp; done) | (simp; omega))) (by kernel_rfl) ?_
   refine go 1 ?_
   refine CH.endk ⟨[(3, rV 288)], [(0, some (.box [.k 0 (.sl (bs.map dB)), .d (.v (.int .i64 i23)), .d (.v (.int .i64 h24))])), (288, some (.nst 5 38 [(4, 2, 188)] ((r1.map d38) ++ (([r20] : List S38).map d38)) []))], 320⟩ (by kernel_rfl) (by kernel_rfl) (s2 := ⟨[(3, rV 288)], [(0, some (.box [.k 0 (.sl (bs.map dB)), .d (.v (.int .i64 i23)), .d (.v (.int .i64 h24))])), (288, some (.nst 5 38 [(4, 2, 188)] ((r1 ++ ([r20] : List S38)).map d38) []))], 320⟩) (congrArg (fun z : List (List D) => (⟨[(3, rV 288)], [(0, some (.box [.k 0 (.sl (bs.map dB)), .d (.v (.int .i64 i23)), .d (.v (.int .i64 h24))])), (288, some (.nst 5 38 [(4, 2, 188)] z []))], 320⟩ : St)) (show (r1.map d38) ++ (([r20] : List S38).map d38) = ((r1 ++ ([r20] : List S38)).map d38) from List.map_append.symm)) ?_
   refine sk ⟨[(2, rV 288)], [(0, some (.box [.k 0 (.sl (bs.map dB)), .d (.v (.int .i64 i23)), .d (.v (.int .i64 h24))])), (288, some (.nst 5 38 [(4, 2, 188)] ((r1 ++ ([r20] : List S38)).map d38) []))], 352⟩ ?_
   refine X.ret ?_
   exact ⟨trivial, _, _, ⟨(r1 ++ ([r20] : List S38)), i23, h24, (by first | exact ⟨by first | omega | (simp only [List.length_append, List.length_set, List.length_cons, List.length_nil]; omega), acS3_up (by omega) hgs⟩ | exact ⟨by first | omega | (simp only [List.length_append, List.length_set, List.length_cons, List.length_nil]; omega), all_app (acS3_up (by omega) hgs) (all_one ⟨ha.1, by have := ha.2; omega⟩)⟩ | exact ⟨by first | omega | (simp only [List.length_append, List.length_set, List.length_cons, List.length_nil]; omega), all_set (acS3_up (by omega) hgs) hx4⟩ | exact ⟨by first | omega | (simp only [List.length_append, List.length_set, List.length_cons, List.length_nil]; omega), all_set (acS3_up (by omega) hgs) ⟨hx4.1, by have := hx4.2; dsimp only; simp only [List.length_append, List.length_cons, List.length_nil]; omega⟩⟩), (by omega), rfl, rfl⟩, .inl (Ret.mk' [(64, 288)] (by kernel_rfl) (by kernel_rfl) (by kernel_rfl))⟩
  ·replace hb13 := beq_eq_false_iff_ne.1 (hb13)
   refine sk ⟨[(0, .pt 0 0 0), (3, rV 96), (7, iV r7), (17, bV (r7 == 1))], [(0, some (.box [.k 0 (.sl (bs.map dB)), .d (.v (.int .i64 i10)), .d (.v (.int .i64 h11))])), (96, some (.nst 5 38 [(4, 2, 188)] (r1.map d38) []))], 224⟩ ?_
   refine if_ (b := (r7 == 1)) (fun hb29 => ?_) (fun hb29 => ?_)
   ·replace hb29 := eq_of_beq (hb29)
    refine X.seq ?_
    have el30 : (r1.map d38).length = r1.length := List.length_map ..
    refine rk ⟨[(0, .pt 0 0 0), (3, rV 96), (21, bV (decide ((((r1.map d38).length : Int) : Int) > 0)))], [(0, some (.box [.k 0 (.sl (bs.map dB)), .d (.v (.int .i64 i10)), .d (.v (.int .i64 h11))])), (96, some (.nst 5 38 [(4, 2, 188)] (r1.map d38) []))], 272⟩ ?_
    refine if_ (b := decide ((((r1.map d38).length : Int) : Int) > 0)) (fun hb31 => ?_) (fun hb31 => ?_)
    ·replace hb31 := of_decide_eq_true (hb31)
     refine rs 3 ?_
     obtain ⟨r32, i35, h36, hr34, hi37, hf33⟩ := s_l1Int bs i10 h11 (by first | assumption | omega) (by omega) ([(-1), 1000000, 1000001] : List Int) (by first | omega | (simp; done) | (simp; omega))
     have hmi := hr34
     refine CH.call hf33 Try.func109 ⟨rfl, rfl⟩ [(0, 0)] (by kernel_rfl) (by kernel_rfl) (by kernel_rfl) (by kernel_rfl) ?_
     refine CH.idxR hτ (rows := (r1.map d38)) (n := 0) (b := 96) (by kernel_rfl) (by kernel_rfl) (by first | omega | (simp; done) | (simp; omega)) (by simp only [List.length_map, List.length_set]; first | omega | (simp; done) | (simp; omega)) (by kernel_rfl) ?_
     refine go 1 ?_
     obtain ⟨x38, hx38⟩ : ∃ x, r1[0]? = some x := ⟨_, List.getElem?_eq_getElem (by first | omega | (simp; done) | (simp; omega))⟩
     have hx4 := acS3_up (m := 4) (by omega) hgs _ (List.mem_of_getElem? hx38)
     refine CH.stN hτ (rows := (r1.map d38)) (n := 0) (p := 1) (len := 1) (op := []) (L := []) (d38 x38) (by kernel_rfl) (by kernel_rfl) (by rw [List.getElem?_map, hx38]; rfl) trivial trivial (by kernel_rfl) ?_
     refine CH.endk ⟨[(3, rV 96)], [(0, some (.box [.k 0 (.sl (bs.map dB)), .d (.v (.int .i64 i35)), .d (.v (.int .i64 h36))])), (96, some (.nst 5 38 [(4, 2, 188)] ((r1.map d38).set (0) (d38 (⟨x38.f0, r32, x38.f2, x38.f3, x38.f4⟩ : S38))) []))], 384⟩ (by kernel_rfl) (by kernel_rfl) (s2 := ⟨[(3, rV 96)], [(0, some (.box [.k 0 (.sl (bs.map dB)), .d (.v (.int .i64 i35)), .d (.v (.int .i64 h36))])), (96, some (.nst 5 38 [(4, 2, 188)] ((r1.set (0) (⟨x38.f0, r32, x38.f2, x38.f3, x38.f4⟩ : S38)).map d38) []))], 384⟩) (congrArg (fun z : List (List D) => (⟨[(3, rV 96)], [(0, some (.box [.k 0 (.sl (bs.map dB)), .d (.v (.int .i64 i35)), .d (.v (.int .i64 h36))])), (96, some (.nst 5 38 [(4, 2, 188)] z []))], 384⟩ : St)) (show ((r1.map d38).set (0) (d38 (⟨x38.f0, r32, x38.f2, x38.f3, x38.f4⟩ : S38))) = ((r1.set (0) (⟨x38.f0, r32, x38.f2, x38.f3, x38.f4⟩ : S38)).map d38) from List.map_set.symm)) ?_
     refine sk ⟨[(2, rV 96)], [(0, some (.box [.k 0 (.sl (bs.map dB)), .d (.v (.int .i64 i35)), .d (.v (.int .i64 h36))])), (96, some (.nst 5 38 [(4, 2, 188)] ((r1.set (0) (⟨x38.f0, r32, x38.f2, x38.f3, x38.f4⟩ : S38)).map d38) []))], 416⟩ ?_
     refine X.ret ?_
     exact ⟨trivial, _, _, ⟨(r1.set (0) (⟨x38.f0, r32, x38.f2, x38.f3, x38.f4⟩ : S38)), i35, h36, (by first | exact ⟨by first | omega | (simp only [List.length_append, List.length_set, List.length_cons, List.length_nil]; omega), acS3_up (by omega) hgs⟩ | exact ⟨by first | omega | (simp only [List.length_append, List.length_set, List.length_cons, List.length_nil]; omega), all_app (acS3_up (by omega) hgs) (all_one ⟨ha.1, by have := ha.2; omega⟩)⟩ | exact ⟨by first | omega | (simp only [List.length_append, List.length_set, List.length_cons, List.length_nil]; omega), all_set (acS3_up (by omega) hgs) hx4⟩ | exact ⟨by first | omega | (simp only [List.length_append, List.length_set, List.length_cons, List.length_nil]; omega), all_set (acS3_up (by omega) hgs) ⟨hx4.1, by have := hx4.2; dsimp only; simp only [List.length_append, List.length_cons, List.length_nil]; omega⟩⟩), (by omega), rfl, rfl⟩, .inl (Ret.mk' [(64, 96)] (by kernel_rfl) (by kernel_rfl) (by kernel_rfl))⟩
    ·replace hb31 := of_decide_eq_false (hb31)
     refine X.skip ?_
     refine sk ⟨[(2, rV 96)], [(0, some (.box [.k 0 (.sl (bs.map dB)), .d (.v (.int .i64 i10)), .d (.v (.int .i64 h11))])), (96, some (.nst 5 38 [(4, 2, 188)] (r1.map d38) []))], 304⟩ ?_
     refine X.ret ?_
     exact ⟨trivial, _, _, ⟨r1, i10, h11, (by first | exact ⟨by first | omega | (simp only [List.length_append, List.length_set, List.length_cons, List.length_nil]; omega), acS3_up (by omega) hgs⟩ | exact ⟨by first | omega | (simp only [List.length_append, List.length_set, List.length_cons, List.length_nil]; omega), all_app (acS3_up (by omega) hgs) (all_one ⟨ha.1, by have := ha.2; omega⟩)⟩ | exact ⟨by first | omega | (simp only [List.length_append, List.length_set, List.length_cons, List.length_nil]; omega), all_set (acS3_up (by omega) hgs) hx4⟩ | exact ⟨by first | omega | (simp only [List.length_append, List.length_set, List.length_cons, List.length_nil]; omega), all_set (acS3_up (by omega) hgs) ⟨hx4.1, by have := hx4.2; dsimp only; simp only [List.length_append, List.length_cons, List.length_nil]; omega⟩⟩), (by omega), rfl, rfl⟩, .inl (Ret.mk' [(64, 96)] (by kernel_rfl) (by kernel_rfl) (by kernel_rfl))⟩
   ·replace hb29 := beq_eq_false_iff_ne.1 (hb29)
    refine sk ⟨[(0, .pt 0 0 0), (3, rV 96), (28, bV (r7 == 2))], [(0, some (.box [.k 0 (.sl (bs.map dB)), .d (.v (.int .i64 i10)), .d (.v (.int .i64 h11))])), (96, some (.nst 5 38 [(4, 2, 188)] (r1.map d38) []))], 256⟩ ?_
    refine if_ (b := (r7 == 2)) (fun hb39 => ?_) (fun hb39 => ?_)
    ·replace hb39 := eq_of_beq (hb39)
     refine X.seq ?_
     have el40 : (r1.map d38).length = r1.length := List.length_map ..
     refine rk ⟨[(0, .pt 0 0 0), (3, rV 96), (32, bV (decide ((((r1.map d38).length : Int) : Int) > 0)))], [(0, some (.box [.k 0 (.sl (bs.map dB)), .d (.v (.int .i64 i10)), .d (.v (.int .i64 h11))])), (96, some (.nst 5 38 [(4, 2, 188)] (r1.map d38) []))], 304⟩ ?_
     refine if_ (b := decide ((((r1.map d38).length : Int) : Int) > 0)) (fun hb41 => ?_) (fun hb41 => ?_)
     ·replace hb41 := of_decide_eq_true (hb41)
      refine rs 2 ?_
      refine CH.idxR hτ (rows := (r1.map d38)) (n := 0) (b := 96) (by kernel_rfl) (by kernel_rfl) (by first | omega | (simp; done) | (simp; omega)) (by simp only [List.length_map, List.length_set]; first | omega | (simp; done) | (simp; omega)) (by kernel_rfl) ?_
      refine go 1 ?_
      obtain ⟨x42, hx42⟩ : ∃ x, r1[0]? = some x := ⟨_, List.getElem?_eq_getElem (by first | omega | (simp; done) | (simp; omega))⟩
      have hx4 := hgs _ (List.mem_of_getElem? hx42); have hx5 := hx4.2
      refine CH.ldN hτ (rows := (r1.map d38)) (n := 0) (p := 4) (op := []) (d38 x42) (.sl (x42.f4.map d188)) (by kernel_rfl) (by kernel_rfl) (by rw [List.getElem?_map, hx42]; rfl) rfl trivial (by kernel_rfl) ?_
      refine go 1 ?_
      obtain ⟨r43, i46, h47, hr45, hi48, hf44⟩ := s_l1Below bs i10 h11 (by first | assumption | omega) (by omega) 2
      obtain ⟨_, _⟩ := hr45
      refine CH.call hf44 Try.func108 ⟨rfl, rfl⟩ [(0, 0)] (by kernel_rfl) (by kernel_rfl) (by kernel_rfl) (by kernel_rfl) ?_
      refine go 1 ?_
      obtain ⟨r49, i52, h53, hr51, hi54, hf50⟩ := s_l1Below bs i46 h47 (by first | assumption | omega) (by omega) 4
      obtain ⟨_, _⟩ := hr51
      refine CH.call hf50 Try.func108 ⟨rfl, rfl⟩ [(0, 0)] (by kernel_rfl) (by kernel_rfl) (by kernel_rfl) (by kernel_rfl) ?_
      refine go 2 ?_
      have el55 : (x42.f4.map d188).length = x42.f4.length := List.length_map ..
      have el56 : (([(⟨r43, r49⟩ : S188)] : List S188).map d188).length = ([(⟨r43, r49⟩ : S188)] : List S188).length := List.length_map ..
      have el57 : ([(⟨r43, r49⟩ : S188)] : List S188).length = 1 := rfl
      refine CH.app hτ (rows := (x42.f4.map d188)) (rows2 := (([(⟨r43, r49⟩ : S188)] : List S188).map d188)) (sz := 2) (bys := 16) true (by kernel_rfl) (by kernel_rfl) (fun _ => flat_d d188 (fun x => rfl)) (flat_ok (f := d188) (fun x => rfl)) (by simp only [List.length_map] <;> (first | done | omega | (simp; done) | (simp; omega))) (by kernel_rfl) ?_
      refine CH.idxR hτ (rows := (r1.map d38)) (n := 0) (b := 96) (by kernel_rfl) (by kernel_rfl) (by first | omega | (simp; done) | (simp; omega)) (by simp only [List.length_map, List.length_set]; first | omega | (simp; done) | (simp; omega)) (by kernel_rfl) ?_
      refine go 1 ?_
      refine CH.stN hτ (rows := (r1.map d38)) (n := 0) (p := 4) (len := 1) (op := [(0, 4, 368)]) (L := [(4, 480, ((x42.f4.map d188) ++ (([(⟨r43, r49⟩ : S188)] : List S188).map d188)))]) (d38 x42) (by kernel_rfl) (by kernel_rfl) (by rw [List.getElem?_map, hx42]; rfl) ⟨⟨rfl, (by dsimp only; decide), (by dsimp only; decide)⟩, trivial⟩ ⟨(by rw [show (x42.f4.map d188) ++ (([(⟨r43, r49⟩ : S188)] : List S188).map d188) = ((x42.f4 ++ ([(⟨r43, r49⟩ : S188)] : List S188)).map d188) from List.map_append.symm]; exact flat_d d188 (fun x => rfl)), trivial⟩ (by kernel_rfl) ?_
      refine CH.endk ⟨[(3, rV 96)], [(0, some (.box [.k 0 (.sl (bs.map dB)), .d (.v (.int .i64 i52)), .d (.v (.int .i64 h53))])), (96, some (.nst 5 38 [(4, 2, 188)] ((r1.map d38).set (0) ((d38 x42).set 4 (.sl ((x42.f4.map d188) ++ (([(⟨r43, r49⟩ : S188)] : List S188).map d188))))) []))], 544⟩ (by kernel_rfl) (by kernel_rfl) (s2 := ⟨[(3, rV 96)], [(0, some (.box [.k 0 (.sl (bs.map dB)), .d (.v (.int .i64 i52)), .d (.v (.int .i64 h53))])), (96, some (.nst 5 38 [(4, 2, 188)] ((r1.set (0) (⟨x42.f0, x42.f1, x42.f2, x42.f3, (x42.f4 ++ ([(⟨r43, r49⟩ : S188)] : List S188))⟩ : S38)).map d38) []))], 544⟩) (congrArg (fun z : List (List D) => (⟨[(3, rV 96)], [(0, some (.box [.k 0 (.sl (bs.map dB)), .d (.v (.int .i64 i52)), .d (.v (.int .i64 h53))])), (96, some (.nst 5 38 [(4, 2, 188)] z []))], 544⟩ : St)) (show ((r1.map d38).set (0) ((d38 x42).set 4 (.sl ((x42.f4.map d188) ++ (([(⟨r43, r49⟩ : S188)] : List S188).map d188))))) = ((r1.set (0) (⟨x42.f0, x42.f1, x42.f2, x42.f3, (x42.f4 ++ ([(⟨r43, r49⟩ : S188)] : List S188))⟩ : S38)).map d38) from (by rw [show (x42.f4.map d188) ++ (([(⟨r43, r49⟩ : S188)] : List S188).map d188) = ((x42.f4 ++ ([(⟨r43, r49⟩ : S188)] : List S188)).map d188) from List.map_append.symm]; exact (List.map_set (f := d38) (l := r1) (i := 0) (a := (⟨x42.f0, x42.f1, x42.f2, x42.f3, (x42.f4 ++ ([(⟨r43, r49⟩ : S188)] : List S188))⟩ : S38))).symm))) ?_
      refine sk ⟨[(2, rV 96)], [(0, some (.box [.k 0 (.sl (bs.map dB)), .d (.v (.int .i64 i52)), .d (.v (.int .i64 h53))])), (96, some (.nst 5 38 [(4, 2, 188)] ((r1.set (0) (⟨x42.f0, x42.f1, x42.f2, x42.f3, (x42.f4 ++ ([(⟨r43, r49⟩ : S188)] : List S188))⟩ : S38)).map d38) []))], 576⟩ ?_
      refine X.ret ?_
      exact ⟨trivial, _, _, ⟨(r1.set (0) (⟨x42.f0, x42.f1, x42.f2, x42.f3, (x42.f4 ++ ([(⟨r43, r49⟩ : S188)] : List S188))⟩ : S38)), i52, h53, (by first | exact ⟨by first | omega | (simp only [List.length_append, List.length_set, List.length_cons, List.length_nil]; omega), acS3_up (by omega) hgs⟩ | exact ⟨by first | omega | (simp only [List.length_append, List.length_set, List.length_cons, List.length_nil]; omega), all_app (acS3_up (by omega) hgs) (all_one ⟨ha.1, by have := ha.2; omega⟩)⟩ | exact ⟨by first | omega | (simp only [List.length_append, List.length_set, List.length_cons, List.length_nil]; omega), all_set (acS3_up (by omega) hgs) hx4⟩ | exact ⟨by first | omega | (simp only [List.length_append, List.length_set, List.length_cons, List.length_nil]; omega), all_set (acS3_up (by omega) hgs) ⟨hx4.1, by have := hx4.2; dsimp only; simp only [List.length_append, List.length_cons, List.length_nil]; omega⟩⟩), (by omega), rfl, rfl⟩, .inl (Ret.mk' [(64, 96)] (by kernel_rfl) (by kernel_rfl) (by kernel_rfl))⟩
     ·replace hb41 := of_decide_eq_false (hb41)
      refine X.skip ?_
      refine sk ⟨[(2, rV 96)], [(0, some (.box [.k 0 (.sl (bs.map dB)), .d (.v (.int .i64 i10)), .d (.v (.int .i64 h11))])), (96, some (.nst 5 38 [(4, 2, 188)] (r1.map d38) []))], 336⟩ ?_
      refine X.ret ?_
      exact ⟨trivial, _, _, ⟨r1, i10, h11, (by first | exact ⟨by first | omega | (simp only [List.length_append, List.length_set, List.length_cons, List.length_nil]; omega), acS3_up (by omega) hgs⟩ | exact ⟨by first | omega | (simp only [List.length_append, List.length_set, List.length_cons, List.length_nil]; omega), all_app (acS3_up (by omega) hgs) (all_one ⟨ha.1, by have := ha.2; omega⟩)⟩ | exact ⟨by first | omega | (simp only [List.length_append, List.length_set, List.length_cons, List.length_nil]; omega), all_set (acS3_up (by omega) hgs) hx4⟩ | exact ⟨by first | omega | (simp only [List.length_append, List.length_set, List.length_cons, List.length_nil]; omega), all_set (acS3_up (by omega) hgs) ⟨hx4.1, by have := hx4.2; dsimp only; simp only [List.length_append, List.length_cons, List.length_nil]; omega⟩⟩), (by omega), rfl, rfl⟩, .inl (Ret.mk' [(64, 96)] (by kernel_rfl) (by kernel_rfl) (by kernel_rfl))⟩
    ·replace hb39 := beq_eq_false_iff_ne.1 (hb39)
     refine X.skip ?_
     refine sk ⟨[(2, rV 96)], [(0, some (.box [.k 0 (.sl (bs.map dB)), .d (.v (.int .i64 i10)), .d (.v (.int .i64 h11))])), (96, some (.nst 5 38 [(4, 2, 188)] (r1.map d38) []))], 288⟩ ?_
     refine X.ret ?_
     exact ⟨trivial, _, _, ⟨r1, i10, h11, (by first | exact ⟨by first | omega | (simp only [List.length_append, List.length_set, List.length_cons, List.length_nil]; omega), acS3_up (by omega) hgs⟩ | exact ⟨by first | omega | (simp only [List.length_append, List.length_set, List.length_cons, List.length_nil]; omega), all_app (acS3_up (by omega) hgs) (all_one ⟨ha.1, by have := ha.2; omega⟩)⟩ | exact ⟨by first | omega | (simp only [List.length_append, List.length_set, List.length_cons, List.length_nil]; omega), all_set (acS3_up (by omega) hgs) hx4⟩ | exact ⟨by first | omega | (simp only [List.length_append, List.length_set, List.length_cons, List.length_nil]; omega), all_set (acS3_up (by omega) hgs) ⟨hx4.1, by have := hx4.2; dsimp only; simp only [List.length_append, List.length_cons, List.length_nil]; omega⟩⟩), (by omega), rfl, rfl⟩, .inl (Ret.mk' [(64, 96)] (by kernel_rfl) (by kernel_rfl) (by kernel_rfl))⟩
 obtain ⟨_, _, ⟨r0, i1, h1, h1_, h2_, rfl, rfl⟩, hf⟩ := key
 exact ⟨r0, i1, h1, h1_, h2_, hf⟩

theorem s_l6Draw (bs : List Int) (i0 : Int) (h0 : Int) (hl : bs.length ≤ 4611686018427387904) (hi : 0 ≤ i0 ∧ i0 ≤ bs.length)  : ∃ r0 : S27, ∃ i1 : Int, ∃ h1 : Int, (r0.f1.length ≤ 6 ∧ ∀ x, x ∈ r0.f1 → acS3 4 x) ∧ (0 ≤ i1 ∧ i1 ≤ bs.length) ∧ Fn Try.prog 107 [.pt 0 0 0] (lookH [(0, some (.box [.k 0 (.sl (bs.map dB)), .k 1 (.v (.int .i64 i0)), .k 2 (.v (.int .i64 h0))]))]) (.e (.agg [.d (.v (.int .i64 r0.f0)), .ref 64])) (lookH [(0, some (.box [.k 0 (.sl (bs.map dB)), .d (.v (.int .i64 i1)), .d (.v (.int .i64 h1))])), (64, some (.nst 5 38 [(4, 2, 188)] (r0.f1.map d38) []))]) := by
 have key : ∃ x' h', ((fun x' h' => ∃ r0 : S27, ∃ i1 : Int, ∃ h1 : Int, (r0.f1.length ≤ 6 ∧ ∀ x, x ∈ r0.f1 → acS3 4 x) ∧ (0 ≤ i1 ∧ i1 ≤ bs.length) ∧ x' = .e (.agg [.d (.v (.int .i64 r0.f0)), .ref 64]) ∧ h' = [(0, some (.box [.k 0 (.sl (bs.map dB)), .d (.v (.int .i64 i1)), .d (.v (.int .i64 h1))])), (64, some (.nst 5 38 [(4, 2, 188)] (r0.f1.map d38) []))])) x' h' ∧ Fn Try.prog 107 [.pt 0 0 0] (lookH [(0, some (.box [.k 0 (.sl (bs.map dB)), .k 1 (.v (.int .i64 i0)), .k 2 (.v (.int .i64 h0))]))]) x' (lookH h') := by
  refine Fn.bodyX (N := 8) hτ Try.func107 rfl rfl rfl rfl ?_
  refine sk ⟨[(0, .pt 0 0 0), (2, .pt 64 0 0)], [(0, some (.box [.k 0 (.sl (bs.map dB)), .d (.v (.int .i64 i0)), .d (.v (.int .i64 h0))])), (64, some (.box [.d (.v (.int .i64 0)), .nil]))], 80⟩ ?_
  refine X.seq (rs 1 ?_)
  obtain ⟨r1, i4, h5, hr3, hi6, hf2⟩ := s_l1Below bs i0 h0 (by first | assumption | omega) (by omega) 3
  obtain ⟨_, _⟩ := hr3
  refine CH.call hf2 Try.func108 ⟨rfl, rfl⟩ [(0, 0)] (by kernel_rfl) (by kernel_rfl) (by kernel_rfl) (by kernel_rfl) ?_
  refine go 1 ?_
  obtain ⟨r7, i10, h11, hr9, hi12, hf8⟩ := s_l4Draw bs i4 h5 (by first | assumption | omega) (by omega)
  obtain ⟨hgl, hgs⟩ := hr9
  refine CH.call hf8 Try.func155 ⟨rfl, rfl⟩ [(0, 0)] (by kernel_rfl) (by kernel_rfl) (by kernel_rfl) (by kernel_rfl) ?_
  refine go 2 ?_
  refine ek ⟨[(2, .pt 64 0 0)], [(0, some (.box [.k 0 (.sl (bs.map dB)), .d (.v (.int .i64 i10)), .d (.v (.int .i64 h11))])), (64, some (.box [.d (.v (.int .i64 r1)), .ref 128])), (128, some (.nst 5 38 [(4, 2, 188)] (r7.map d38) []))], 176⟩ ?_
  refine X.ret ?_
  exact ⟨trivial, _, _, ⟨(⟨r1, r7⟩ : S27), i10, h11, ⟨by dsimp only; omega, acS3_up (by omega) hgs⟩, (by omega), rfl, rfl⟩, .inl (Ret.mk' [(64, 128)] (by kernel_rfl) (by kernel_rfl) (by kernel_rfl))⟩
 obtain ⟨_, _, ⟨r0, i1, h1, h1_, h2_, rfl, rfl⟩, hf⟩ := key
 exact ⟨r0, i1, h1, h1_, h2_, hf⟩

theorem s_l6Any (bs : List Int) (i0 : Int) (h0 : Int) (hl : bs.length ≤ 4611686018427387904) (hi : 0 ≤ i0 ∧ i0 ≤ bs.length)  : ∃ r0 : S27, ∃ i1 : Int, ∃ h1 : Int, (r0.f1.length ≤ 6 ∧ ∀ x, x ∈ r0.f1 → acS3 4 x) ∧ (0 ≤ i1 ∧ i1 ≤ bs.length) ∧ Fn Try.prog 41 [.pt 0 0 0] (lookH [(0, some (.box [.k 0 (.sl (bs.map dB)), .k 1 (.v (.int .i64 i0)), .k 2 (.v (.int .i64 h0))]))]) (.e (.agg [.d (.v (.int .i64 r0.f0)), .ref 64])) (lookH [(0, some (.box [.k 0 (.sl (bs.map dB)), .d (.v (.int .i64 i1)), .d (.v (.int .i64 h1))])), (64, some (.nst 5 38 [(4, 2, 188)] (r0.f1.map d38) []))]) := by
 have key : ∃ x' h', ((fun x' h' => ∃ r0 : S27, ∃ i1 : Int, ∃ h1 : Int, (r0.f1.length ≤ 6 ∧ ∀ x, x ∈ r0.f1 → acS3 4 x) ∧ (0 ≤ i1 ∧ i1 ≤ bs.length) ∧ x' = .e (.agg [.d (.v (.int .i64 r0.f0)), .ref 64]) ∧ h' = [(0, some (.box [.k 0 (.sl (bs.map dB)), .d (.v (.int .i64 i1)), .d (.v (.int .i64 h1))])), (64, some (.nst 5 38 [(4, 2, 188)] (r0.f1.map d38) []))])) x' h' ∧ Fn Try.prog 41 [.pt 0 0 0] (lookH [(0, some (.box [.k 0 (.sl (bs.map dB)), .k 1 (.v (.int .i64 i0)), .k 2 (.v (.int .i64 h0))]))]) x' (lookH h') := by
  refine Fn.bodyX (N := 20) hτ Try.func41 rfl rfl rfl rfl ?_
  refine sk ⟨[(0, .pt 0 0 0), (2, .pt 64 0 0)], [(0, some (.box [.k 0 (.sl (bs.map dB)), .d (.v (.int .i64 i0)), .d (.v (.int .i64 h0))])), (64, some (.box [.d (.v (.int .i64 0)), .nil]))], 80⟩ ?_
  refine X.seq (rs 1 ?_)
  obtain ⟨r1, i4, h5, hr3, hi6, hf2⟩ := s_l6Draw bs i0 h0 (by first | assumption | omega) (by omega)
  obtain ⟨hgl, hgs⟩ := hr3
  refine CH.call hf2 Try.func107 ⟨rfl, rfl⟩ [(0, 0)] (by kernel_rfl) (by kernel_rfl) (by kernel_rfl) (by kernel_rfl) ?_
  refine go 2 ?_
  refine ek ⟨[(0, .pt 0 0 0), (2, .pt 64 0 0), (3, .pt 112 0 0)], [(0, some (.box [.k 0 (.sl (bs.map dB)), .d (.v (.int .i64 i4)), .d (.v (.int .i64 h5))])), (64, some (.box [.d (.v (.int .i64 0)), .nil])), (96, some (.nst 5 38 [(4, 2, 188)] (r1.f1.map d38) [])), (112, some (.box [.d (.v (.int .i64 r1.f0)), .ref 96]))], 144⟩ ?_
  refine X.seq ?_
  refine X.seq (rs 1 ?_)
  obtain ⟨r7, i10, h11, hr9, hi12, hf8⟩ := s_l1Below bs i4 h5 (by first | assumption | omega) (by omega) 10
  obtain ⟨_, _⟩ := hr9
  refine CH.call hf8 Try.func108 ⟨rfl, rfl⟩ [(0, 0)] (by kernel_rfl) (by kernel_rfl) (by kernel_rfl) (by kernel_rfl) ?_
  refine ek ⟨[(0, .pt 0 0 0), (2, .pt 64 0 0), (3, .pt 112 0 0), (7, iV r7)], [(0, some (.box [.k 0 (.sl (bs.map dB)), .d (.v (.int .i64 i10)), .d (.v (.int .i64 h11))])), (64, some (.box [.d (.v (.int .i64 0)), .nil])), (96, some (.nst 5 38 [(4, 2, 188)] (r1.f1.map d38) [])), (112, some (.box [.d (.v (.int .i64 r1.f0)), .ref 96]))], 176⟩ ?_
  refine X.block ?_
  refine sk ⟨[(0, .pt 0 0 0), (2, .pt 64 0 0), (3, .pt 112 0 0), (7, iV r7), (8, bV (r7 == 0))], [(0, some (.box [.k 0 (.sl (bs.map dB)), .d (.v (.int .i64 i10)), .d (.v (.int .i64 h11))])), (64, some (.box [.d (.v (.int .i64 0)), .nil])), (96, some (.nst 5 38 [(4, 2, 188)] (r1.f1.map d38) [])), (112, some (.box [.d (.v (.int .i64 r1.f0)), .ref 96]))], 208⟩ ?_
  refine if_ (b := (r7 == 0)) (fun hb13 => ?_) (fun hb13 => ?_)
  ·replace hb13 := eq_of_beq (hb13)
   refine rs 2 ?_
   obtain ⟨r14, i17, h18, hr16, hi19, hf15⟩ := s_l1Int bs i10 h11 (by first | assumption | omega) (by omega) ([(-1), 900, 901] : List Int) (by first | omega | (simp; done) | (simp; omega))
   have hmi := hr16
   refine CH.call hf15 Try.func109 ⟨rfl, rfl⟩ [(0, 0)] (by kernel_rfl) (by kernel_rfl) (by kernel_rfl) (by kernel_rfl) ?_
   refine go 2 ?_
   refine ek ⟨[(2, .pt 64 0 0), (3, .pt 112 0 0)], [(0, some (.box [.k 0 (.sl (bs.map dB)), .d (.v (.int .i64 i17)), .d (.v (.int .i64 h18))])), (64, some (.box [.d (.v (.int .i64 0)), .nil])), (96, some (.nst 5 38 [(4, 2, 188)] (r1.f1.map d38) [])), (112, some (.box [.d (.v (.int .i64 r14)), .ref 96]))], 288⟩ ?_
   refine sk ⟨[(2, .pt 64 0 0)], [(0, some (.box [.k 0 (.sl (bs.map dB)), .d (.v (.int .i64 i17)), .d (.v (.int .i64 h18))])), (64, some (.box [.d (.v (.int .i64 r14)), .ref 96])), (96, some (.nst 5 38 [(4, 2, 188)] (r1.f1.map d38) []))], 320⟩ ?_
   refine X.ret ?_
   exact ⟨trivial, _, _, ⟨(⟨r14, r1.f1⟩ : S27), i17, h18, (by first | exact ⟨hgl, hgs⟩), (by omega), rfl, rfl⟩, .inl (Ret.mk' [(64, 96)] (by kernel_rfl) (by kernel_rfl) (by kernel_rfl))⟩
  ·replace hb13 := beq_eq_false_iff_ne.1 (hb13)
   refine sk ⟨[(0, .pt 0 0 0), (2, .pt 64 0 0), (3, .pt 112 0 0), (14, bV (r7 == 1))], [(0, some (.box [.k 0 (.sl (bs.map dB)), .d (.v (.int .i64 i10)), .d (.v (.int .i64 h11))])), (64, some (.box [.d (.v (.int .i64 0)), .nil])), (96, some (.nst 5 38 [(4, 2, 188)] (r1.f1.map d38) [])), (112, some (.box [.d (.v (.int .i64 r1.f0)), .ref 96]))], 240⟩ ?_
   refine if_ (b := (r7 == 1)) (fun hb20 => ?_) (fun hb20 => ?_)
   ·replace hb20 := eq_of_beq (hb20)
    refine rs 1 ?_
    obtain ⟨r21, i24, h25, hr23, hi26, hf22⟩ := s_l4Any bs i10 h11 (by first | assumption | omega) (by omega)
    obtain ⟨hgl, hgs⟩ := hr23
    refine CH.call hf22 Try.func110 ⟨rfl, rfl⟩ [(0, 0)] (by kernel_rfl) (by kernel_rfl) (by kernel_rfl) (by kernel_rfl) ?_
    refine go 2 ?_
    refine ek ⟨[(2, .pt 64 0 0), (3, .pt 112 0 0)], [(0, some (.box [.k 0 (.sl (bs.map dB)), .d (.v (.int .i64 i24)), .d (.v (.int .i64 h25))])), (64, some (.box [.d (.v (.int .i64 0)), .nil])), (112, some (.box [.d (.v (.int .i64 r1.f0)), .ref 256])), (256, some (.nst 5 38 [(4, 2, 188)] (r21.map d38) []))], 304⟩ ?_
    refine sk ⟨[(2, .pt 64 0 0)], [(0, some (.box [.k 0 (.sl (bs.map dB)), .d (.v (.int .i64 i24)), .d (.v (.int .i64 h25))])), (64, some (.box [.d (.v (.int .i64 r1.f0)), .ref 256])), (256, some (.nst 5 38 [(4, 2, 188)] (r21.map d38) []))], 336⟩ ?_
    refine X.ret ?_
    exact ⟨trivial, _, _, ⟨(⟨r1.f0, r21⟩ : S27), i24, h25, (by first | exact ⟨hgl, hgs⟩), (by omega), rfl, rfl⟩, .inl (Ret.mk' [(64, 256)] (by kernel_rfl) (by kernel_rfl) (by kernel_rfl))⟩
   ·replace hb20 := beq_eq_false_iff_ne.1 (hb20)
    refine X.skip ?_
    refine sk ⟨[(2, .pt 64 0 0)], [(0, some (.box [.k 0 (.sl (bs.map dB)), .d (.v (.int .i64 i10)), .d (.v (.int .i64 h11))])), (64, some (.box [.d (.v (.int .i64 r1.f0)), .ref 96])), (96, some (.nst 5 38 [(4, 2, 188)] (r1.f1.map d38) []))], 272⟩ ?_
    refine X.ret ?_
    exact ⟨trivial, _, _, ⟨r1, i10, h11, (by first | exact ⟨hgl, hgs⟩), (by omega), rfl, rfl⟩, .inl (Ret.mk' [(64, 96)] (by kernel_rfl) (by kernel_rfl) (by kernel_rfl))⟩
 obtain ⟨_, _, ⟨r0, i1, h1, h1_, h2_, rfl, rfl⟩, hf⟩ := key
 exact ⟨r0, i1, h1, h1_, h2_, hf⟩

theorem s_l6Tx (bs : List Int) (i0 : Int) (h0 : Int) (hl : bs.length ≤ 4611686018427387904) (hi : 0 ≤ i0 ∧ i0 ≤ bs.length) (g : S27) (hg : acsSm g.f1) : ∃ r0 : S35, ∃ i1 : Int, ∃ h1 : Int, (Sm35 r0) ∧ (0 ≤ i1 ∧ i1 ≤ bs.length) ∧ Fn Try.prog 113 [.pt 0 0 0, .e (.agg [.d (.v (.int .i64 g.f0)), .d (.sl (g.f1.map d38))])] (lookH [(0, some (.box [.k 0 (.sl (bs.map dB)), .k 1 (.v (.int .i64 i0)), .k 2 (.v (.int .i64 h0))]))]) (.e (.agg [.d (.v (.int .i64 r0.f0)), .d (.v (.string r0.f1)), .d (.v (.string r0.f2)), .d (.v (.int .i64 r0.f3)), .d (.v (.int .i64 r0.f4))])) (lookH [(0, some (.box [.k 0 (.sl (bs.map dB)), .d (.v (.int .i64 i1)), .d (.v (.int .i64 h1))]))]) := by
 have key : ∃ x' h', ((fun x' h' => ∃ r0 : S35, ∃ i1 : Int, ∃ h1 : Int, (Sm35 r0) ∧ (0 ≤ i1 ∧ i1 ≤ bs.length) ∧ x' = .e (.agg [.d (.v (.int .i64 r0.f0)), .d (.v (.string r0.f1)), .d (.v (.string r0.f2)), .d (.v (.int .i64 r0.f3)), .d (.v (.int .i64 r0.f4))]) ∧ h' = [(0, some (.box [.k 0 (.sl (bs.map dB)), .d (.v (.int .i64 i1)), .d (.v (.int .i64 h1))]))])) x' h' ∧ Fn Try.prog 113 [.pt 0 0 0, .e (.agg [.d (.v (.int .i64 g.f0)), .d (.sl (g.f1.map d38))])] (lookH [(0, some (.box [.k 0 (.sl (bs.map dB)), .k 1 (.v (.int .i64 i0)), .k 2 (.v (.int .i64 h0))]))]) x' (lookH h') := by
  refine Fn.bodyX (N := 34) hτ Try.func113 rfl rfl rfl rfl ?_
  refine sk ⟨[(0, .pt 0 0 0), (3, .pt 64 0 0), (4, .pt 80 0 0)], [(0, some (.box [.k 0 (.sl (bs.map dB)), .d (.v (.int .i64 i0)), .d (.v (.int .i64 h0))])), (64, some (.box [.d (.v (.int .i64 g.f0)), .d (.sl (g.f1.map d38))])), (80, some (.box [.d (.v (.int .i64 0)), .d (.v (.string (⟨#[]⟩ : ByteArray))), .d (.v (.string (⟨#[]⟩ : ByteArray))), .d (.v (.int .i64 0)), .d (.v (.int .i64 0))]))], 96⟩ ?_
  refine X.seq ?_
  have hll := hg.1
  refine rs 1 ?_
  obtain ⟨r1, i4, h5, hr3, hi6, hf2⟩ := s_l5Tx bs i0 h0 (by first | assumption | omega) (by omega)
  have ht := hr3
  refine CH.call hf2 Try.func160 ⟨rfl, rfl⟩ [(0, 0)] (by kernel_rfl) (by kernel_rfl) (by kernel_rfl) (by kernel_rfl) ?_
  refine go 2 ?_
  refine ek ⟨[(0, .pt 0 0 0), (3, .pt 64 0 0), (4, .pt 80 0 0), (5, .pt 128 0 0)], [(0, some (.box [.k 0 (.sl (bs.map dB)), .d (.v (.int .i64 i4)), .d (.v (.int .i64 h5))])), (64, some (.box [.d (.v (.int .i64 g.f0)), .d (.sl (g.f1.map d38))])), (80, some (.box [.d (.v (.int .i64 0)), .d (.v (.string (⟨#[]⟩ : ByteArray))), .d (.v (.string (⟨#[]⟩ : ByteArray))), .d (.v (.int .i64 0)), .d (.v (.int .i64 0))])), (128, some (.box (cD (d35 r1))))], 160⟩ ?_
  refine X.seq ?_
  refine X.seq ?_
  have el7 : (g.f1.map d38).length = g.f1.length := List.length_map ..
  refine rs 5 ?_
  rcases Bool.eq_false_or_eq_true (decide ((((g.f1.map d38).length : Int) : Int) > 0)) with hb8 | hb8
  ·refine aT 12 hb8 ?_
   refine aT 13 hb8 ?_
   replace hb8 := of_decide_eq_true (hb8)
   refine go 1 ?_
   obtain ⟨r9, i12, h13, hr11, hi14, hf10⟩ := s_l1Once bs i4 h5 (by first | assumption | omega) (by omega) 5
   refine CH.call hf10 Try.func44 ⟨rfl, rfl⟩ [(0, 0)] (by kernel_rfl) (by kernel_rfl) (by kernel_rfl) (by kernel_rfl) ?_
   refine go 2 ?_
   refine ek ⟨[(0, .pt 0 0 0), (3, .pt 64 0 0), (4, .pt 80 0 0), (5, .pt 128 0 0), (17, bV (!r9))], [(0, some (.box [.k 0 (.sl (bs.map dB)), .d (.v (.int .i64 i12)), .d (.v (.int .i64 h13))])), (64, some (.box [.d (.v (.int .i64 g.f0)), .d (.sl (g.f1.map d38))])), (80, some (.box [.d (.v (.int .i64 0)), .d (.v (.string (⟨#[]⟩ : ByteArray))), .d (.v (.string (⟨#[]⟩ : ByteArray))), .d (.v (.int .i64 0)), .d (.v (.int .i64 0))])), (128, some (.box (cD (d35 r1))))], 304⟩ ?_
   refine if_ (b := !r9) (fun hb15 => ?_) (fun hb15 => ?_)
   ·replace hb15 := bnot_yes (hb15)
    refine X.seq (rs 6 ?_)
    obtain ⟨r16, i19, h20, hr18, hi21, hf17⟩ := s_l1Below bs i12 h13 (by first | assumption | omega) (by omega) ((g.f1.map d38).length : Int)
    obtain ⟨_, _⟩ := hr18
    refine CH.call hf17 Try.func108 ⟨rfl, rfl⟩ [(0, 0)] (by kernel_rfl) (by kernel_rfl) (by kernel_rfl) (by kernel_rfl) ?_
    obtain ⟨x22, hx22⟩ : ∃ x, g.f1[Int.toNat r16]? = some x := ⟨_, List.getElem?_eq_getElem (by first | omega | (simp; done) | (simp; omega))⟩
    have hx4 := all_at hg.2 hx22
    refine CH.idx hτ (d38 x22) (rows := (g.f1.map d38)) (n := r16) (sz := 5) (by kernel_rfl) (by kernel_rfl) (by first | omega | (simp; done) | (simp; omega)) (by rw [List.getElem?_map, hx22]; rfl) (by kernel_rfl) ?_
    refine go 3 ?_
    refine ek ⟨[(4, .pt 80 0 0), (5, .pt 128 0 0), (6, .pt 448 0 0)], [(0, some (.box [.k 0 (.sl (bs.map dB)), .d (.v (.int .i64 i19)), .d (.v (.int .i64 h20))])), (80, some (.box [.d (.v (.int .i64 0)), .d (.v (.string (⟨#[]⟩ : ByteArray))), .d (.v (.string (⟨#[]⟩ : ByteArray))), .d (.v (.int .i64 0)), .d (.v (.int .i64 0))])), (128, some (.box (cD (d35 r1)))), (448, some (.box (cD (d38 x22))))], 480⟩ ?_
    refine sk ⟨[(4, .pt 80 0 0), (5, .pt 128 0 0), (6, .pt 448 0 0)], [(0, some (.box [.k 0 (.sl (bs.map dB)), .d (.v (.int .i64 i19)), .d (.v (.int .i64 h20))])), (80, some (.box [.d (.v (.int .i64 0)), .d (.v (.string (⟨#[]⟩ : ByteArray))), .d (.v (.string (⟨#[]⟩ : ByteArray))), .d (.v (.int .i64 0)), .d (.v (.int .i64 0))])), (128, some (.box [.d (.v (.int .i64 r1.f0)), .d (.v (.string x22.f0)), .d (.v (.string r1.f2)), .d (.v (.int .i64 r1.f3)), .d (.v (.int .i64 r1.f4))])), (448, some (.box (cD (d38 x22))))], 544⟩ ?_
    refine rk ⟨[(4, .pt 80 0 0), (5, .pt 128 0 0)], [(0, some (.box [.k 0 (.sl (bs.map dB)), .d (.v (.int .i64 i19)), .d (.v (.int .i64 h20))])), (80, some (.box [.d (.v (.int .i64 0)), .d (.v (.string (⟨#[]⟩ : ByteArray))), .d (.v (.string (⟨#[]⟩ : ByteArray))), .d (.v (.int .i64 0)), .d (.v (.int .i64 0))])), (128, some (.box [.d (.v (.int .i64 r1.f0)), .d (.v (.string x22.f0)), .d (.v (.string r1.f2)), .d (.v (.int .i64 r1.f3)), .d (.v (.int .i64 x22.f2))]))], 608⟩ ?_
    refine sk ⟨[(4, .pt 80 0 0)], [(0, some (.box [.k 0 (.sl (bs.map dB)), .d (.v (.int .i64 i19)), .d (.v (.int .i64 h20))])), (80, some (.box [.d (.v (.int .i64 r1.f0)), .d (.v (.string x22.f0)), .d (.v (.string r1.f2)), .d (.v (.int .i64 r1.f3)), .d (.v (.int .i64 x22.f2))]))], 640⟩ ?_
    refine X.ret ?_
    exact ⟨trivial, _, _, ⟨(⟨r1.f0, x22.f0, r1.f2, r1.f3, x22.f2⟩ : S35), i19, h20, (by first | exact ht | exact ⟨hx4.1, ht.2⟩ | exact ⟨ht.1, hx4.1⟩), (by omega), rfl, rfl⟩, mkr⟩
   ·replace hb15 := bnot_no (hb15)
    refine X.skip ?_
    refine sk ⟨[(4, .pt 80 0 0)], [(0, some (.box [.k 0 (.sl (bs.map dB)), .d (.v (.int .i64 i12)), .d (.v (.int .i64 h13))])), (80, some (.box (cD (d35 r1))))], 336⟩ ?_
    refine X.ret ?_
    exact ⟨trivial, _, _, ⟨r1, i12, h13, (by first | exact ht | exact ⟨hx4.1, ht.2⟩ | exact ⟨ht.1, hx4.1⟩), (by omega), rfl, rfl⟩, mkr⟩
  ·refine aF 12 hb8 ?_
   refine aF 13 hb8 ?_
   replace hb8 := of_decide_eq_false (hb8)
   refine go 4 ?_
   refine ek ⟨[(0, .pt 0 0 0), (3, .pt 64 0 0), (4, .pt 80 0 0), (5, .pt 128 0 0), (17, bV false)], [(0, some (.box [.k 0 (.sl (bs.map dB)), .d (.v (.int .i64 i4)), .d (.v (.int .i64 h5))])), (64, some (.box [.d (.v (.int .i64 g.f0)), .d (.sl (g.f1.map d38))])), (80, some (.box [.d (.v (.int .i64 0)), .d (.v (.string (⟨#[]⟩ : ByteArray))), .d (.v (.string (⟨#[]⟩ : ByteArray))), .d (.v (.int .i64 0)), .d (.v (.int .i64 0))])), (128, some (.box (cD (d35 r1))))], 304⟩ ?_
   refine X.ifF (by kernel_rfl) ?_
   refine X.skip ?_
   refine sk ⟨[(4, .pt 80 0 0)], [(0, some (.box [.k 0 (.sl (bs.map dB)), .d (.v (.int .i64 i4)), .d (.v (.int .i64 h5))])), (80, some (.box (cD (d35 r1))))], 336⟩ ?_
   refine X.ret ?_
   exact ⟨trivial, _, _, ⟨r1, i4, h5, (by first | exact ht | exact ⟨hx4.1, ht.2⟩ | exact ⟨ht.1, hx4.1⟩), (by omega), rfl, rfl⟩, mkr⟩
 obtain ⟨_, _, ⟨r0, i1, h1, h1_, h2_, rfl, rfl⟩, hf⟩ := key
 exact ⟨r0, i1, h1, h1_, h2_, hf⟩

theorem s_l6Txs (bs : List Int) (i0 : Int) (h0 : Int) (hl : bs.length ≤ 4611686018427387904) (hi : 0 ≤ i0 ∧ i0 ≤ bs.length) (g : S27) (most : Int) (hg : acsSm g.f1) (hm : most ≤ 90000) : ∃ r0 : List S35, ∃ i1 : Int, ∃ h1 : Int, (SmT r0 ∧ r0.length ≤ 90000) ∧ (0 ≤ i1 ∧ i1 ≤ bs.length) ∧ Fn Try.prog 45 [.pt 0 0 0, .e (.agg [.d (.v (.int .i64 g.f0)), .d (.sl (g.f1.map d38))]), iV most] (lookH [(0, some (.box [.k 0 (.sl (bs.map dB)), .k 1 (.v (.int .i64 i0)), .k 2 (.v (.int .i64 h0))]))]) (rV 64) (lookH [(0, some (.box [.k 0 (.sl (bs.map dB)), .d (.v (.int .i64 i1)), .d (.v (.int .i64 h1))])), (64, some (.row 5 35 (r0.map d35) false true))]) := by
 have key : ∃ x' h', ((fun x' h' => ∃ r0 : List S35, ∃ i1 : Int, ∃ h1 : Int, (SmT r0 ∧ r0.length ≤ 90000) ∧ (0 ≤ i1 ∧ i1 ≤ bs.length) ∧ x' = rV 64 ∧ h' = [(0, some (.box [.k 0 (.sl (bs.map dB)), .d (.v (.int .i64 i1)), .d (.v (.int .i64 h1))])), (64, some (.row 5 35 (r0.map d35) false true))])) x' h' ∧ Fn Try.prog 45 [.pt 0 0 0, .e (.agg [.d (.v (.int .i64 g.f0)), .d (.sl (g.f1.map d38))]), iV most] (lookH [(0, some (.box [.k 0 (.sl (bs.map dB)), .k 1 (.v (.int .i64 i0)), .k 2 (.v (.int .i64 h0))]))]) x' (lookH h') := by
  refine Fn.bodyX (N := 32) hτ Try.func45 rfl rfl rfl rfl ?_
  refine sk ⟨[(0, .pt 0 0 0), (2, iV most), (4, .pt 64 0 0)], [(0, some (.box [.k 0 (.sl (bs.map dB)), .d (.v (.int .i64 i0)), .d (.v (.int .i64 h0))])), (64, some (.box [.d (.v (.int .i64 g.f0)), .d (.sl (g.f1.map d38))]))], 96⟩ ?_
  refine sk ⟨[(0, .pt 0 0 0), (2, iV most), (4, .pt 64 0 0), (7, rV 96)], [(0, some (.box [.k 0 (.sl (bs.map dB)), .d (.v (.int .i64 i0)), .d (.v (.int .i64 h0))])), (64, some (.box [.d (.v (.int .i64 g.f0)), .d (.sl (g.f1.map d38))])), (96, some (.row 5 35 [] false true))], 128⟩ ?_
  refine X.seq ?_
  refine X.seq (rs 2 ?_)
  obtain ⟨r1, i4, h5, hr3, hi6, hf2⟩ := s_l1Below bs i0 h0 (by first | assumption | omega) (by omega) most
  obtain ⟨_, _⟩ := hr3
  refine CH.call hf2 Try.func108 ⟨rfl, rfl⟩ [(0, 0)] (by kernel_rfl) (by kernel_rfl) (by kernel_rfl) (by kernel_rfl) ?_
  refine go 1 ?_
  refine ek ⟨[(0, .pt 0 0 0), (4, .pt 64 0 0), (7, rV 96), (8, iV r1)], [(0, some (.box [.k 0 (.sl (bs.map dB)), .d (.v (.int .i64 i4)), .d (.v (.int .i64 h5))])), (64, some (.box [.d (.v (.int .i64 g.f0)), .d (.sl (g.f1.map d38))])), (96, some (.row 5 35 [] false true))], 192⟩ ?_
  refine X.block ?_
  -- 3: c0_1 : Int, c0_2 : Int, c64_0 : Int, c64_1 : List S38, Lv7 : List S35, v8 : Int
  refine X.loop (σ := { g : Int × Int × Int × (List S38) × (List S35) × Int // (fun (c0_1 : Int) (c0_2 : Int) (c64_0 : Int) (c64_1 : List S38) (Lv7 : List S35) (v8 : Int) => (0 ≤ c0_1 ∧ c0_1 ≤ bs.length) ∧ (0 ≤ v8 ∧ (Lv7.length : Int) + v8 ≤ 90000 ∧ (∀ x, x ∈ Lv7 → Sm35 x) ∧ acsSm c64_1)) g.1 g.2.1 g.2.2.1 g.2.2.2.1 g.2.2.2.2.1 g.2.2.2.2.2 }) (fun g => (fun (c0_1 : Int) (c0_2 : Int) (c64_0 : Int) (c64_1 : List S38) (Lv7 : List S35) (v8 : Int) => ⟨[(0, .pt 0 0 0), (4, .pt 64 0 0), (7, rV 96), (8, iV v8)], [(0, some (.box [.k 0 (.sl (bs.map dB)), .d (.v (.int .i64 c0_1)), .d (.v (.int .i64 c0_2))])), (64, some (.box [.d (.v (.int .i64 c64_0)), .d (.sl (c64_1.map d38))])), (96, some (.row 5 35 (Lv7.map d35) false true))], 192⟩) g.1.1 g.1.2.1 g.1.2.2.1 g.1.2.2.2.1 g.1.2.2.2.2.1 g.1.2.2.2.2.2) (fun g => (fun (c0_1 : Int) (c0_2 : Int) (c64_0 : Int) (c64_1 : List S38) (Lv7 : List S35) (v8 : Int) => v8.toNat) g.1.1 g.1.2.1 g.1.2.2.1 g.1.2.2.2.1 g.1.2.2.2.2.1 g.1.2.2.2.2.2) ⟨(i4, h5, g.f0, g.f1, [], r1), ⟨by first | omega | (dsimp only; omega), ⟨by first | omega | (dsimp only; omega), by simp; omega, all_nil, hg⟩⟩⟩ (Wk.less (by kernel_rfl)) (fun g => ?_)
  obtain ⟨⟨c0_1, c0_2, c64_0, c64_1, Lv7, v8⟩, hg8⟩ := g
  have hg8 : (0 ≤ c0_1 ∧ c0_1 ≤ bs.length) ∧ (0 ≤ v8 ∧ (Lv7.length : Int) + v8 ≤ 90000 ∧ (∀ x, x ∈ Lv7 → Sm35 x) ∧ acsSm c64_1) := hg8
  obtain ⟨⟨_, _⟩, ⟨_, _, hA, hG⟩⟩ := hg8
  refine X.seq ?_
  refine sk ⟨[(0, .pt 0 0 0), (4, .pt 64 0 0), (7, rV 96), (8, iV v8), (15, bV (decide ((v8 : Int) > 0)))], [(0, some (.box [.k 0 (.sl (bs.map dB)), .d (.v (.int .i64 c0_1)), .d (.v (.int .i64 c0_2))])), (64, some (.box [.d (.v (.int .i64 c64_0)), .d (.sl (c64_1.map d38))])), (96, some (.row 5 35 (Lv7.map d35) false true))], 224⟩ ?_
  refine if_ (b := decide ((v8 : Int) > 0)) (fun hb9 => ?_) (fun hb9 => ?_)
  ·replace hb9 := of_decide_eq_true (hb9)
   refine X.skip ?_
   refine X.seq ?_
   refine X.block ?_
   refine X.seq (rs 2 ?_)
   obtain ⟨r10, i13, h14, hr12, hi15, hf11⟩ := s_l6Tx bs c0_1 c0_2 (by first | assumption | omega) (by omega) (⟨c64_0, c64_1⟩ : S27) (by assumption)
   have ht := hr12
   refine CH.call hf11 Try.func113 ⟨rfl, rfl⟩ [(0, 0)] (by kernel_rfl) (by kernel_rfl) (by kernel_rfl) (by kernel_rfl) ?_
   refine go 2 ?_
   refine ek ⟨[(0, .pt 0 0 0), (4, .pt 64 0 0), (7, rV 96), (8, iV v8), (9, .pt 272 0 0)], [(0, some (.box [.k 0 (.sl (bs.map dB)), .d (.v (.int .i64 i13)), .d (.v (.int .i64 h14))])), (64, some (.box [.d (.v (.int .i64 c64_0)), .d (.sl (c64_1.map d38))])), (96, some (.row 5 35 (Lv7.map d35) false true)), (272, some (.box (cD (d35 r10))))], 304⟩ ?_
   refine X.seq (rs 3 ?_)
   have el16 : (Lv7.map d35).length = Lv7.length := List.length_map ..
   have el17 : (([r10] : List S35).map d35).length = ([r10] : List S35).length := List.length_map ..
   have el18 : ([r10] : List S35).length = 1 := rfl
   refine CH.app hτ (rows := (Lv7.map d35)) (rows2 := (([r10] : List S35).map d35)) (sz := 5) (bys := 56) true (by kernel_rfl) (by kernel_rfl) (fun _ => flat_d d35 (fun x => rfl)) (flat_ok (f := d35) (fun x => rfl)) (by simp only [List.length_map] <;> (first | done | omega | (simp; done) | (simp; omega))) (by kernel_rfl) ?_
   refine go 1 ?_
   refine CH.endk ⟨[(0, .pt 0 0 0), (4, .pt 64 0 0), (7, rV 352), (8, iV v8), (9, .pt 272 0 0)], [(0, some (.box [.k 0 (.sl (bs.map dB)), .d (.v (.int .i64 i13)), .d (.v (.int .i64 h14))])), (64, some (.box [.d (.v (.int .i64 c64_0)), .d (.sl (c64_1.map d38))])), (272, some (.box (cD (d35 r10)))), (352, some (.row 5 35 ((Lv7.map d35) ++ (([r10] : List S35).map d35)) false true))], 384⟩ (by kernel_rfl) (by kernel_rfl) (s2 := ⟨[(0, .pt 0 0 0), (4, .pt 64 0 0), (7, rV 352), (8, iV v8), (9, .pt 272 0 0)], [(0, some (.box [.k 0 (.sl (bs.map dB)), .d (.v (.int .i64 i13)), .d (.v (.int .i64 h14))])), (64, some (.box [.d (.v (.int .i64 c64_0)), .d (.sl (c64_1.map d38))])), (272, some (.box (cD (d35 r10)))), (352, some (.row 5 35 ((Lv7 ++ ([r10] : List S35)).map d35) false true))], 384⟩) (congrArg (fun z : List (List D) => (⟨[(0, .pt 0 0 0), (4, .pt 64 0 0), (7, rV 352), (8, iV v8), (9, .pt 272 0 0)], [(0, some (.box [.k 0 (.sl (bs.map dB)), .d (.v (.int .i64 i13)), .d (.v (.int .i64 h14))])), (64, some (.box [.d (.v (.int .i64 c64_0)), .d (.sl (c64_1.map d38))])), (272, some (.box (cD (d35 r10)))), (352, some (.row 5 35 z false true))], 384⟩ : St)) (show (Lv7.map d35) ++ (([r10] : List S35).map d35) = ((Lv7 ++ ([r10] : List S35)).map d35) from List.map_append.symm)) ?_
   refine rs 2 ?_
   obtain ⟨r19, r20, hr22, hf21⟩ := s_Apply (⟨c64_0, c64_1⟩ : S27) r10 (by assumption) (by assumption)
   obtain ⟨e23, e24⟩ := hr22
   replace e23 := e23.symm; subst e23
   replace e24 := e24.symm; subst e24
   have hap := ap_sm (t := r10) (g := (⟨c64_0, c64_1⟩ : S27)) (by assumption) (by assumption)
   refine ca hf21 Try.func53 ?_
   refine go 4 ?_
   refine ek ⟨[(0, .pt 0 0 0), (4, .pt 64 0 0), (7, rV 352), (8, iV v8)], [(0, some (.box [.k 0 (.sl (bs.map dB)), .d (.v (.int .i64 i13)), .d (.v (.int .i64 h14))])), (64, some (.box [.d (.v (.int .i64 (((apW (⟨c64_0, c64_1⟩ : S27) r10).1).f0))), .ref 416])), (352, some (.row 5 35 ((Lv7 ++ ([r10] : List S35)).map d35) false true)), (416, some (.row 5 38 ((((apW (⟨c64_0, c64_1⟩ : S27) r10).1).f1).map d38) false true))], 496⟩ ?_
   refine X.weak (Wk.less (s1 := ⟨[(0, .pt 0 0 0), (4, .pt 64 0 0), (7, rV 352), (8, iV v8)], [(0, some (.box [.k 0 (.sl (bs.map dB)), .d (.v (.int .i64 i13)), .d (.v (.int .i64 h14))])), (64, some (.box [.d (.v (.int .i64 (((apW (⟨c64_0, c64_1⟩ : S27) r10).1).f0))), .f (.sl ((((apW (⟨c64_0, c64_1⟩ : S27) r10).1).f1).map d38))])), (352, some (.row 5 35 ((Lv7 ++ ([r10] : List S35)).map d35) false true)), (416, some (.row 5 38 ((((apW (⟨c64_0, c64_1⟩ : S27) r10).1).f1).map d38) true true))], 496⟩) (by kernel_rfl)) ?_
   refine X.rk ⟨[(0, .pt 0 0 0), (4, .pt 64 0 0), (7, rV 352), (8, iV (wrap64 (v8 - 1)))], [(0, some (.box [.k 0 (.sl (bs.map dB)), .d (.v (.int .i64 i13)), .d (.v (.int .i64 h14))])), (64, some (.box [.d (.v (.int .i64 (((apW (⟨c64_0, c64_1⟩ : S27) r10).1).f0))), .f (.sl ((((apW (⟨c64_0, c64_1⟩ : S27) r10).1).f1).map d38))])), (352, some (.row 5 35 ((Lv7 ++ ([r10] : List S35)).map d35) false true))], 544⟩ hτ hmix (by kernel_rfl) (by kernel_rfl) (s2 := ⟨[(0, .pt 0 0 0), (4, .pt 64 0 0), (7, rV 352), (8, iV (v8 - 1))], [(0, some (.box [.k 0 (.sl (bs.map dB)), .d (.v (.int .i64 i13)), .d (.v (.int .i64 h14))])), (64, some (.box [.d (.v (.int .i64 (((apW (⟨c64_0, c64_1⟩ : S27) r10).1).f0))), .f (.sl ((((apW (⟨c64_0, c64_1⟩ : S27) r10).1).f1).map d38))])), (352, some (.row 5 35 ((Lv7 ++ ([r10] : List S35)).map d35) false true))], 544⟩) (congrArg (fun z : Int => (⟨[(0, .pt 0 0 0), (4, .pt 64 0 0), (7, rV 352), (8, iV z)], [(0, some (.box [.k 0 (.sl (bs.map dB)), .d (.v (.int .i64 i13)), .d (.v (.int .i64 h14))])), (64, some (.box [.d (.v (.int .i64 (((apW (⟨c64_0, c64_1⟩ : S27) r10).1).f0))), .f (.sl ((((apW (⟨c64_0, c64_1⟩ : S27) r10).1).f1).map d38))])), (352, some (.row 5 35 ((Lv7 ++ ([r10] : List S35)).map d35) false true))], 544⟩ : St)) (show wrap64 (v8 - 1) = (v8 - 1) by rw [w64 (n := (v8 - 1)) (by omega) (by omega)])) ?_
   refine ⟨⟨(i13, h14, ((apW (⟨c64_0, c64_1⟩ : S27) r10).1).f0, ((apW (⟨c64_0, c64_1⟩ : S27) r10).1).f1, (Lv7 ++ ([r10] : List S35)), (v8 - 1)), ⟨by first | omega | (dsimp only; omega), ⟨by first | omega | (dsimp only; omega), by first | omega | (simp only [List.length_append, List.length_cons, List.length_nil]; (first | omega | (dsimp only; omega))), all_app hA (all_one ht), hap⟩⟩⟩, by first | exact rfl | omega | (dsimp only; omega) | (simp only [List.length_append, List.length_cons, List.length_nil, List.length_set]; omega) | (simp; done) | (simp; omega), Wk.mk' [(64, 64), (96, 352)] (by kernel_rfl) (by kernel_rfl) (by kernel_rfl)⟩
  ·replace hb9 := of_decide_eq_false (hb9)
   refine X.exit ?_
   refine sk ⟨[(6, rV 96)], [(0, some (.box [.k 0 (.sl (bs.map dB)), .d (.v (.int .i64 c0_1)), .d (.v (.int .i64 c0_2))])), (96, some (.row 5 35 (Lv7.map d35) false true))], 256⟩ ?_
   refine X.ret ?_
   exact ⟨trivial, _, _, ⟨Lv7, c0_1, c0_2, ⟨⟨by omega, hA⟩, by omega⟩, (by omega), rfl, rfl⟩, .inl (Ret.mk' [(64, 96)] (by kernel_rfl) (by kernel_rfl) (by kernel_rfl))⟩
 obtain ⟨_, _, ⟨r0, i1, h1, h1_, h2_, rfl, rfl⟩, hf⟩ := key
 exact ⟨r0, i1, h1, h1_, h2_, hf⟩

theorem s_DrawPoolFit (code : List Int) (hl : code.length ≤ 4611686018427387904) : ∃ r0 : List S35, ∃ r1 : S27, (SmT r0 ∧ r0.length ≤ 90001 ∧ acsSm r1.f1) ∧ Fn Try.prog 8 [lV (code.map dB)] (lookH []) (.tup [.c (.f (.sl (r0.map d35))), .agg [.d (.v (.int .i64 r1.f0)), .f (.sl (r1.f1.map d38))]]) (lookH []) := by
 have key : ∃ x' h', ((fun x' h' => ∃ r0 : List S35, ∃ r1 : S27, (SmT r0 ∧ r0.length ≤ 90001 ∧ acsSm r1.f1) ∧ x' = .tup [.c (.f (.sl (r0.map d35))), .agg [.d (.v (.int .i64 r1.f0)), .f (.sl (r1.f1.map d38))]] ∧ h' = [])) x' h' ∧ Fn Try.prog 8 [lV (code.map dB)] (lookH []) x' (lookH h') := by
  refine Fn.bodyX (N := 22) hτ Try.func8 rfl rfl rfl rfl ?_
  refine sk ⟨[(0, lV (code.map dB)), (3, .pt 80 0 0)], [(80, some (.box [.d (.v (.int .i64 0)), .nil]))], 96⟩ ?_
  refine X.seq (rs 1 ?_)
  obtain ⟨i1, h2, hq4, hf3⟩ := s_l1New code (by first | assumption | omega)
  refine CH.callK hf3 Try.func40 ⟨rfl, rfl⟩ (by kernel_rfl) (by kernel_rfl) (by kernel_rfl) (by kernel_rfl) ?_
  refine go 1 ?_
  refine ek ⟨[(0, lV (code.map dB)), (3, .pt 80 0 0), (4, .pt 112 0 0)], [(80, some (.box [.d (.v (.int .i64 0)), .nil])), (112, some (.box [.d (.sl (code.map dB)), .d (.v (.int .i64 i1)), .d (.v (.int .i64 h2))]))], 144⟩ ?_
  refine X.seq (rs 1 ?_)
  obtain ⟨r5, i8, h9, hr7, hi10, hf6⟩ := s_l6Any code i1 h2 (by first | assumption | omega) (by omega)
  obtain ⟨hgl, hgs⟩ := hr7
  refine CH.call hf6 Try.func41 ⟨rfl, rfl⟩ [(112, 0)] (by kernel_rfl) (by kernel_rfl) (by kernel_rfl) (by kernel_rfl) ?_
  refine go 2 ?_
  refine ek ⟨[(0, lV (code.map dB)), (3, .pt 80 0 0), (4, .pt 112 0 0), (5, .pt 176 0 0)], [(80, some (.box [.d (.v (.int .i64 0)), .nil])), (112, some (.box [.d (.sl (code.map dB)), .d (.v (.int .i64 i8)), .d (.v (.int .i64 h9))])), (160, some (.nst 5 38 [(4, 2, 188)] (r5.f1.map d38) [])), (176, some (.box [.d (.v (.int .i64 r5.f0)), .ref 160]))], 208⟩ ?_
  refine X.seq ?_
  have hGs := acS3_sm hgl (by omega) (by omega) hgs
  refine rs 2 ?_
  obtain ⟨r11, hr13, hf12⟩ := s_l1Size code 8 (by omega)
  have hz := hr13
  refine ca hf12 Try.func43 ?_
  obtain ⟨r14, i17, h18, hr16, hi19, hf15⟩ := s_l12Any code i8 h9 (by first | assumption | omega) (by omega) r11 (by omega)
  obtain ⟨hL, hLl⟩ := hr16
  refine CH.call hf15 Try.func42 ⟨rfl, rfl⟩ [(112, 0)] (by kernel_rfl) (by kernel_rfl) (by kernel_rfl) (by kernel_rfl) ?_
  refine go 1 ?_
  refine ek ⟨[(3, .pt 80 0 0), (4, .pt 112 0 0), (5, .pt 176 0 0), (6, rV 256)], [(80, some (.box [.d (.v (.int .i64 0)), .nil])), (112, some (.box [.d (.sl (code.map dB)), .d (.v (.int .i64 i17)), .d (.v (.int .i64 h18))])), (160, some (.nst 5 38 [(4, 2, 188)] (r5.f1.map d38) [])), (176, some (.box [.d (.v (.int .i64 r5.f0)), .ref 160])), (256, some (.row 5 35 (r14.map d35) false true))], 288⟩ ?_
  refine X.seq ?_
  refine X.seq (rs 1 ?_)
  obtain ⟨r20, i23, h24, hr22, hi25, hf21⟩ := s_l1Once code i17 h18 (by first | assumption | omega) (by omega) 2
  refine CH.call hf21 Try.func44 ⟨rfl, rfl⟩ [(112, 0)] (by kernel_rfl) (by kernel_rfl) (by kernel_rfl) (by kernel_rfl) ?_
  refine ek ⟨[(3, .pt 80 0 0), (4, .pt 112 0 0), (5, .pt 176 0 0), (6, rV 256), (16, bV r20)], [(80, some (.box [.d (.v (.int .i64 0)), .nil])), (112, some (.box [.d (.sl (code.map dB)), .d (.v (.int .i64 i23)), .d (.v (.int .i64 h24))])), (160, some (.nst 5 38 [(4, 2, 188)] (r5.f1.map d38) [])), (176, some (.box [.d (.v (.int .i64 r5.f0)), .ref 160])), (256, some (.row 5 35 (r14.map d35) false true))], 320⟩ ?_
  refine if_ (b := r20) (fun hb26 => ?_) (fun hb26 => ?_)
  ·refine rs 2 ?_
   obtain ⟨r27, i30, h31, hr29, hi32, hf28⟩ := s_l6Txs code i23 h24 (by first | assumption | omega) (by omega) r5 8 (by assumption) (by omega)
   obtain ⟨hL, hLl⟩ := hr29
   refine CH.call hf28 Try.func45 ⟨rfl, rfl⟩ [(112, 0)] (by kernel_rfl) (by kernel_rfl) (by kernel_rfl) (by kernel_rfl) ?_
   refine go 1 ?_
   refine ek ⟨[(3, .pt 80 0 0), (5, .pt 176 0 0), (6, rV 352)], [(80, some (.box [.d (.v (.int .i64 0)), .nil])), (160, some (.nst 5 38 [(4, 2, 188)] (r5.f1.map d38) [])), (176, some (.box [.d (.v (.int .i64 r5.f0)), .ref 160])), (352, some (.row 5 35 (r27.map d35) false true))], 384⟩ ?_
   refine sk ⟨[(2, rV 352), (3, .pt 80 0 0)], [(80, some (.box [.d (.v (.int .i64 r5.f0)), .ref 160])), (160, some (.nst 5 38 [(4, 2, 188)] (r5.f1.map d38) [])), (352, some (.row 5 35 (r27.map d35) false true))], 448⟩ ?_
   refine X.ret ?_
   exact ⟨trivial, _, _, ⟨r27, r5, (by first | exact ⟨hL, by omega, hGs⟩), rfl, rfl⟩, .inr ⟨⟨[(2, .e (.c (.f (.sl (r27.map d35))))), (3, .pt 80 0 0)], [(80, some (.box [.d (.v (.int .i64 r5.f0)), .f (.sl (r5.f1.map d38))])), (160, some (.row 5 38 (r5.f1.map d38) true true)), (352, some (.row 5 35 (r27.map d35) true true))], 448⟩, (Wk.frzN (wd := 5) (e := 38) (co := [(4, 2, 188)]) (rows := (r5.f1.map d38)) 160 (by kernel_rfl) (by kernel_rfl)).trans (Wk.less (by kernel_rfl)), Ret.mk' [] (by kernel_rfl) (by kernel_rfl) (by kernel_rfl)⟩⟩
  ·refine X.skip ?_
   refine sk ⟨[(2, rV 256), (3, .pt 80 0 0)], [(80, some (.box [.d (.v (.int .i64 r5.f0)), .ref 160])), (160, some (.nst 5 38 [(4, 2, 188)] (r5.f1.map d38) [])), (256, some (.row 5 35 (r14.map d35) false true))], 384⟩ ?_
   refine X.ret ?_
   exact ⟨trivial, _, _, ⟨r14, r5, (by first | exact ⟨hL, by omega, hGs⟩), rfl, rfl⟩, .inr ⟨⟨[(2, .e (.c (.f (.sl (r14.map d35))))), (3, .pt 80 0 0)], [(80, some (.box [.d (.v (.int .i64 r5.f0)), .f (.sl (r5.f1.map d38))])), (160, some (.row 5 38 (r5.f1.map d38) true true)), (256, some (.row 5 35 (r14.map d35) true true))], 384⟩, (Wk.frzN (wd := 5) (e := 38) (co := [(4, 2, 188)]) (rows := (r5.f1.map d38)) 160 (by kernel_rfl) (by kernel_rfl)).trans (Wk.less (by kernel_rfl)), Ret.mk' [] (by kernel_rfl) (by kernel_rfl) (by kernel_rfl)⟩⟩
 obtain ⟨_, _, ⟨r0, r1, h1_, rfl, rfl⟩, hf⟩ := key
 exact ⟨r0, r1, h1_, hf⟩

theorem s_PoolDrop (l : List S35) (q : S27) (hl : SmT l) (hg : acsSm q.f1) : ∃ r0 : List S35, (r0 = pdW l q) ∧ Fn Try.prog 13 [lV (l.map d35), .e (.agg [.d (.v (.int .i64 q.f0)), .d (.sl (q.f1.map d38))])] (lookH []) (.e (.c (.f (.sl (r0.map d35))))) (lookH []) := by
 have key : ∃ x' h', ((fun x' h' => ∃ r0 : List S35, (r0 = pdW l q) ∧ x' = .e (.c (.f (.sl (r0.map d35)))) ∧ h' = [])) x' h' ∧ Fn Try.prog 13 [lV (l.map d35), .e (.agg [.d (.v (.int .i64 q.f0)), .d (.sl (q.f1.map d38))])] (lookH []) x' (lookH h') := by
  refine Fn.bodyX (N := 47) hτ Try.func13 rfl rfl rfl rfl ?_
  refine sk ⟨[(0, lV (l.map d35)), (3, .pt 64 0 0)], [(64, some (.box [.d (.v (.int .i64 q.f0)), .d (.sl (q.f1.map d38))]))], 96⟩ ?_
  refine sk ⟨[(0, lV (l.map d35)), (3, .pt 64 0 0), (5, rV 96)], [(64, some (.box [.d (.v (.int .i64 q.f0)), .d (.sl (q.f1.map d38))])), (96, some (.row 5 35 [] false true))], 128⟩ ?_
  refine X.seq ?_
  refine X.seq ?_
  have hll := hl.1
  have hgl := hg.1
  refine rk ⟨[(0, lV (l.map d35)), (3, .pt 64 0 0), (5, rV 96), (6, iV 0)], [(64, some (.box [.d (.v (.int .i64 q.f0)), .d (.sl (q.f1.map d38))])), (96, some (.row 5 35 [] false true))], 144⟩ ?_
  refine X.block ?_
  -- 3: Lv5 : List S35, v6 : Int
  refine X.loop (σ := { g : (List S35) × Int // (fun (Lv5 : List S35) (v6 : Int) => 0 ≤ v6 ∧ v6 ≤ l.length ∧ Lv5.length ≤ (v6).toNat ∧ Lv5 = pdW (l.take (v6).toNat) q) g.1 g.2 }) (fun g => (fun (Lv5 : List S35) (v6 : Int) => ⟨[(0, lV (l.map d35)), (3, .pt 64 0 0), (5, rV 96), (6, iV v6)], [(64, some (.box [.d (.v (.int .i64 q.f0)), .d (.sl (q.f1.map d38))])), (96, some (.row 5 35 (Lv5.map d35) false true))], 144⟩) g.1.1 g.1.2) (fun g => (fun (Lv5 : List S35) (v6 : Int) => (l.length - v6).toNat) g.1.1 g.1.2) ⟨([], 0), ⟨by first | omega | (dsimp only; omega), by first | omega | (dsimp only; omega), by simp, pd_i0⟩⟩ (Wk.less (by kernel_rfl)) (fun g => ?_)
  obtain ⟨⟨Lv5, v6⟩, hg2⟩ := g
  have hg2 : 0 ≤ v6 ∧ v6 ≤ l.length ∧ Lv5.length ≤ (v6).toNat ∧ Lv5 = pdW (l.take (v6).toNat) q := hg2
  obtain ⟨_, _, hL, hE⟩ := hg2
  refine X.seq ?_
  refine X.seq ?_
  have el3 : (l.map d35).length = l.length := List.length_map ..
  refine rk ⟨[(0, lV (l.map d35)), (3, .pt 64 0 0), (5, rV 96), (6, iV v6), (12, bV (decide ((v6 : Int) < ((l.map d35).length : Int))))], [(64, some (.box [.d (.v (.int .i64 q.f0)), .d (.sl (q.f1.map d38))])), (96, some (.row 5 35 (Lv5.map d35) false true))], 208⟩ ?_
  refine if_ (b := decide ((v6 : Int) < ((l.map d35).length : Int))) (fun hb4 => ?_) (fun hb4 => ?_)
  ·replace hb4 := of_decide_eq_true (hb4)
   refine X.skip ?_
   refine X.seq ?_
   refine X.block ?_
   refine X.seq (rs 4 ?_)
   obtain ⟨x5, hx5⟩ : ∃ x, l[Int.toNat v6]? = some x := ⟨_, List.getElem?_eq_getElem (by first | omega | (simp; done) | (simp; omega))⟩
   refine CH.idx hτ (d35 x5) (rows := (l.map d35)) (n := v6) (sz := 5) (by kernel_rfl) (by kernel_rfl) (by first | omega | (simp; done) | (simp; omega)) (by rw [List.getElem?_map, hx5]; rfl) (by kernel_rfl) ?_
   refine go 2 ?_
   obtain ⟨r6, hr8, hf7⟩ := s_AcctAt q.f1 x5.f1 (by first | assumption | omega)
   replace hr8 := hr8.symm; subst hr8
   have hac := fi_bd (nmP x5.f1) q.f1
   change -1 ≤ acAt q.f1 x5.f1 ∧ acAt q.f1 x5.f1 < _ at hac
   refine ca hf7 Try.func50 ?_
   refine go 1 ?_
   refine ek ⟨[(0, lV (l.map d35)), (3, .pt 64 0 0), (5, rV 96), (6, iV v6), (7, iV (acAt q.f1 x5.f1))], [(64, some (.box [.d (.v (.int .i64 q.f0)), .d (.sl (q.f1.map d38))])), (96, some (.row 5 35 (Lv5.map d35) false true))], 352⟩ ?_
   refine X.seq (rs 3 ?_)
   rcases Bool.eq_false_or_eq_true (decide (((acAt q.f1 x5.f1) : Int) ≥ 0)) with hb10 | hb10
   ·refine aT 24 hb10 ?_
    refine aT 25 hb10 ?_
    replace hb10 := of_decide_eq_true (hb10)
    refine go 2 ?_
    refine CH.idx hτ (d35 x5) (rows := (l.map d35)) (n := v6) (sz := 5) (by kernel_rfl) (by kernel_rfl) (by first | omega | (simp; done) | (simp; omega)) (by rw [List.getElem?_map, hx5]; rfl) (by kernel_rfl) ?_
    refine go 5 ?_
    obtain ⟨x11, hx11⟩ : ∃ x, q.f1[Int.toNat (acAt q.f1 x5.f1)]? = some x := ⟨_, List.getElem?_eq_getElem (by first | omega | (simp; done) | (simp; omega))⟩
    refine CH.idx hτ (d38 x11) (rows := (q.f1.map d38)) (n := (acAt q.f1 x5.f1)) (sz := 5) (by kernel_rfl) (by kernel_rfl) (by first | omega | (simp; done) | (simp; omega)) (by rw [List.getElem?_map, hx11]; rfl) (by kernel_rfl) ?_
    refine go 4 ?_
    refine ek ⟨[(0, lV (l.map d35)), (3, .pt 64 0 0), (5, rV 96), (6, iV v6), (38, bV (decide ((x5.f4 : Int) ≥ x11.f2)))], [(64, some (.box [.d (.v (.int .i64 q.f0)), .d (.sl (q.f1.map d38))])), (96, some (.row 5 35 (Lv5.map d35) false true))], 608⟩ ?_
    refine if_ (b := decide ((x5.f4 : Int) ≥ x11.f2)) (fun hb12 => ?_) (fun hb12 => ?_)
    ·replace hb12 := of_decide_eq_true (hb12)
     refine rs 3 ?_
     refine CH.idx hτ (d35 x5) (rows := (l.map d35)) (n := v6) (sz := 5) (by kernel_rfl) (by kernel_rfl) (by first | omega | (simp; done) | (simp; omega)) (by rw [List.getElem?_map, hx5]; rfl) (by kernel_rfl) ?_
     refine go 2 ?_
     have el13 : (Lv5.map d35).length = Lv5.length := List.length_map ..
     have el14 : (([x5] : List S35).map d35).length = ([x5] : List S35).length := List.length_map ..
     have el15 : ([x5] : List S35).length = 1 := rfl
     refine CH.app hτ (rows := (Lv5.map d35)) (rows2 := (([x5] : List S35).map d35)) (sz := 5) (bys := 56) true (by kernel_rfl) (by kernel_rfl) (fun _ => flat_d d35 (fun x => rfl)) (flat_ok (f := d35) (fun x => rfl)) (by simp only [List.length_map] <;> (first | done | omega | (simp; done) | (simp; omega))) (by kernel_rfl) ?_
     refine go 1 ?_
     refine CH.endk ⟨[(0, lV (l.map d35)), (3, .pt 64 0 0), (5, rV 704), (6, iV v6)], [(64, some (.box [.d (.v (.int .i64 q.f0)), .d (.sl (q.f1.map d38))])), (704, some (.row 5 35 ((Lv5.map d35) ++ (([x5] : List S35).map d35)) false true))], 736⟩ (by kernel_rfl) (by kernel_rfl) (s2 := ⟨[(0, lV (l.map d35)), (3, .pt 64 0 0), (5, rV 704), (6, iV v6)], [(64, some (.box [.d (.v (.int .i64 q.f0)), .d (.sl (q.f1.map d38))])), (704, some (.row 5 35 ((Lv5 ++ ([x5] : List S35)).map d35) false true))], 736⟩) (congrArg (fun z : List (List D) => (⟨[(0, lV (l.map d35)), (3, .pt 64 0 0), (5, rV 704), (6, iV v6)], [(64, some (.box [.d (.v (.int .i64 q.f0)), .d (.sl (q.f1.map d38))])), (704, some (.row 5 35 z false true))], 736⟩ : St)) (show (Lv5.map d35) ++ (([x5] : List S35).map d35) = ((Lv5 ++ ([x5] : List S35)).map d35) from List.map_append.symm)) ?_
     refine X.rk ⟨[(0, lV (l.map d35)), (3, .pt 64 0 0), (5, rV 704), (6, iV (wrap64 (v6 + 1)))], [(64, some (.box [.d (.v (.int .i64 q.f0)), .d (.sl (q.f1.map d38))])), (704, some (.row 5 35 ((Lv5 ++ ([x5] : List S35)).map d35) false true))], 784⟩ hτ hmix (by kernel_rfl) (by kernel_rfl) (s2 := ⟨[(0, lV (l.map d35)), (3, .pt 64 0 0), (5, rV 704), (6, iV (v6 + 1))], [(64, some (.box [.d (.v (.int .i64 q.f0)), .d (.sl (q.f1.map d38))])), (704, some (.row 5 35 ((Lv5 ++ ([x5] : List S35)).map d35) false true))], 784⟩) (congrArg (fun z : Int => (⟨[(0, lV (l.map d35)), (3, .pt 64 0 0), (5, rV 704), (6, iV z)], [(64, some (.box [.d (.v (.int .i64 q.f0)), .d (.sl (q.f1.map d38))])), (704, some (.row 5 35 ((Lv5 ++ ([x5] : List S35)).map d35) false true))], 784⟩ : St)) (show wrap64 (v6 + 1) = (v6 + 1) by rw [w64 (n := (v6 + 1)) (by omega) (by omega)])) ?_
     refine ⟨⟨((Lv5 ++ ([x5] : List S35)), (v6 + 1)), ⟨by first | omega | (dsimp only; omega), by first | omega | (dsimp only; omega), by first | omega | (simp only [List.length_append, List.length_cons, List.length_nil]; (first | omega | (dsimp only; omega))), by first | exact pd_y (by first | omega | (dsimp only; omega)) ‹_› hE (drop_yes ‹_› ‹_› ‹_›) | exact pd_n (by first | omega | (dsimp only; omega)) ‹_› hE (drop_no1 ‹_›) | exact pd_n (by first | omega | (dsimp only; omega)) ‹_› hE (drop_no2 ‹_› ‹_›)⟩⟩, by first | exact rfl | omega | (dsimp only; omega) | (simp only [List.length_append, List.length_cons, List.length_nil, List.length_set]; omega) | (simp; done) | (simp; omega), Wk.mk' [(64, 64), (96, 704)] (by kernel_rfl) (by kernel_rfl) (by kernel_rfl)⟩
    ·replace hb12 := of_decide_eq_false (hb12)
     refine X.skip ?_
     refine X.rk ⟨[(0, lV (l.map d35)), (3, .pt 64 0 0), (5, rV 96), (6, iV (wrap64 (v6 + 1)))], [(64, some (.box [.d (.v (.int .i64 q.f0)), .d (.sl (q.f1.map d38))])), (96, some (.row 5 35 (Lv5.map d35) false true))], 656⟩ hτ hmix (by kernel_rfl) (by kernel_rfl) (s2 := ⟨[(0, lV (l.map d35)), (3, .pt 64 0 0), (5, rV 96), (6, iV (v6 + 1))], [(64, some (.box [.d (.v (.int .i64 q.f0)), .d (.sl (q.f1.map d38))])), (96, some (.row 5 35 (Lv5.map d35) false true))], 656⟩) (congrArg (fun z : Int => (⟨[(0, lV (l.map d35)), (3, .pt 64 0 0), (5, rV 96), (6, iV z)], [(64, some (.box [.d (.v (.int .i64 q.f0)), .d (.sl (q.f1.map d38))])), (96, some (.row 5 35 (Lv5.map d35) false true))], 656⟩ : St)) (show wrap64 (v6 + 1) = (v6 + 1) by rw [w64 (n := (v6 + 1)) (by omega) (by omega)])) ?_
     refine ⟨⟨(Lv5, (v6 + 1)), ⟨by first | omega | (dsimp only; omega), by first | omega | (dsimp only; omega), by first | omega | (simp only [List.length_append, List.length_cons, List.length_nil]; (first | omega | (dsimp only; omega))), by first | exact pd_y (by first | omega | (dsimp only; omega)) ‹_› hE (drop_yes ‹_› ‹_› ‹_›) | exact pd_n (by first | omega | (dsimp only; omega)) ‹_› hE (drop_no1 ‹_›) | exact pd_n (by first | omega | (dsimp only; omega)) ‹_› hE (drop_no2 ‹_› ‹_›)⟩⟩, by first | exact rfl | omega | (dsimp only; omega) | (simp only [List.length_append, List.length_cons, List.length_nil, List.length_set]; omega) | (simp; done) | (simp; omega), Wk.mk' [(64, 64), (96, 96)] (by kernel_rfl) (by kernel_rfl) (by kernel_rfl)⟩
   ·refine aF 24 hb10 ?_
    refine aF 25 hb10 ?_
    replace hb10 := of_decide_eq_false (hb10)
    refine go 13 ?_
    refine ek ⟨[(0, lV (l.map d35)), (3, .pt 64 0 0), (5, rV 96), (6, iV v6), (38, bV false)], [(64, some (.box [.d (.v (.int .i64 q.f0)), .d (.sl (q.f1.map d38))])), (96, some (.row 5 35 (Lv5.map d35) false true))], 608⟩ ?_
    refine X.ifF (by kernel_rfl) ?_
    refine X.skip ?_
    refine X.rk ⟨[(0, lV (l.map d35)), (3, .pt 64 0 0), (5, rV 96), (6, iV (wrap64 (v6 + 1)))], [(64, some (.box [.d (.v (.int .i64 q.f0)), .d (.sl (q.f1.map d38))])), (96, some (.row 5 35 (Lv5.map d35) false true))], 656⟩ hτ hmix (by kernel_rfl) (by kernel_rfl) (s2 := ⟨[(0, lV (l.map d35)), (3, .pt 64 0 0), (5, rV 96), (6, iV (v6 + 1))], [(64, some (.box [.d (.v (.int .i64 q.f0)), .d (.sl (q.f1.map d38))])), (96, some (.row 5 35 (Lv5.map d35) false true))], 656⟩) (congrArg (fun z : Int => (⟨[(0, lV (l.map d35)), (3, .pt 64 0 0), (5, rV 96), (6, iV z)], [(64, some (.box [.d (.v (.int .i64 q.f0)), .d (.sl (q.f1.map d38))])), (96, some (.row 5 35 (Lv5.map d35) false true))], 656⟩ : St)) (show wrap64 (v6 + 1) = (v6 + 1) by rw [w64 (n := (v6 + 1)) (by omega) (by omega)])) ?_
    refine ⟨⟨(Lv5, (v6 + 1)), ⟨by first | omega | (dsimp only; omega), by first | omega | (dsimp only; omega), by first | omega | (simp only [List.length_append, List.length_cons, List.length_nil]; (first | omega | (dsimp only; omega))), by first | exact pd_y (by first | omega | (dsimp only; omega)) ‹_› hE (drop_yes ‹_› ‹_› ‹_›) | exact pd_n (by first | omega | (dsimp only; omega)) ‹_› hE (drop_no1 ‹_›) | exact pd_n (by first | omega | (dsimp only; omega)) ‹_› hE (drop_no2 ‹_› ‹_›)⟩⟩, by first | exact rfl | omega | (dsimp only; omega) | (simp only [List.length_append, List.length_cons, List.length_nil, List.length_set]; omega) | (simp; done) | (simp; omega), Wk.mk' [(64, 64), (96, 96)] (by kernel_rfl) (by kernel_rfl) (by kernel_rfl)⟩
  ·replace hb4 := of_decide_eq_false (hb4)
   refine X.exit ?_
   refine sk ⟨[(4, rV 96)], [(96, some (.row 5 35 (Lv5.map d35) false true))], 240⟩ ?_
   refine X.ret ?_
   exact ⟨trivial, _, _, ⟨Lv5, (pd_e hE (by omega)), rfl, rfl⟩, .inr ⟨⟨[(4, .e (.c (.f (.sl (Lv5.map d35)))))], [(96, some (.row 5 35 (Lv5.map d35) true true))], 240⟩, Wk.less (by kernel_rfl), Ret.mk' [] (by kernel_rfl) (by kernel_rfl) (by kernel_rfl)⟩⟩
 obtain ⟨_, _, ⟨r0, h1_, rfl, rfl⟩, hf⟩ := key
 exact ⟨r0, h1_, hf⟩

theorem i_PoolDrop (l : List S35) (q : S27) (hl : SmT l) (hg : acsSm q.f1) : ∃ r0 : List S35, (r0 = pdW l q) ∧ Fn Try.prog 11 [lV (l.map d35), .e (.agg [.d (.v (.int .i64 q.f0)), .d (.sl (q.f1.map d38))])] (lookH []) (.e (.c (.f (.sl (r0.map d35))))) (lookH []) := by
 have key : ∃ x' h', ((fun x' h' => ∃ r0 : List S35, (r0 = pdW l q) ∧ x' = .e (.c (.f (.sl (r0.map d35)))) ∧ h' = [])) x' h' ∧ Fn Try.prog 11 [lV (l.map d35), .e (.agg [.d (.v (.int .i64 q.f0)), .d (.sl (q.f1.map d38))])] (lookH []) x' (lookH h') := by
  refine Fn.bodyX (N := 39) hτ Try.func11 rfl rfl rfl rfl ?_
  refine sk ⟨[(0, lV (l.map d35)), (3, .pt 64 0 0)], [(64, some (.box [.d (.v (.int .i64 q.f0)), .d (.sl (q.f1.map d38))]))], 96⟩ ?_
  refine sk ⟨[(0, lV (l.map d35)), (3, .pt 64 0 0), (5, .e (.c (.nil)))], [(64, some (.box [.d (.v (.int .i64 q.f0)), .d (.sl (q.f1.map d38))]))], 112⟩ ?_
  refine X.seq ?_
  refine X.seq ?_
  have hll := hl.1
  have hgl := hg.1
  have el1 : (l.map d35).length = l.length := List.length_map ..
  refine rk ⟨[(3, .pt 64 0 0), (5, .e (.c (.nil))), (9, lV (l.map d35)), (10, iV ((l.map d35).length : Int)), (11, iV 0)], [(64, some (.box [.d (.v (.int .i64 q.f0)), .d (.sl (q.f1.map d38))]))], 160⟩ ?_
  refine X.block ?_
  refine X.weak (Wk.ownT 5 5 35 (by kernel_rfl) (by kernel_rfl) (by kernel_rfl)) ?_
  -- 3: Lv5 : List S35, v11 : Int
  refine X.loop (σ := { g : (List S35) × Int // (fun (Lv5 : List S35) (v11 : Int) => 0 ≤ v11 ∧ v11 ≤ l.length ∧ Lv5.length ≤ (v11).toNat ∧ Lv5 = pdW (l.take (v11).toNat) q) g.1 g.2 }) (fun g => (fun (Lv5 : List S35) (v11 : Int) => ⟨[(3, .pt 64 0 0), (5, rV 160), (9, lV (l.map d35)), (10, iV ((l.map d35).length : Int)), (11, iV v11)], [(64, some (.box [.d (.v (.int .i64 q.f0)), .d (.sl (q.f1.map d38))])), (160, some (.row 5 35 (Lv5.map d35) false true))], 176⟩) g.1.1 g.1.2) (fun g => (fun (Lv5 : List S35) (v11 : Int) => (l.length - v11).toNat) g.1.1 g.1.2) ⟨([], 0), ⟨by first | omega | (dsimp only; omega), by first | omega | (dsimp only; omega), by simp, pd_i0⟩⟩ (Wk.less (by kernel_rfl)) (fun g => ?_)
  obtain ⟨⟨Lv5, v11⟩, hg3⟩ := g
  have hg3 : 0 ≤ v11 ∧ v11 ≤ l.length ∧ Lv5.length ≤ (v11).toNat ∧ Lv5 = pdW (l.take (v11).toNat) q := hg3
  obtain ⟨_, _, hL, hE⟩ := hg3
  refine sk ⟨[(3, .pt 64 0 0), (5, rV 160), (9, lV (l.map d35)), (10, iV ((l.map d35).length : Int)), (11, iV v11), (12, bV (decide ((v11 : Int) < ((l.map d35).length : Int))))], [(64, some (.box [.d (.v (.int .i64 q.f0)), .d (.sl (q.f1.map d38))])), (160, some (.row 5 35 (Lv5.map d35) false true))], 192⟩ ?_
  refine X.seq ?_
  refine if_ (b := decide ((v11 : Int) < ((l.map d35).length : Int))) (fun hb4 => ?_) (fun hb4 => ?_)
  ·replace hb4 := of_decide_eq_true (hb4)
   refine X.skip ?_
   refine X.seq ?_
   refine X.block ?_
   refine X.seq (rs 0 ?_)
   obtain ⟨x5, hx5⟩ : ∃ x, l[Int.toNat v11]? = some x := ⟨_, List.getElem?_eq_getElem (by first | omega | (simp; done) | (simp; omega))⟩
   refine CH.idx hτ (d35 x5) (rows := (l.map d35)) (n := v11) (sz := 5) (by kernel_rfl) (by kernel_rfl) (by first | omega | (simp; done) | (simp; omega)) (by rw [List.getElem?_map, hx5]; rfl) (by kernel_rfl) ?_
   refine go 3 ?_
   refine ek ⟨[(3, .pt 64 0 0), (5, rV 160), (7, .pt 224 0 0), (9, lV (l.map d35)), (10, iV ((l.map d35).length : Int)), (11, iV v11)], [(64, some (.box [.d (.v (.int .i64 q.f0)), .d (.sl (q.f1.map d38))])), (160, some (.row 5 35 (Lv5.map d35) false true)), (224, some (.box (cD (d35 x5))))], 256⟩ ?_
   refine X.seq (rs 4 ?_)
   obtain ⟨r6, hr8, hf7⟩ := i_AcctAt q.f1 x5.f1 (by first | assumption | omega)
   replace hr8 := hr8.symm; subst hr8
   have hac := fi_bd (nmP x5.f1) q.f1
   change -1 ≤ acAt q.f1 x5.f1 ∧ acAt q.f1 x5.f1 < _ at hac
   refine ca hf7 Try.func12 ?_
   refine go 1 ?_
   refine ek ⟨[(3, .pt 64 0 0), (5, rV 160), (7, .pt 224 0 0), (8, iV (acAt q.f1 x5.f1)), (9, lV (l.map d35)), (10, iV ((l.map d35).length : Int)), (11, iV v11)], [(64, some (.box [.d (.v (.int .i64 q.f0)), .d (.sl (q.f1.map d38))])), (160, some (.row 5 35 (Lv5.map d35) false true)), (224, some (.box (cD (d35 x5))))], 352⟩ ?_
   refine X.seq (rs 3 ?_)
   rcases Bool.eq_false_or_eq_true (decide (((acAt q.f1 x5.f1) : Int) ≥ 0)) with hb10 | hb10
   ·refine aT 21 hb10 ?_
    refine aT 22 hb10 ?_
    replace hb10 := of_decide_eq_true (hb10)
    refine go 5 ?_
    obtain ⟨x11, hx11⟩ : ∃ x, q.f1[Int.toNat (acAt q.f1 x5.f1)]? = some x := ⟨_, List.getElem?_eq_getElem (by first | omega | (simp; done) | (simp; omega))⟩
    refine CH.idx hτ (d38 x11) (rows := (q.f1.map d38)) (n := (acAt q.f1 x5.f1)) (sz := 5) (by kernel_rfl) (by kernel_rfl) (by first | omega | (simp; done) | (simp; omega)) (by rw [List.getElem?_map, hx11]; rfl) (by kernel_rfl) ?_
    refine go 4 ?_
    refine ek ⟨[(3, .pt 64 0 0), (5, rV 160), (7, .pt 224 0 0), (9, lV (l.map d35)), (10, iV ((l.map d35).length : Int)), (11, iV v11), (32, bV (decide ((x5.f4 : Int) ≥ x11.f2)))], [(64, some (.box [.d (.v (.int .i64 q.f0)), .d (.sl (q.f1.map d38))])), (160, some (.row 5 35 (Lv5.map d35) false true)), (224, some (.box (cD (d35 x5))))], 560⟩ ?_
    refine if_ (b := decide ((x5.f4 : Int) ≥ x11.f2)) (fun hb12 => ?_) (fun hb12 => ?_)
    ·replace hb12 := of_decide_eq_true (hb12)
     refine rs 3 ?_
     have el13 : (Lv5.map d35).length = Lv5.length := List.length_map ..
     have el14 : (([x5] : List S35).map d35).length = ([x5] : List S35).length := List.length_map ..
     have el15 : ([x5] : List S35).length = 1 := rfl
     refine CH.app hτ (rows := (Lv5.map d35)) (rows2 := (([x5] : List S35).map d35)) (sz := 5) (bys := 56) true (by kernel_rfl) (by kernel_rfl) (fun _ => flat_d d35 (fun x => rfl)) (flat_ok (f := d35) (fun x => rfl)) (by simp only [List.length_map] <;> (first | done | omega | (simp; done) | (simp; omega))) (by kernel_rfl) ?_
     refine go 1 ?_
     refine CH.endk ⟨[(3, .pt 64 0 0), (5, rV 608), (9, lV (l.map d35)), (10, iV ((l.map d35).length : Int)), (11, iV v11)], [(64, some (.box [.d (.v (.int .i64 q.f0)), .d (.sl (q.f1.map d38))])), (608, some (.row 5 35 ((Lv5.map d35) ++ (([x5] : List S35).map d35)) false true))], 640⟩ (by kernel_rfl) (by kernel_rfl) (s2 := ⟨[(3, .pt 64 0 0), (5, rV 608), (9, lV (l.map d35)), (10, iV ((l.map d35).length : Int)), (11, iV v11)], [(64, some (.box [.d (.v (.int .i64 q.f0)), .d (.sl (q.f1.map d38))])), (608, some (.row 5 35 ((Lv5 ++ ([x5] : List S35)).map d35) false true))], 640⟩) (congrArg (fun z : List (List D) => (⟨[(3, .pt 64 0 0), (5, rV 608), (9, lV (l.map d35)), (10, iV ((l.map d35).length : Int)), (11, iV v11)], [(64, some (.box [.d (.v (.int .i64 q.f0)), .d (.sl (q.f1.map d38))])), (608, some (.row 5 35 z false true))], 640⟩ : St)) (show (Lv5.map d35) ++ (([x5] : List S35).map d35) = ((Lv5 ++ ([x5] : List S35)).map d35) from List.map_append.symm)) ?_
     refine X.rk ⟨[(3, .pt 64 0 0), (5, rV 608), (9, lV (l.map d35)), (10, iV ((l.map d35).length : Int)), (11, iV (wrap64 (v11 + 1)))], [(64, some (.box [.d (.v (.int .i64 q.f0)), .d (.sl (q.f1.map d38))])), (608, some (.row 5 35 ((Lv5 ++ ([x5] : List S35)).map d35) false true))], 672⟩ hτ hmix (by kernel_rfl) (by kernel_rfl) (s2 := ⟨[(3, .pt 64 0 0), (5, rV 608), (9, lV (l.map d35)), (10, iV ((l.map d35).length : Int)), (11, iV (v11 + 1))], [(64, some (.box [.d (.v (.int .i64 q.f0)), .d (.sl (q.f1.map d38))])), (608, some (.row 5 35 ((Lv5 ++ ([x5] : List S35)).map d35) false true))], 672⟩) (congrArg (fun z : Int => (⟨[(3, .pt 64 0 0), (5, rV 608), (9, lV (l.map d35)), (10, iV ((l.map d35).length : Int)), (11, iV z)], [(64, some (.box [.d (.v (.int .i64 q.f0)), .d (.sl (q.f1.map d38))])), (608, some (.row 5 35 ((Lv5 ++ ([x5] : List S35)).map d35) false true))], 672⟩ : St)) (show wrap64 (v11 + 1) = (v11 + 1) by rw [w64 (n := (v11 + 1)) (by omega) (by omega)])) ?_
     refine ⟨⟨((Lv5 ++ ([x5] : List S35)), (v11 + 1)), ⟨by first | omega | (dsimp only; omega), by first | omega | (dsimp only; omega), by first | omega | (simp only [List.length_append, List.length_cons, List.length_nil]; (first | omega | (dsimp only; omega))), by first | exact pd_y (by first | omega | (dsimp only; omega)) ‹_› hE (drop_yes ‹_› ‹_› ‹_›) | exact pd_n (by first | omega | (dsimp only; omega)) ‹_› hE (drop_no1 ‹_›) | exact pd_n (by first | omega | (dsimp only; omega)) ‹_› hE (drop_no2 ‹_› ‹_›)⟩⟩, by first | exact rfl | omega | (dsimp only; omega) | (simp only [List.length_append, List.length_cons, List.length_nil, List.length_set]; omega) | (simp; done) | (simp; omega), Wk.mk' [(64, 64), (160, 608)] (by kernel_rfl) (by kernel_rfl) (by kernel_rfl)⟩
    ·replace hb12 := of_decide_eq_false (hb12)
     refine X.skip ?_
     refine X.rk ⟨[(3, .pt 64 0 0), (5, rV 160), (9, lV (l.map d35)), (10, iV ((l.map d35).length : Int)), (11, iV (wrap64 (v11 + 1)))], [(64, some (.box [.d (.v (.int .i64 q.f0)), .d (.sl (q.f1.map d38))])), (160, some (.row 5 35 (Lv5.map d35) false true))], 592⟩ hτ hmix (by kernel_rfl) (by kernel_rfl) (s2 := ⟨[(3, .pt 64 0 0), (5, rV 160), (9, lV (l.map d35)), (10, iV ((l.map d35).length : Int)), (11, iV (v11 + 1))], [(64, some (.box [.d (.v (.int .i64 q.f0)), .d (.sl (q.f1.map d38))])), (160, some (.row 5 35 (Lv5.map d35) false true))], 592⟩) (congrArg (fun z : Int => (⟨[(3, .pt 64 0 0), (5, rV 160), (9, lV (l.map d35)), (10, iV ((l.map d35).length : Int)), (11, iV z)], [(64, some (.box [.d (.v (.int .i64 q.f0)), .d (.sl (q.f1.map d38))])), (160, some (.row 5 35 (Lv5.map d35) false true))], 592⟩ : St)) (show wrap64 (v11 + 1) = (v11 + 1) by rw [w64 (n := (v11 + 1)) (by omega) (by omega)])) ?_
     refine ⟨⟨(Lv5, (v11 + 1)), ⟨by first | omega | (dsimp only; omega), by first | omega | (dsimp only; omega), by first | omega | (simp only [List.length_append, List.length_cons, List.length_nil]; (first | omega | (dsimp only; omega))), by first | exact pd_y (by first | omega | (dsimp only; omega)) ‹_› hE (drop_yes ‹_› ‹_› ‹_›) | exact pd_n (by first | omega | (dsimp only; omega)) ‹_› hE (drop_no1 ‹_›) | exact pd_n (by first | omega | (dsimp only; omega)) ‹_› hE (drop_no2 ‹_› ‹_›)⟩⟩, by first | exact rfl | omega | (dsimp only; omega) | (simp only [List.length_append, List.length_cons, List.length_nil, List.length_set]; omega) | (simp; done) | (simp; omega), Wk.mk' [(64, 64), (160, 160)] (by kernel_rfl) (by kernel_rfl) (by kernel_rfl)⟩
   ·refine aF 21 hb10 ?_
    refine aF 22 hb10 ?_
    replace hb10 := of_decide_eq_false (hb10)
    refine go 10 ?_
    refine ek ⟨[(3, .pt 64 0 0), (5, rV 160), (7, .pt 224 0 0), (9, lV (l.map d35)), (10, iV ((l.map d35).length : Int)), (11, iV v11), (32, bV false)], [(64, some (.box [.d (.v (.int .i64 q.f0)), .d (.sl (q.f1.map d38))])), (160, some (.row 5 35 (Lv5.map d35) false true)), (224, some (.box (cD (d35 x5))))], 560⟩ ?_
    refine X.ifF (by kernel_rfl) ?_
    refine X.skip ?_
    refine X.rk ⟨[(3, .pt 64 0 0), (5, rV 160), (9, lV (l.map d35)), (10, iV ((l.map d35).length : Int)), (11, iV (wrap64 (v11 + 1)))], [(64, some (.box [.d (.v (.int .i64 q.f0)), .d (.sl (q.f1.map d38))])), (160, some (.row 5 35 (Lv5.map d35) false true))], 592⟩ hτ hmix (by kernel_rfl) (by kernel_rfl) (s2 := ⟨[(3, .pt 64 0 0), (5, rV 160), (9, lV (l.map d35)), (10, iV ((l.map d35).length : Int)), (11, iV (v11 + 1))], [(64, some (.box [.d (.v (.int .i64 q.f0)), .d (.sl (q.f1.map d38))])), (160, some (.row 5 35 (Lv5.map d35) false true))], 592⟩) (congrArg (fun z : Int => (⟨[(3, .pt 64 0 0), (5, rV 160), (9, lV (l.map d35)), (10, iV ((l.map d35).length : Int)), (11, iV z)], [(64, some (.box [.d (.v (.int .i64 q.f0)), .d (.sl (q.f1.map d38))])), (160, some (.row 5 35 (Lv5.map d35) false true))], 592⟩ : St)) (show wrap64 (v11 + 1) = (v11 + 1) by rw [w64 (n := (v11 + 1)) (by omega) (by omega)])) ?_
    refine ⟨⟨(Lv5, (v11 + 1)), ⟨by first | omega | (dsimp only; omega), by first | omega | (dsimp only; omega), by first | omega | (simp only [List.length_append, List.length_cons, List.length_nil]; (first | omega | (dsimp only; omega))), by first | exact pd_y (by first | omega | (dsimp only; omega)) ‹_› hE (drop_yes ‹_› ‹_› ‹_›) | exact pd_n (by first | omega | (dsimp only; omega)) ‹_› hE (drop_no1 ‹_›) | exact pd_n (by first | omega | (dsimp only; omega)) ‹_› hE (drop_no2 ‹_› ‹_›)⟩⟩, by first | exact rfl | omega | (dsimp only; omega) | (simp only [List.length_append, List.length_cons, List.length_nil, List.length_set]; omega) | (simp; done) | (simp; omega), Wk.mk' [(64, 64), (160, 160)] (by kernel_rfl) (by kernel_rfl) (by kernel_rfl)⟩
  ·replace hb4 := of_decide_eq_false (hb4)
   refine X.exit ?_
   refine sk ⟨[(4, rV 160)], [(160, some (.row 5 35 (Lv5.map d35) false true))], 224⟩ ?_
   refine X.ret ?_
   exact ⟨trivial, _, _, ⟨Lv5, (pd_e hE (by omega)), rfl, rfl⟩, .inr ⟨⟨[(4, .e (.c (.f (.sl (Lv5.map d35)))))], [(160, some (.row 5 35 (Lv5.map d35) true true))], 224⟩, Wk.less (by kernel_rfl), Ret.mk' [] (by kernel_rfl) (by kernel_rfl) (by kernel_rfl)⟩⟩
 obtain ⟨_, _, ⟨r0, h1_, rfl, rfl⟩, hf⟩ := key
 exact ⟨r0, h1_, hf⟩

theorem i_PoolFit (l : List S35) (q : S27) (hl : SmT l) (hg : acsSm q.f1) : ∃ r0 : List S35, (r0 = fitW q l) ∧ Fn Try.prog 9 [lV (l.map d35), .e (.agg [.d (.v (.int .i64 q.f0)), .d (.sl (q.f1.map d38))])] (lookH []) (.e (.c (.f (.sl (r0.map d35))))) (lookH []) := by
 have key : ∃ x' h', ((fun x' h' => ∃ r0 : List S35, (r0 = fitW q l) ∧ x' = .e (.c (.f (.sl (r0.map d35)))) ∧ h' = [])) x' h' ∧ Fn Try.prog 9 [lV (l.map d35), .e (.agg [.d (.v (.int .i64 q.f0)), .d (.sl (q.f1.map d38))])] (lookH []) x' (lookH h') := by
  refine Fn.bodyX (N := 31) hτ Try.func9 rfl rfl rfl rfl ?_
  refine sk ⟨[(0, lV (l.map d35)), (3, .pt 64 0 0)], [(64, some (.box [.d (.v (.int .i64 q.f0)), .d (.sl (q.f1.map d38))]))], 96⟩ ?_
  refine sk ⟨[(0, lV (l.map d35)), (3, .pt 64 0 0), (5, .e (.c (.nil)))], [(64, some (.box [.d (.v (.int .i64 q.f0)), .d (.sl (q.f1.map d38))]))], 112⟩ ?_
  refine X.seq ?_
  refine X.seq ?_
  have hll := hl.1
  have hgl := hg.1
  have el1 : (l.map d35).length = l.length := List.length_map ..
  refine rk ⟨[(3, .pt 64 0 0), (5, .e (.c (.nil))), (10, lV (l.map d35)), (11, iV ((l.map d35).length : Int)), (12, iV 0)], [(64, some (.box [.d (.v (.int .i64 q.f0)), .d (.sl (q.f1.map d38))]))], 160⟩ ?_
  refine X.block ?_
  refine X.weak (Wk.ownT 5 5 35 (by kernel_rfl) (by kernel_rfl) (by kernel_rfl)) ?_
  -- 3: c64_0 : Int, c64_1 : List S38, Lv5 : List S35, v12 : Int
  refine X.loop (σ := { g : Int × (List S38) × (List S35) × Int // (fun (c64_0 : Int) (c64_1 : List S38) (Lv5 : List S35) (v12 : Int) => 0 ≤ v12 ∧ v12 ≤ l.length ∧ Lv5.length ≤ (v12).toNat ∧ fitI l q Lv5 ⟨c64_0, c64_1⟩ v12 ∧ acsSm c64_1) g.1 g.2.1 g.2.2.1 g.2.2.2 }) (fun g => (fun (c64_0 : Int) (c64_1 : List S38) (Lv5 : List S35) (v12 : Int) => ⟨[(3, .pt 64 0 0), (5, rV 160), (10, lV (l.map d35)), (11, iV ((l.map d35).length : Int)), (12, iV v12)], [(64, some (.box [.d (.v (.int .i64 c64_0)), .d (.sl (c64_1.map d38))])), (160, some (.row 5 35 (Lv5.map d35) false true))], 176⟩) g.1.1 g.1.2.1 g.1.2.2.1 g.1.2.2.2) (fun g => (fun (c64_0 : Int) (c64_1 : List S38) (Lv5 : List S35) (v12 : Int) => (l.length - v12).toNat) g.1.1 g.1.2.1 g.1.2.2.1 g.1.2.2.2) ⟨(q.f0, q.f1, [], 0), ⟨by first | omega | (dsimp only; omega), by first | omega | (dsimp only; omega), by simp, fi_i0, hg⟩⟩ (Wk.less (by kernel_rfl)) (fun g => ?_)
  obtain ⟨⟨c64_0, c64_1, Lv5, v12⟩, hg3⟩ := g
  have hg3 : 0 ≤ v12 ∧ v12 ≤ l.length ∧ Lv5.length ≤ (v12).toNat ∧ fitI l q Lv5 ⟨c64_0, c64_1⟩ v12 ∧ acsSm c64_1 := hg3
  obtain ⟨_, _, hL, hE, hG⟩ := hg3
  refine sk ⟨[(3, .pt 64 0 0), (5, rV 160), (10, lV (l.map d35)), (11, iV ((l.map d35).length : Int)), (12, iV v12), (13, bV (decide ((v12 : Int) < ((l.map d35).length : Int))))], [(64, some (.box [.d (.v (.int .i64 c64_0)), .d (.sl (c64_1.map d38))])), (160, some (.row 5 35 (Lv5.map d35) false true))], 192⟩ ?_
  refine X.seq ?_
  refine if_ (b := decide ((v12 : Int) < ((l.map d35).length : Int))) (fun hb4 => ?_) (fun hb4 => ?_)
  ·replace hb4 := of_decide_eq_true (hb4)
   refine X.skip ?_
   refine X.seq ?_
   refine X.block ?_
   refine X.seq (rs 0 ?_)
   obtain ⟨x5, hx5⟩ : ∃ x, l[Int.toNat v12]? = some x := ⟨_, List.getElem?_eq_getElem (by first | omega | (simp; done) | (simp; omega))⟩
   have htx := all_at hl.2 hx5
   refine CH.idx hτ (d35 x5) (rows := (l.map d35)) (n := v12) (sz := 5) (by kernel_rfl) (by kernel_rfl) (by first | omega | (simp; done) | (simp; omega)) (by rw [List.getElem?_map, hx5]; rfl) (by kernel_rfl) ?_
   refine go 3 ?_
   refine ek ⟨[(3, .pt 64 0 0), (5, rV 160), (7, .pt 224 0 0), (10, lV (l.map d35)), (11, iV ((l.map d35).length : Int)), (12, iV v12)], [(64, some (.box [.d (.v (.int .i64 c64_0)), .d (.sl (c64_1.map d38))])), (160, some (.row 5 35 (Lv5.map d35) false true)), (224, some (.box (cD (d35 x5))))], 256⟩ ?_
   refine X.seq (rs 2 ?_)
   obtain ⟨r6, r7, hr9, hf8⟩ := i_Apply (⟨c64_0, c64_1⟩ : S27) x5 (by assumption) (by assumption)
   obtain ⟨e10, e11⟩ := hr9
   replace e10 := e10.symm; subst e10
   replace e11 := e11.symm; subst e11
   have hap := ap_sm (t := x5) (g := (⟨c64_0, c64_1⟩ : S27)) (by assumption) (by assumption)
   refine ca hf8 Try.func46 ?_
   refine go 6 ?_
   refine ek ⟨[(3, .pt 64 0 0), (5, rV 160), (7, .pt 224 0 0), (8, .pt 352 0 0), (9, iV ((apW (⟨c64_0, c64_1⟩ : S27) x5).2)), (10, lV (l.map d35)), (11, iV ((l.map d35).length : Int)), (12, iV v12)], [(64, some (.box [.d (.v (.int .i64 c64_0)), .d (.sl (c64_1.map d38))])), (160, some (.row 5 35 (Lv5.map d35) false true)), (224, some (.box (cD (d35 x5)))), (288, some (.nst 5 38 [(4, 2, 188)] ((((apW (⟨c64_0, c64_1⟩ : S27) x5).1).f1).map d38) [])), (352, some (.box [.d (.v (.int .i64 (((apW (⟨c64_0, c64_1⟩ : S27) x5).1).f0))), .ref 288]))], 400⟩ ?_
   refine sk ⟨[(3, .pt 64 0 0), (5, rV 160), (7, .pt 224 0 0), (9, iV ((apW (⟨c64_0, c64_1⟩ : S27) x5).2)), (10, lV (l.map d35)), (11, iV ((l.map d35).length : Int)), (12, iV v12)], [(64, some (.box [.d (.v (.int .i64 (((apW (⟨c64_0, c64_1⟩ : S27) x5).1).f0))), .ref 288])), (160, some (.row 5 35 (Lv5.map d35) false true)), (224, some (.box (cD (d35 x5)))), (288, some (.nst 5 38 [(4, 2, 188)] ((((apW (⟨c64_0, c64_1⟩ : S27) x5).1).f1).map d38) []))], 432⟩ ?_
   refine sk ⟨[(3, .pt 64 0 0), (5, rV 160), (7, .pt 224 0 0), (10, lV (l.map d35)), (11, iV ((l.map d35).length : Int)), (12, iV v12), (24, bV (((apW (⟨c64_0, c64_1⟩ : S27) x5).2) == 0))], [(64, some (.box [.d (.v (.int .i64 (((apW (⟨c64_0, c64_1⟩ : S27) x5).1).f0))), .ref 288])), (160, some (.row 5 35 (Lv5.map d35) false true)), (224, some (.box (cD (d35 x5)))), (288, some (.nst 5 38 [(4, 2, 188)] ((((apW (⟨c64_0, c64_1⟩ : S27) x5).1).f1).map d38) []))], 464⟩ ?_
   refine if_ (b := (((apW (⟨c64_0, c64_1⟩ : S27) x5).2) == 0)) (fun hb12 => ?_) (fun hb12 => ?_)
   ·replace hb12 := eq_of_beq (hb12)
    refine rs 3 ?_
    have el13 : (Lv5.map d35).length = Lv5.length := List.length_map ..
    have el14 : (([x5] : List S35).map d35).length = ([x5] : List S35).length := List.length_map ..
    have el15 : ([x5] : List S35).length = 1 := rfl
    refine CH.app hτ (rows := (Lv5.map d35)) (rows2 := (([x5] : List S35).map d35)) (sz := 5) (bys := 56) true (by kernel_rfl) (by kernel_rfl) (fun _ => flat_d d35 (fun x => rfl)) (flat_ok (f := d35) (fun x => rfl)) (by simp only [List.length_map] <;> (first | done | omega | (simp; done) | (simp; omega))) (by kernel_rfl) ?_
    refine go 1 ?_
    refine CH.endk ⟨[(3, .pt 64 0 0), (5, rV 512), (10, lV (l.map d35)), (11, iV ((l.map d35).length : Int)), (12, iV v12)], [(64, some (.box [.d (.v (.int .i64 (((apW (⟨c64_0, c64_1⟩ : S27) x5).1).f0))), .ref 288])), (288, some (.nst 5 38 [(4, 2, 188)] ((((apW (⟨c64_0, c64_1⟩ : S27) x5).1).f1).map d38) [])), (512, some (.row 5 35 ((Lv5.map d35) ++ (([x5] : List S35).map d35)) false true))], 544⟩ (by kernel_rfl) (by kernel_rfl) (s2 := ⟨[(3, .pt 64 0 0), (5, rV 512), (10, lV (l.map d35)), (11, iV ((l.map d35).length : Int)), (12, iV v12)], [(64, some (.box [.d (.v (.int .i64 (((apW (⟨c64_0, c64_1⟩ : S27) x5).1).f0))), .ref 288])), (288, some (.nst 5 38 [(4, 2, 188)] ((((apW (⟨c64_0, c64_1⟩ : S27) x5).1).f1).map d38) [])), (512, some (.row 5 35 ((Lv5 ++ ([x5] : List S35)).map d35) false true))], 544⟩) (congrArg (fun z : List (List D) => (⟨[(3, .pt 64 0 0), (5, rV 512), (10, lV (l.map d35)), (11, iV ((l.map d35).length : Int)), (12, iV v12)], [(64, some (.box [.d (.v (.int .i64 (((apW (⟨c64_0, c64_1⟩ : S27) x5).1).f0))), .ref 288])), (288, some (.nst 5 38 [(4, 2, 188)] ((((apW (⟨c64_0, c64_1⟩ : S27) x5).1).f1).map d38) [])), (512, some (.row 5 35 z false true))], 544⟩ : St)) (show (Lv5.map d35) ++ (([x5] : List S35).map d35) = ((Lv5 ++ ([x5] : List S35)).map d35) from List.map_append.symm)) ?_
    refine X.weak ((Wk.frzN (wd := 5) (e := 38) (co := [(4, 2, 188)]) (rows := ((((apW (⟨c64_0, c64_1⟩ : S27) x5).1).f1).map d38)) 288 (by kernel_rfl) (by kernel_rfl)).trans (Wk.less (s1 := ⟨[(3, .pt 64 0 0), (5, rV 512), (10, lV (l.map d35)), (11, iV ((l.map d35).length : Int)), (12, iV v12)], [(64, some (.box [.d (.v (.int .i64 (((apW (⟨c64_0, c64_1⟩ : S27) x5).1).f0))), .f (.sl ((((apW (⟨c64_0, c64_1⟩ : S27) x5).1).f1).map d38))])), (288, some (.row 5 38 ((((apW (⟨c64_0, c64_1⟩ : S27) x5).1).f1).map d38) true true)), (512, some (.row 5 35 ((Lv5 ++ ([x5] : List S35)).map d35) false true))], 544⟩) (by kernel_rfl))) ?_
    refine X.rk ⟨[(3, .pt 64 0 0), (5, rV 512), (10, lV (l.map d35)), (11, iV ((l.map d35).length : Int)), (12, iV (wrap64 (v12 + 1)))], [(64, some (.box [.d (.v (.int .i64 (((apW (⟨c64_0, c64_1⟩ : S27) x5).1).f0))), .f (.sl ((((apW (⟨c64_0, c64_1⟩ : S27) x5).1).f1).map d38))])), (512, some (.row 5 35 ((Lv5 ++ ([x5] : List S35)).map d35) false true))], 576⟩ hτ hmix (by kernel_rfl) (by kernel_rfl) (s2 := ⟨[(3, .pt 64 0 0), (5, rV 512), (10, lV (l.map d35)), (11, iV ((l.map d35).length : Int)), (12, iV (v12 + 1))], [(64, some (.box [.d (.v (.int .i64 (((apW (⟨c64_0, c64_1⟩ : S27) x5).1).f0))), .f (.sl ((((apW (⟨c64_0, c64_1⟩ : S27) x5).1).f1).map d38))])), (512, some (.row 5 35 ((Lv5 ++ ([x5] : List S35)).map d35) false true))], 576⟩) (congrArg (fun z : Int => (⟨[(3, .pt 64 0 0), (5, rV 512), (10, lV (l.map d35)), (11, iV ((l.map d35).length : Int)), (12, iV z)], [(64, some (.box [.d (.v (.int .i64 (((apW (⟨c64_0, c64_1⟩ : S27) x5).1).f0))), .f (.sl ((((apW (⟨c64_0, c64_1⟩ : S27) x5).1).f1).map d38))])), (512, some (.row 5 35 ((Lv5 ++ ([x5] : List S35)).map d35) false true))], 576⟩ : St)) (show wrap64 (v12 + 1) = (v12 + 1) by rw [w64 (n := (v12 + 1)) (by omega) (by omega)])) ?_
    refine ⟨⟨(((apW (⟨c64_0, c64_1⟩ : S27) x5).1).f0, ((apW (⟨c64_0, c64_1⟩ : S27) x5).1).f1, (Lv5 ++ ([x5] : List S35)), (v12 + 1)), ⟨by first | omega | (dsimp only; omega), by first | omega | (dsimp only; omega), by first | omega | (simp only [List.length_append, List.length_cons, List.length_nil]; (first | omega | (dsimp only; omega))), by first | exact fi_y (by first | omega | (dsimp only; omega)) ‹_› hE ‹_› | exact fi_n (by first | omega | (dsimp only; omega)) ‹_› hE ‹_›, hap⟩⟩, by first | exact rfl | omega | (dsimp only; omega) | (simp only [List.length_append, List.length_cons, List.length_nil, List.length_set]; omega) | (simp; done) | (simp; omega), Wk.mk' [(64, 64), (160, 512)] (by kernel_rfl) (by kernel_rfl) (by kernel_rfl)⟩
   ·replace hb12 := beq_eq_false_iff_ne.1 (hb12)
    refine X.skip ?_
    refine X.weak ((Wk.frzN (wd := 5) (e := 38) (co := [(4, 2, 188)]) (rows := ((((apW (⟨c64_0, c64_1⟩ : S27) x5).1).f1).map d38)) 288 (by kernel_rfl) (by kernel_rfl)).trans (Wk.less (s1 := ⟨[(3, .pt 64 0 0), (5, rV 160), (7, .pt 224 0 0), (10, lV (l.map d35)), (11, iV ((l.map d35).length : Int)), (12, iV v12), (24, bV (((apW (⟨c64_0, c64_1⟩ : S27) x5).2) == 0))], [(64, some (.box [.d (.v (.int .i64 (((apW (⟨c64_0, c64_1⟩ : S27) x5).1).f0))), .f (.sl ((((apW (⟨c64_0, c64_1⟩ : S27) x5).1).f1).map d38))])), (160, some (.row 5 35 (Lv5.map d35) false true)), (224, some (.box (cD (d35 x5)))), (288, some (.row 5 38 ((((apW (⟨c64_0, c64_1⟩ : S27) x5).1).f1).map d38) true true))], 464⟩) (by kernel_rfl))) ?_
    refine X.rk ⟨[(3, .pt 64 0 0), (5, rV 160), (10, lV (l.map d35)), (11, iV ((l.map d35).length : Int)), (12, iV (wrap64 (v12 + 1)))], [(64, some (.box [.d (.v (.int .i64 (((apW (⟨c64_0, c64_1⟩ : S27) x5).1).f0))), .f (.sl ((((apW (⟨c64_0, c64_1⟩ : S27) x5).1).f1).map d38))])), (160, some (.row 5 35 (Lv5.map d35) false true))], 496⟩ hτ hmix (by kernel_rfl) (by kernel_rfl) (s2 := ⟨[(3, .pt 64 0 0), (5, rV 160), (10, lV (l.map d35)), (11, iV ((l.map d35).length : Int)), (12, iV (v12 + 1))], [(64, some (.box [.d (.v (.int .i64 (((apW (⟨c64_0, c64_1⟩ : S27) x5).1).f0))), .f (.sl ((((apW (⟨c64_0, c64_1⟩ : S27) x5).1).f1).map d38))])), (160, some (.row 5 35 (Lv5.map d35) false true))], 496⟩) (congrArg (fun z : Int => (⟨[(3, .pt 64 0 0), (5, rV 160), (10, lV (l.map d35)), (11, iV ((l.map d35).length : Int)), (12, iV z)], [(64, some (.box [.d (.v (.int .i64 (((apW (⟨c64_0, c64_1⟩ : S27) x5).1).f0))), .f (.sl ((((apW (⟨c64_0, c64_1⟩ : S27) x5).1).f1).map d38))])), (160, some (.row 5 35 (Lv5.map d35) false true))], 496⟩ : St)) (show wrap64 (v12 + 1) = (v12 + 1) by rw [w64 (n := (v12 + 1)) (by omega) (by omega)])) ?_
    refine ⟨⟨(((apW (⟨c64_0, c64_1⟩ : S27) x5).1).f0, ((apW (⟨c64_0, c64_1⟩ : S27) x5).1).f1, Lv5, (v12 + 1)), ⟨by first | omega | (dsimp only; omega), by first | omega | (dsimp only; omega), by first | omega | (simp only [List.length_append, List.length_cons, List.length_nil]; (first | omega | (dsimp only; omega))), by first | exact fi_y (by first | omega | (dsimp only; omega)) ‹_› hE ‹_› | exact fi_n (by first | omega | (dsimp only; omega)) ‹_› hE ‹_›, hap⟩⟩, by first | exact rfl | omega | (dsimp only; omega) | (simp only [List.length_append, List.length_cons, List.length_nil, List.length_set]; omega) | (simp; done) | (simp; omega), Wk.mk' [(64, 64), (160, 160)] (by kernel_rfl) (by kernel_rfl) (by kernel_rfl)⟩
  ·replace hb4 := of_decide_eq_false (hb4)
   refine X.exit ?_
   refine sk ⟨[(4, rV 160)], [(160, some (.row 5 35 (Lv5.map d35) false true))], 224⟩ ?_
   refine X.ret ?_
   exact ⟨trivial, _, _, ⟨Lv5, (fi_e hE (by omega)), rfl, rfl⟩, .inr ⟨⟨[(4, .e (.c (.f (.sl (Lv5.map d35)))))], [(160, some (.row 5 35 (Lv5.map d35) true true))], 224⟩, Wk.less (by kernel_rfl), Ret.mk' [] (by kernel_rfl) (by kernel_rfl) (by kernel_rfl)⟩⟩
 obtain ⟨_, _, ⟨r0, h1_, rfl, rfl⟩, hf⟩ := key
 exact ⟨r0, h1_, hf⟩

theorem i_ApplyAll (q : S27) (l : List S35) (hl : SmT l) (hg : acsSm q.f1) : ∃ r0 : S27, ∃ r1 : Int, (r0 = allW q l ∧ r1 = ((fitW q l).length : Int)) ∧ Fn Try.prog 10 [.e (.agg [.d (.v (.int .i64 q.f0)), .d (.sl (q.f1.map d38))]), lV (l.map d35)] (lookH []) (.tup [.agg [.d (.v (.int .i64 r0.f0)), .f (.sl (r0.f1.map d38))], .c (.d (.v (.int .i64 r1)))]) (lookH []) := by
 have key : ∃ x' h', ((fun x' h' => ∃ r0 : S27, ∃ r1 : Int, (r0 = allW q l ∧ r1 = ((fitW q l).length : Int)) ∧ x' = .tup [.agg [.d (.v (.int .i64 r0.f0)), .f (.sl (r0.f1.map d38))], .c (.d (.v (.int .i64 r1)))] ∧ h' = [])) x' h' ∧ Fn Try.prog 10 [.e (.agg [.d (.v (.int .i64 q.f0)), .d (.sl (q.f1.map d38))]), lV (l.map d35)] (lookH []) x' (lookH h') := by
  refine Fn.bodyX (N := 34) hτ Try.func10 rfl rfl rfl rfl ?_
  refine sk ⟨[(1, lV (l.map d35)), (2, .pt 64 0 0), (4, .pt 80 0 0)], [(64, some (.box [.d (.v (.int .i64 q.f0)), .d (.sl (q.f1.map d38))])), (80, some (.box [.d (.v (.int .i64 0)), .nil]))], 112⟩ ?_
  refine X.seq ?_
  have hll := hl.1
  have hgl := hg.1
  refine rs 1 ?_
  obtain ⟨r1, hr3, hf2⟩ := i_copyLedger q (by assumption)
  replace hr3 := hr3.symm; subst hr3
  refine ca hf2 Try.func47 ?_
  refine go 2 ?_
  refine ek ⟨[(1, lV (l.map d35)), (4, .pt 80 0 0), (6, .pt 144 0 0)], [(80, some (.box [.d (.v (.int .i64 0)), .nil])), (128, some (.nst 5 38 [(4, 2, 188)] (q.f1.map d38) [])), (144, some (.box [.d (.v (.int .i64 q.f0)), .ref 128]))], 176⟩ ?_
  refine sk ⟨[(1, lV (l.map d35)), (4, .pt 80 0 0), (6, .pt 144 0 0), (7, iV 0)], [(80, some (.box [.d (.v (.int .i64 0)), .nil])), (128, some (.nst 5 38 [(4, 2, 188)] (q.f1.map d38) [])), (144, some (.box [.d (.v (.int .i64 q.f0)), .ref 128]))], 192⟩ ?_
  refine X.seq ?_
  refine X.seq ?_
  have el5 : (l.map d35).length = l.length := List.length_map ..
  refine rk ⟨[(4, .pt 80 0 0), (6, .pt 144 0 0), (7, iV 0), (14, lV (l.map d35)), (15, iV ((l.map d35).length : Int)), (16, iV 0)], [(80, some (.box [.d (.v (.int .i64 0)), .nil])), (128, some (.nst 5 38 [(4, 2, 188)] (q.f1.map d38) [])), (144, some (.box [.d (.v (.int .i64 q.f0)), .ref 128]))], 240⟩ ?_
  refine X.block ?_
  -- 4: c144_0 : Int, Lc144_1 : List S38, v7 : Int, v16 : Int
  refine X.loop (σ := { g : Int × (List S38) × Int × Int // (fun (c144_0 : Int) (Lc144_1 : List S38) (v7 : Int) (v16 : Int) => 0 ≤ v16 ∧ v16 ≤ l.length ∧ cntI l q v7 ⟨c144_0, Lc144_1⟩ v16 ∧ acsSm Lc144_1) g.1 g.2.1 g.2.2.1 g.2.2.2 }) (fun g => (fun (c144_0 : Int) (Lc144_1 : List S38) (v7 : Int) (v16 : Int) => ⟨[(4, .pt 80 0 0), (6, .pt 144 0 0), (7, iV v7), (14, lV (l.map d35)), (15, iV ((l.map d35).length : Int)), (16, iV v16)], [(80, some (.box [.d (.v (.int .i64 0)), .nil])), (128, some (.nst 5 38 [(4, 2, 188)] (Lc144_1.map d38) [])), (144, some (.box [.d (.v (.int .i64 c144_0)), .ref 128]))], 240⟩) g.1.1 g.1.2.1 g.1.2.2.1 g.1.2.2.2) (fun g => (fun (c144_0 : Int) (Lc144_1 : List S38) (v7 : Int) (v16 : Int) => (l.length - v16).toNat) g.1.1 g.1.2.1 g.1.2.2.1 g.1.2.2.2) ⟨(q.f0, q.f1, 0, 0), ⟨by first | omega | (dsimp only; omega), by first | omega | (dsimp only; omega), cn_i0, hg⟩⟩ (Wk.less (by kernel_rfl)) (fun g => ?_)
  obtain ⟨⟨c144_0, Lc144_1, v7, v16⟩, hg7⟩ := g
  have hg7 : 0 ≤ v16 ∧ v16 ≤ l.length ∧ cntI l q v7 ⟨c144_0, Lc144_1⟩ v16 ∧ acsSm Lc144_1 := hg7
  obtain ⟨_, _, hE, hG⟩ := hg7
  refine sk ⟨[(4, .pt 80 0 0), (6, .pt 144 0 0), (7, iV v7), (14, lV (l.map d35)), (15, iV ((l.map d35).length : Int)), (16, iV v16), (17, bV (decide ((v16 : Int) < ((l.map d35).length : Int))))], [(80, some (.box [.d (.v (.int .i64 0)), .nil])), (128, some (.nst 5 38 [(4, 2, 188)] (Lc144_1.map d38) [])), (144, some (.box [.d (.v (.int .i64 c144_0)), .ref 128]))], 256⟩ ?_
  refine X.seq ?_
  refine if_ (b := decide ((v16 : Int) < ((l.map d35).length : Int))) (fun hb8 => ?_) (fun hb8 => ?_)
  ·replace hb8 := of_decide_eq_true (hb8)
   refine X.skip ?_
   refine X.seq ?_
   refine X.block ?_
   refine X.seq (rs 0 ?_)
   obtain ⟨x9, hx9⟩ : ∃ x, l[Int.toNat v16]? = some x := ⟨_, List.getElem?_eq_getElem (by first | omega | (simp; done) | (simp; omega))⟩
   have htx := all_at hl.2 hx9
   refine CH.idx hτ (d35 x9) (rows := (l.map d35)) (n := v16) (sz := 5) (by kernel_rfl) (by kernel_rfl) (by first | omega | (simp; done) | (simp; omega)) (by rw [List.getElem?_map, hx9]; rfl) (by kernel_rfl) ?_
   refine go 3 ?_
   refine ek ⟨[(4, .pt 80 0 0), (6, .pt 144 0 0), (7, iV v7), (9, .pt 288 0 0), (14, lV (l.map d35)), (15, iV ((l.map d35).length : Int)), (16, iV v16)], [(80, some (.box [.d (.v (.int .i64 0)), .nil])), (128, some (.nst 5 38 [(4, 2, 188)] (Lc144_1.map d38) [])), (144, some (.box [.d (.v (.int .i64 c144_0)), .ref 128])), (288, some (.box (cD (d35 x9))))], 320⟩ ?_
   refine X.seq (rs 2 ?_)
   obtain ⟨r10, r11, hr13, hf12⟩ := i_Apply (⟨c144_0, Lc144_1⟩ : S27) x9 (by assumption) (by assumption)
   obtain ⟨e14, e15⟩ := hr13
   replace e14 := e14.symm; subst e14
   replace e15 := e15.symm; subst e15
   have hap := ap_sm (t := x9) (g := (⟨c144_0, Lc144_1⟩ : S27)) (by assumption) (by assumption)
   refine ca hf12 Try.func46 ?_
   refine go 6 ?_
   refine ek ⟨[(4, .pt 80 0 0), (6, .pt 144 0 0), (7, iV v7), (10, .pt 416 0 0), (11, iV ((apW (⟨c144_0, Lc144_1⟩ : S27) x9).2)), (14, lV (l.map d35)), (15, iV ((l.map d35).length : Int)), (16, iV v16)], [(80, some (.box [.d (.v (.int .i64 0)), .nil])), (128, some (.nst 5 38 [(4, 2, 188)] (Lc144_1.map d38) [])), (144, some (.box [.d (.v (.int .i64 c144_0)), .ref 128])), (352, some (.nst 5 38 [(4, 2, 188)] ((((apW (⟨c144_0, Lc144_1⟩ : S27) x9).1).f1).map d38) [])), (416, some (.box [.d (.v (.int .i64 (((apW (⟨c144_0, Lc144_1⟩ : S27) x9).1).f0))), .ref 352]))], 464⟩ ?_
   refine sk ⟨[(4, .pt 80 0 0), (6, .pt 144 0 0), (7, iV v7), (11, iV ((apW (⟨c144_0, Lc144_1⟩ : S27) x9).2)), (14, lV (l.map d35)), (15, iV ((l.map d35).length : Int)), (16, iV v16)], [(80, some (.box [.d (.v (.int .i64 0)), .nil])), (144, some (.box [.d (.v (.int .i64 (((apW (⟨c144_0, Lc144_1⟩ : S27) x9).1).f0))), .ref 352])), (352, some (.nst 5 38 [(4, 2, 188)] ((((apW (⟨c144_0, Lc144_1⟩ : S27) x9).1).f1).map d38) []))], 496⟩ ?_
   refine sk ⟨[(4, .pt 80 0 0), (6, .pt 144 0 0), (7, iV v7), (14, lV (l.map d35)), (15, iV ((l.map d35).length : Int)), (16, iV v16), (28, bV (((apW (⟨c144_0, Lc144_1⟩ : S27) x9).2) == 0))], [(80, some (.box [.d (.v (.int .i64 0)), .nil])), (144, some (.box [.d (.v (.int .i64 (((apW (⟨c144_0, Lc144_1⟩ : S27) x9).1).f0))), .ref 352])), (352, some (.nst 5 38 [(4, 2, 188)] ((((apW (⟨c144_0, Lc144_1⟩ : S27) x9).1).f1).map d38) []))], 528⟩ ?_
   refine if_ (b := (((apW (⟨c144_0, Lc144_1⟩ : S27) x9).2) == 0)) (fun hb16 => ?_) (fun hb16 => ?_)
   ·replace hb16 := eq_of_beq (hb16)
    have hcb := cn_bd hE
    refine X.rk ⟨[(4, .pt 80 0 0), (6, .pt 144 0 0), (7, iV (wrap64 (v7 + 1))), (14, lV (l.map d35)), (15, iV ((l.map d35).length : Int)), (16, iV v16)], [(80, some (.box [.d (.v (.int .i64 0)), .nil])), (144, some (.box [.d (.v (.int .i64 (((apW (⟨c144_0, Lc144_1⟩ : S27) x9).1).f0))), .ref 352])), (352, some (.nst 5 38 [(4, 2, 188)] ((((apW (⟨c144_0, Lc144_1⟩ : S27) x9).1).f1).map d38) []))], 576⟩ hτ hmix (by kernel_rfl) (by kernel_rfl) (s2 := ⟨[(4, .pt 80 0 0), (6, .pt 144 0 0), (7, iV (v7 + 1)), (14, lV (l.map d35)), (15, iV ((l.map d35).length : Int)), (16, iV v16)], [(80, some (.box [.d (.v (.int .i64 0)), .nil])), (144, some (.box [.d (.v (.int .i64 (((apW (⟨c144_0, Lc144_1⟩ : S27) x9).1).f0))), .ref 352])), (352, some (.nst 5 38 [(4, 2, 188)] ((((apW (⟨c144_0, Lc144_1⟩ : S27) x9).1).f1).map d38) []))], 576⟩) (congrArg (fun z : Int => (⟨[(4, .pt 80 0 0), (6, .pt 144 0 0), (7, iV z), (14, lV (l.map d35)), (15, iV ((l.map d35).length : Int)), (16, iV v16)], [(80, some (.box [.d (.v (.int .i64 0)), .nil])), (144, some (.box [.d (.v (.int .i64 (((apW (⟨c144_0, Lc144_1⟩ : S27) x9).1).f0))), .ref 352])), (352, some (.nst 5 38 [(4, 2, 188)] ((((apW (⟨c144_0, Lc144_1⟩ : S27) x9).1).f1).map d38) []))], 576⟩ : St)) (show wrap64 (v7 + 1) = (v7 + 1) by rw [w64 (n := (v7 + 1)) (by omega) (by omega)])) ?_
    refine X.rk ⟨[(4, .pt 80 0 0), (6, .pt 144 0 0), (7, iV (v7 + 1)), (14, lV (l.map d35)), (15, iV ((l.map d35).length : Int)), (16, iV (wrap64 (v16 + 1)))], [(80, some (.box [.d (.v (.int .i64 0)), .nil])), (144, some (.box [.d (.v (.int .i64 (((apW (⟨c144_0, Lc144_1⟩ : S27) x9).1).f0))), .ref 352])), (352, some (.nst 5 38 [(4, 2, 188)] ((((apW (⟨c144_0, Lc144_1⟩ : S27) x9).1).f1).map d38) []))], 608⟩ hτ hmix (by kernel_rfl) (by kernel_rfl) (s2 := ⟨[(4, .pt 80 0 0), (6, .pt 144 0 0), (7, iV (v7 + 1)), (14, lV (l.map d35)), (15, iV ((l.map d35).length : Int)), (16, iV (v16 + 1))], [(80, some (.box [.d (.v (.int .i64 0)), .nil])), (144, some (.box [.d (.v (.int .i64 (((apW (⟨c144_0, Lc144_1⟩ : S27) x9).1).f0))), .ref 352])), (352, some (.nst 5 38 [(4, 2, 188)] ((((apW (⟨c144_0, Lc144_1⟩ : S27) x9).1).f1).map d38) []))], 608⟩) (congrArg (fun z : Int => (⟨[(4, .pt 80 0 0), (6, .pt 144 0 0), (7, iV (v7 + 1)), (14, lV (l.map d35)), (15, iV ((l.map d35).length : Int)), (16, iV z)], [(80, some (.box [.d (.v (.int .i64 0)), .nil])), (144, some (.box [.d (.v (.int .i64 (((apW (⟨c144_0, Lc144_1⟩ : S27) x9).1).f0))), .ref 352])), (352, some (.nst 5 38 [(4, 2, 188)] ((((apW (⟨c144_0, Lc144_1⟩ : S27) x9).1).f1).map d38) []))], 608⟩ : St)) (show wrap64 (v16 + 1) = (v16 + 1) by rw [w64 (n := (v16 + 1)) (by omega) (by omega)])) ?_
    refine ⟨⟨(((apW (⟨c144_0, Lc144_1⟩ : S27) x9).1).f0, ((apW (⟨c144_0, Lc144_1⟩ : S27) x9).1).f1, (v7 + 1), (v16 + 1)), ⟨by first | omega | (dsimp only; omega), by first | omega | (dsimp only; omega), by first | exact cn_y (by first | omega | (dsimp only; omega)) ‹_› hE ‹_› | exact cn_n (by first | omega | (dsimp only; omega)) ‹_› hE ‹_›, hap⟩⟩, by first | exact rfl | omega | (dsimp only; omega) | (simp only [List.length_append, List.length_cons, List.length_nil, List.length_set]; omega) | (simp; done) | (simp; omega), Wk.mk' [(80, 80), (128, 352), (144, 144)] (by kernel_rfl) (by kernel_rfl) (by kernel_rfl)⟩
   ·replace hb16 := beq_eq_false_iff_ne.1 (hb16)
    refine X.skip ?_
    refine X.rk ⟨[(4, .pt 80 0 0), (6, .pt 144 0 0), (7, iV v7), (14, lV (l.map d35)), (15, iV ((l.map d35).length : Int)), (16, iV (wrap64 (v16 + 1)))], [(80, some (.box [.d (.v (.int .i64 0)), .nil])), (144, some (.box [.d (.v (.int .i64 (((apW (⟨c144_0, Lc144_1⟩ : S27) x9).1).f0))), .ref 352])), (352, some (.nst 5 38 [(4, 2, 188)] ((((apW (⟨c144_0, Lc144_1⟩ : S27) x9).1).f1).map d38) []))], 560⟩ hτ hmix (by kernel_rfl) (by kernel_rfl) (s2 := ⟨[(4, .pt 80 0 0), (6, .pt 144 0 0), (7, iV v7), (14, lV (l.map d35)), (15, iV ((l.map d35).length : Int)), (16, iV (v16 + 1))], [(80, some (.box [.d (.v (.int .i64 0)), .nil])), (144, some (.box [.d (.v (.int .i64 (((apW (⟨c144_0, Lc144_1⟩ : S27) x9).1).f0))), .ref 352])), (352, some (.nst 5 38 [(4, 2, 188)] ((((apW (⟨c144_0, Lc144_1⟩ : S27) x9).1).f1).map d38) []))], 560⟩) (congrArg (fun z : Int => (⟨[(4, .pt 80 0 0), (6, .pt 144 0 0), (7, iV v7), (14, lV (l.map d35)), (15, iV ((l.map d35).length : Int)), (16, iV z)], [(80, some (.box [.d (.v (.int .i64 0)), .nil])), (144, some (.box [.d (.v (.int .i64 (((apW (⟨c144_0, Lc144_1⟩ : S27) x9).1).f0))), .ref 352])), (352, some (.nst 5 38 [(4, 2, 188)] ((((apW (⟨c144_0, Lc144_1⟩ : S27) x9).1).f1).map d38) []))], 560⟩ : St)) (show wrap64 (v16 + 1) = (v16 + 1) by rw [w64 (n := (v16 + 1)) (by omega) (by omega)])) ?_
    refine ⟨⟨(((apW (⟨c144_0, Lc144_1⟩ : S27) x9).1).f0, ((apW (⟨c144_0, Lc144_1⟩ : S27) x9).1).f1, v7, (v16 + 1)), ⟨by first | omega | (dsimp only; omega), by first | omega | (dsimp only; omega), by first | exact cn_y (by first | omega | (dsimp only; omega)) ‹_› hE ‹_› | exact cn_n (by first | omega | (dsimp only; omega)) ‹_› hE ‹_›, hap⟩⟩, by first | exact rfl | omega | (dsimp only; omega) | (simp only [List.length_append, List.length_cons, List.length_nil, List.length_set]; omega) | (simp; done) | (simp; omega), Wk.mk' [(80, 80), (128, 352), (144, 144)] (by kernel_rfl) (by kernel_rfl) (by kernel_rfl)⟩
  ·replace hb8 := of_decide_eq_false (hb8)
   refine X.exit ?_
   refine sk ⟨[(4, .pt 80 0 0), (5, iV v7)], [(80, some (.box [.d (.v (.int .i64 c144_0)), .ref 128])), (128, some (.nst 5 38 [(4, 2, 188)] (Lc144_1.map d38) []))], 320⟩ ?_
   refine X.ret ?_
   exact ⟨trivial, _, _, ⟨(⟨c144_0, Lc144_1⟩ : S27), v7, (cn_e hE (by omega)), rfl, rfl⟩, .inr ⟨⟨[(4, .pt 80 0 0), (5, iV v7)], [(80, some (.box [.d (.v (.int .i64 c144_0)), .f (.sl (Lc144_1.map d38))])), (128, some (.row 5 38 (Lc144_1.map d38) true true))], 320⟩, (Wk.frzN (wd := 5) (e := 38) (co := [(4, 2, 188)]) (rows := (Lc144_1.map d38)) 128 (by kernel_rfl) (by kernel_rfl)).trans (Wk.less (by kernel_rfl)), Ret.mk' [] (by kernel_rfl) (by kernel_rfl) (by kernel_rfl)⟩⟩
 obtain ⟨_, _, ⟨r0, r1, h1_, rfl, rfl⟩, hf⟩ := key
 exact ⟨r0, r1, h1_, hf⟩

theorem l_FnFitting (code : List Int) (hl : code.length ≤ 4611686018427387904) : ∃ r0 : Bool, (r0 = true) ∧ Fn Try.prog 3 [lV (code.map dB)] (lookH []) (bV r0) (lookH []) := by
 have key : ∃ x' h', ((fun x' h' => ∃ r0 : Bool, (r0 = true) ∧ x' = bV r0 ∧ h' = [])) x' h' ∧ Fn Try.prog 3 [lV (code.map dB)] (lookH []) x' (lookH h') := by
  refine Fn.bodyX (N := 94) hτ Try.func3 rfl rfl rfl rfl ?_
  refine sk ⟨[(0, lV (code.map dB))], [], 80⟩ ?_
  refine X.seq ?_
  refine X.seq (rs 1 ?_)
  obtain ⟨r1, hr3, hf2⟩ := l_big code (by assumption)
  refine ca hf2 Try.func7 ?_
  refine ek ⟨[(0, lV (code.map dB)), (14, bV r1)], [], 112⟩ ?_
  refine if_ (b := r1) (fun hb4 => ?_) (fun hb4 => ?_)
  ·refine sk ⟨[(2, bV true)], [], 128⟩ ?_
   refine X.ret ?_
   exact ⟨trivial, _, _, ⟨true, (by first | exact rfl | exact (absurd ‹_› hdm.1) | exact (absurd ‹_› (hdm.2 _ ‹_›)) | exact (beq_iff_eq.2 rfl) | exact (by exfalso; simp only [fit_fit, List.length_map] at *; omega)), rfl, rfl⟩, mkr⟩
  ·refine X.skip ?_
   refine X.seq (rs 1 ?_)
   obtain ⟨r5, r6, hr8, hf7⟩ := s_DrawPoolFit code (by assumption)
   obtain ⟨hL, hLn, hg⟩ := hr8
   refine ca hf7 Try.func8 ?_
   refine go 6 ?_
   refine ek ⟨[(3, .e (.c (.f (.sl (r5.map d35))))), (4, .pt 192 0 0)], [(192, some (.box [.d (.v (.int .i64 r6.f0)), .f (.sl (r6.f1.map d38))]))], 240⟩ ?_
   refine X.seq ?_
   have hll := hL.1
   have hgl := hg.1
   refine rs 2 ?_
   obtain ⟨r9, hr11, hf10⟩ := i_PoolFit r5 r6 (by exact hL) (by exact hg)
   replace hr11 := hr11.symm; subst hr11
   have hftl := fit_len r6 r5
   refine ca hf10 Try.func9 ?_
   refine go 1 ?_
   refine ek ⟨[(3, .e (.c (.f (.sl (r5.map d35))))), (4, .pt 192 0 0), (5, .e (.c (.f (.sl ((fitW r6 r5).map d35)))))], [(192, some (.box [.d (.v (.int .i64 r6.f0)), .f (.sl (r6.f1.map d38))]))], 304⟩ ?_
   refine X.seq (rs 2 ?_)
   obtain ⟨r13, r14, hr16, hf15⟩ := i_ApplyAll r6 (fitW r6 r5) (by exact ⟨by omega, fit_sm _ hL.2⟩) (by exact hg)
   obtain ⟨e17, e18⟩ := hr16
   replace e17 := e17.symm; subst e17
   replace e18 := e18.symm; subst e18
   have hftl := fit_len r6 (fitW r6 r5)
   refine ca hf15 Try.func10 ?_
   refine go 6 ?_
   refine ek ⟨[(3, .e (.c (.f (.sl (r5.map d35))))), (4, .pt 192 0 0), (5, .e (.c (.f (.sl ((fitW r6 r5).map d35))))), (7, iV ((fitW r6 (fitW r6 r5)).length : Int))], [(192, some (.box [.d (.v (.int .i64 r6.f0)), .f (.sl (r6.f1.map d38))]))], 448⟩ ?_
   refine X.seq (rs 2 ?_)
   obtain ⟨r19, r20, hr22, hf21⟩ := i_ApplyAll r6 r5 (by exact hL) (by exact hg)
   obtain ⟨e23, e24⟩ := hr22
   replace e23 := e23.symm; subst e23
   replace e24 := e24.symm; subst e24
   have hftl := fit_len r6 r5
   refine ca hf21 Try.func10 ?_
   refine go 6 ?_
   refine ek ⟨[(3, .e (.c (.f (.sl (r5.map d35))))), (4, .pt 192 0 0), (5, .e (.c (.f (.sl ((fitW r6 r5).map d35))))), (7, iV ((fitW r6 (fitW r6 r5)).length : Int)), (9, iV ((fitW r6 r5).length : Int))], [(192, some (.box [.d (.v (.int .i64 r6.f0)), .f (.sl (r6.f1.map d38))]))], 592⟩ ?_
   refine X.seq (rs 2 ?_)
   obtain ⟨r25, hr27, hf26⟩ := i_PoolDrop r5 r6 (by exact hL) (by exact hg)
   replace hr27 := hr27.symm; subst hr27
   have hpdl := pd_len r5 r6
   refine ca hf26 Try.func11 ?_
   refine go 1 ?_
   refine ek ⟨[(3, .e (.c (.f (.sl (r5.map d35))))), (4, .pt 192 0 0), (5, .e (.c (.f (.sl ((fitW r6 r5).map d35))))), (7, iV ((fitW r6 (fitW r6 r5)).length : Int)), (9, iV ((fitW r6 r5).length : Int)), (10, .e (.c (.f (.sl ((pdW r5 r6).map d35)))))], [(192, some (.box [.d (.v (.int .i64 r6.f0)), .f (.sl (r6.f1.map d38))]))], 656⟩ ?_
   refine X.seq ?_
   refine sk ⟨[(3, .e (.c (.f (.sl (r5.map d35))))), (4, .pt 192 0 0), (5, .e (.c (.f (.sl ((fitW r6 r5).map d35))))), (7, iV ((fitW r6 (fitW r6 r5)).length : Int)), (9, iV ((fitW r6 r5).length : Int)), (10, .e (.c (.f (.sl ((pdW r5 r6).map d35))))), (11, iV 0)], [(192, some (.box [.d (.v (.int .i64 r6.f0)), .f (.sl (r6.f1.map d38))]))], 672⟩ ?_
   refine X.block ?_
   -- 9: v11 : Int
   refine X.loop (σ := { g : Int // (fun (v11 : Int) => 0 ≤ v11 ∧ v11 ≤ ((pdW r5 r6)).length) g }) (fun g => (fun (v11 : Int) => ⟨[(3, .e (.c (.f (.sl (r5.map d35))))), (4, .pt 192 0 0), (5, .e (.c (.f (.sl ((fitW r6 r5).map d35))))), (7, iV ((fitW r6 (fitW r6 r5)).length : Int)), (9, iV ((fitW r6 r5).length : Int)), (10, .e (.c (.f (.sl ((pdW r5 r6).map d35))))), (11, iV v11)], [(192, some (.box [.d (.v (.int .i64 r6.f0)), .f (.sl (r6.f1.map d38))]))], 672⟩) g.1) (fun g => (fun (v11 : Int) => (((pdW r5 r6)).length - v11).toNat) g.1) ⟨0, ⟨by first | omega | (dsimp only; omega), by first | omega | (dsimp only; omega)⟩⟩ (Wk.less (by kernel_rfl)) (fun g => ?_)
   obtain ⟨v11, hg30⟩ := g
   have hg30 : 0 ≤ v11 ∧ v11 ≤ ((pdW r5 r6)).length := hg30
   obtain ⟨_, _⟩ := hg30
   refine X.seq ?_
   refine X.seq ?_
   have el31 : ((pdW r5 r6).map d35).length = (pdW r5 r6).length := List.length_map ..
   refine rk ⟨[(3, .e (.c (.f (.sl (r5.map d35))))), (4, .pt 192 0 0), (5, .e (.c (.f (.sl ((fitW r6 r5).map d35))))), (7, iV ((fitW r6 (fitW r6 r5)).length : Int)), (9, iV ((fitW r6 r5).length : Int)), (10, .e (.c (.f (.sl ((pdW r5 r6).map d35))))), (11, iV v11), (41, bV (decide ((v11 : Int) < (((pdW r5 r6).map d35).length : Int))))], [(192, some (.box [.d (.v (.int .i64 r6.f0)), .f (.sl (r6.f1.map d38))]))], 736⟩ ?_
   refine if_ (b := decide ((v11 : Int) < (((pdW r5 r6).map d35).length : Int))) (fun hb32 => ?_) (fun hb32 => ?_)
   ·replace hb32 := of_decide_eq_true (hb32)
    refine X.skip ?_
    refine X.seq ?_
    refine X.block ?_
    refine X.seq (rs 4 ?_)
    obtain ⟨x33, hx33⟩ : ∃ x, (pdW r5 r6)[Int.toNat v11]? = some x := ⟨_, List.getElem?_eq_getElem (by first | omega | (simp; done) | (simp; omega))⟩
    have hdm := dropB_at (pd_mem (List.mem_of_getElem? hx33))
    refine CH.idx hτ (d35 x33) (rows := ((pdW r5 r6).map d35)) (n := v11) (sz := 5) (by kernel_rfl) (by kernel_rfl) (by first | omega | (simp; done) | (simp; omega)) (by rw [List.getElem?_map, hx33]; rfl) (by kernel_rfl) ?_
    refine go 2 ?_
    obtain ⟨r34, hr36, hf35⟩ := i_AcctAt r6.f1 x33.f1 (by have := hg.1; omega)
    replace hr36 := hr36.symm; subst hr36
    have hac := fi_bd (nmP x33.f1) r6.f1
    change -1 ≤ acAt r6.f1 x33.f1 ∧ acAt r6.f1 x33.f1 < _ at hac
    refine ca hf35 Try.func12 ?_
    refine go 1 ?_
    refine ek ⟨[(3, .e (.c (.f (.sl (r5.map d35))))), (4, .pt 192 0 0), (5, .e (.c (.f (.sl ((fitW r6 r5).map d35))))), (7, iV ((fitW r6 (fitW r6 r5)).length : Int)), (9, iV ((fitW r6 r5).length : Int)), (10, .e (.c (.f (.sl ((pdW r5 r6).map d35))))), (11, iV v11), (12, iV (acAt r6.f1 x33.f1))], [(192, some (.box [.d (.v (.int .i64 r6.f0)), .f (.sl (r6.f1.map d38))]))], 880⟩ ?_
    refine X.seq (rs 3 ?_)
    rcases Bool.eq_false_or_eq_true (decide (((acAt r6.f1 x33.f1) : Int) < 0)) with hb38 | hb38
    ·refine aT 53 hb38 ?_
     refine aT 54 hb38 ?_
     replace hb38 := of_decide_eq_true (hb38)
     refine go 13 ?_
     refine ek ⟨[(3, .e (.c (.f (.sl (r5.map d35))))), (4, .pt 192 0 0), (5, .e (.c (.f (.sl ((fitW r6 r5).map d35))))), (7, iV ((fitW r6 (fitW r6 r5)).length : Int)), (9, iV ((fitW r6 r5).length : Int)), (10, .e (.c (.f (.sl ((pdW r5 r6).map d35))))), (11, iV v11), (67, bV true)], [(192, some (.box [.d (.v (.int .i64 r6.f0)), .f (.sl (r6.f1.map d38))]))], 1136⟩ ?_
     refine X.ifT (by kernel_rfl) ?_
     refine sk ⟨[(2, bV false)], [], 1152⟩ ?_
     refine X.ret ?_
     exact ⟨trivial, _, _, ⟨false, (by first | exact rfl | exact (absurd ‹_› hdm.1) | exact (absurd ‹_› (hdm.2 _ ‹_›)) | exact (beq_iff_eq.2 rfl) | exact (by exfalso; simp only [fit_fit, List.length_map] at *; omega)), rfl, rfl⟩, mkr⟩
    ·refine aF 53 hb38 ?_
     refine aF 54 hb38 ?_
     replace hb38 := of_decide_eq_false (hb38)
     refine go 2 ?_
     refine CH.idx hτ (d35 x33) (rows := ((pdW r5 r6).map d35)) (n := v11) (sz := 5) (by kernel_rfl) (by kernel_rfl) (by first | omega | (simp; done) | (simp; omega)) (by rw [List.getElem?_map, hx33]; rfl) (by kernel_rfl) ?_
     refine go 5 ?_
     obtain ⟨x39, hx39⟩ : ∃ x, r6.f1[Int.toNat (acAt r6.f1 x33.f1)]? = some x := ⟨_, List.getElem?_eq_getElem (by first | omega | (simp; done) | (simp; omega))⟩
     refine CH.idx hτ (d38 x39) (rows := (r6.f1.map d38)) (n := (acAt r6.f1 x33.f1)) (sz := 5) (by kernel_rfl) (by kernel_rfl) (by first | omega | (simp; done) | (simp; omega)) (by rw [List.getElem?_map, hx39]; rfl) (by kernel_rfl) ?_
     refine go 4 ?_
     refine ek ⟨[(3, .e (.c (.f (.sl (r5.map d35))))), (4, .pt 192 0 0), (5, .e (.c (.f (.sl ((fitW r6 r5).map d35))))), (7, iV ((fitW r6 (fitW r6 r5)).length : Int)), (9, iV ((fitW r6 r5).length : Int)), (10, .e (.c (.f (.sl ((pdW r5 r6).map d35))))), (11, iV v11), (67, bV (decide ((x33.f4 : Int) < x39.f2)))], [(192, some (.box [.d (.v (.int .i64 r6.f0)), .f (.sl (r6.f1.map d38))]))], 1136⟩ ?_
     refine if_ (b := decide ((x33.f4 : Int) < x39.f2)) (fun hb40 => ?_) (fun hb40 => ?_)
     ·replace hb40 := of_decide_eq_true (hb40)
      refine sk ⟨[(2, bV false)], [], 1152⟩ ?_
      refine X.ret ?_
      exact ⟨trivial, _, _, ⟨false, (by first | exact rfl | exact (absurd ‹_› hdm.1) | exact (absurd ‹_› (hdm.2 _ ‹_›)) | exact (beq_iff_eq.2 rfl) | exact (by exfalso; simp only [fit_fit, List.length_map] at *; omega)), rfl, rfl⟩, mkr⟩
     ·replace hb40 := of_decide_eq_false (hb40)
      refine X.skip ?_
      refine X.rk ⟨[(3, .e (.c (.f (.sl (r5.map d35))))), (4, .pt 192 0 0), (5, .e (.c (.f (.sl ((fitW r6 r5).map d35))))), (7, iV ((fitW r6 (fitW r6 r5)).length : Int)), (9, iV ((fitW r6 r5).length : Int)), (10, .e (.c (.f (.sl ((pdW r5 r6).map d35))))), (11, iV (wrap64 (v11 + 1)))], [(192, some (.box [.d (.v (.int .i64 r6.f0)), .f (.sl (r6.f1.map d38))]))], 1184⟩ hτ hmix (by kernel_rfl) (by kernel_rfl) (s2 := ⟨[(3, .e (.c (.f (.sl (r5.map d35))))), (4, .pt 192 0 0), (5, .e (.c (.f (.sl ((fitW r6 r5).map d35))))), (7, iV ((fitW r6 (fitW r6 r5)).length : Int)), (9, iV ((fitW r6 r5).length : Int)), (10, .e (.c (.f (.sl ((pdW r5 r6).map d35))))), (11, iV (v11 + 1))], [(192, some (.box [.d (.v (.int .i64 r6.f0)), .f (.sl (r6.f1.map d38))]))], 1184⟩) (congrArg (fun z : Int => (⟨[(3, .e (.c (.f (.sl (r5.map d35))))), (4, .pt 192 0 0), (5, .e (.c (.f (.sl ((fitW r6 r5).map d35))))), (7, iV ((fitW r6 (fitW r6 r5)).length : Int)), (9, iV ((fitW r6 r5).length : Int)), (10, .e (.c (.f (.sl ((pdW r5 r6).map d35))))), (11, iV z)], [(192, some (.box [.d (.v (.int .i64 r6.f0)), .f (.sl (r6.f1.map d38))]))], 1184⟩ : St)) (show wrap64 (v11 + 1) = (v11 + 1) by rw [w64 (n := (v11 + 1)) (by omega) (by omega)])) ?_
      refine ⟨⟨(v11 + 1), ⟨by first | omega | (dsimp only; omega), by first | omega | (dsimp only; omega)⟩⟩, by first | exact rfl | omega | (dsimp only; omega) | (simp only [List.length_append, List.length_cons, List.length_nil, List.length_set]; omega) | (simp; done) | (simp; omega), Wk.mk' [(192, 192)] (by kernel_rfl) (by kernel_rfl) (by kernel_rfl)⟩
   ·replace hb32 := of_decide_eq_false (hb32)
    refine X.exit ?_
    refine X.seq ?_
    have el41 : ((fitW r6 r5).map d35).length = (fitW r6 r5).length := List.length_map ..
    refine rs 5 ?_
    rcases Bool.eq_false_or_eq_true ((((fitW r6 (fitW r6 r5)).length : Int) == (((fitW r6 r5).map d35).length : Int))) with hb42 | hb42
    ·refine aT 71 hb42 ?_
     refine aT 72 hb42 ?_
     replace hb42 := eq_of_beq (hb42)
     refine go 6 ?_
     rcases Bool.eq_false_or_eq_true ((((fitW r6 r5).length : Int) == (((fitW r6 r5).map d35).length : Int))) with hb43 | hb43
     ·refine aT 76 hb43 ?_
      refine aT 77 hb43 ?_
      refine aT 78 hb43 ?_
      replace hb43 := eq_of_beq (hb43)
      refine go 7 ?_
      have el44 : (r5.map d35).length = r5.length := List.length_map ..
      rcases Bool.eq_false_or_eq_true (decide (((((pdW r5 r6).map d35).length : Int) : Int) ≤ ((r5.map d35).length : Int))) with hb45 | hb45
      ·refine aT 83 hb45 ?_
       refine aT 84 hb45 ?_
       refine aT 85 hb45 ?_
       replace hb45 := of_decide_eq_true (hb45)
       refine go 4 ?_
       obtain ⟨r46, hr48, hf47⟩ := s_PoolDrop r5 r6 (by exact hL) (by exact hg)
       replace hr48 := hr48.symm; subst hr48
       have hpdl := pd_len r5 r6
       refine ca hf47 Try.func13 ?_
       refine go 4 ?_
       refine ek ⟨[(2, bV ((((pdW r5 r6).map d35).length : Int) == (((pdW r5 r6).map d35).length : Int)))], [], 1168⟩ ?_
       refine X.ret ?_
       exact ⟨trivial, _, _, ⟨((((pdW r5 r6).map d35).length : Int) == (((pdW r5 r6).map d35).length : Int)), (by first | exact rfl | exact (absurd ‹_› hdm.1) | exact (absurd ‹_› (hdm.2 _ ‹_›)) | exact (beq_iff_eq.2 rfl) | exact (by exfalso; simp only [fit_fit, List.length_map] at *; omega)), rfl, rfl⟩, mkr⟩
      ·refine aF 83 hb45 ?_
       refine aF 84 hb45 ?_
       refine aF 85 hb45 ?_
       replace hb45 := of_decide_eq_false (hb45)
       refine go 9 ?_
       refine ek ⟨[(2, bV false)], [], 1168⟩ ?_
       refine X.ret ?_
       exact ⟨trivial, _, _, ⟨false, (by first | exact rfl | exact (absurd ‹_› hdm.1) | exact (absurd ‹_› (hdm.2 _ ‹_›)) | exact (beq_iff_eq.2 rfl) | exact (by exfalso; simp only [fit_fit, List.length_map] at *; omega)), rfl, rfl⟩, mkr⟩
     ·refine aF 76 hb43 ?_
      refine aF 77 hb43 ?_
      refine aF 78 hb43 ?_
      replace hb43 := beq_eq_false_iff_ne.1 (hb43)
      refine go 16 ?_
      refine ek ⟨[(2, bV false)], [], 1168⟩ ?_
      refine X.ret ?_
      exact ⟨trivial, _, _, ⟨false, (by first | exact rfl | exact (absurd ‹_› hdm.1) | exact (absurd ‹_› (hdm.2 _ ‹_›)) | exact (beq_iff_eq.2 rfl) | exact (by exfalso; simp only [fit_fit, List.length_map] at *; omega)), rfl, rfl⟩, mkr⟩
    ·refine aF 71 hb42 ?_
     refine aF 72 hb42 ?_
     replace hb42 := beq_eq_false_iff_ne.1 (hb42)
     refine go 22 ?_
     refine ek ⟨[(2, bV false)], [], 1168⟩ ?_
     refine X.ret ?_
     exact ⟨trivial, _, _, ⟨false, (by first | exact rfl | exact (absurd ‹_› hdm.1) | exact (absurd ‹_› (hdm.2 _ ‹_›)) | exact (beq_iff_eq.2 rfl) | exact (by exfalso; simp only [fit_fit, List.length_map] at *; omega)), rfl, rfl⟩, mkr⟩
 obtain ⟨_, _, ⟨r0, h1_, rfl, rfl⟩, hf⟩ := key
 exact ⟨r0, h1_, hf⟩
end Go.Proofs.Ytggmeldoecnkaaa.Av
