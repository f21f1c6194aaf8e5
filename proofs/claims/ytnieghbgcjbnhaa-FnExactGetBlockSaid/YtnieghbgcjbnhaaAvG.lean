/-
What functions of the program come to, walked one by one.
Conditions: none beside those that each theorem names.
-/
import Derived.Test.YtnieghbgcjbnhaaAvB
import Derived.Test.YtnieghbgcjbnhaaAv27
set_option linter.unusedVariables false
set_option linter.unusedSimpArgs false
namespace Go.Proofs.Ytnieghbgcjbnhaa.Av
open Go.RowKit
set_option maxRecDepth 20000
set_option maxHeartbeats 4000000
/-! numbers as bytes -/
theorem bys_len (s : ByteArray) : (bys s).length = s.size := by simp [bys]
def leb (m : Nat) : List Int := if h : m > 127 then ((m % 128 + 128 : Nat) : Int) :: leb (m / 128) else [(m : Int)]
termination_by m
decreasing_by omega
def clampN (n : Int) : Int := mmx true (-1000000000) (mmx false n 1000000000)
def zz (n : Int) : Int := if n < 0 then -2 * n - 1 else 2 * n
def numB (n : Int) : List Int := leb (zz (clampN n)).toNat
theorem clampN_bd (n : Int) : -1000000000 ≤ clampN n ∧ clampN n ≤ 1000000000 := by
  unfold clampN mmx
  simp only
  split <;> split <;> omega
theorem clampN_id {n : Int} (h1 : -1000000000 ≤ n) (h2 : n ≤ 1000000000) : clampN n = n := by
  unfold clampN mmx
  simp only
  split <;> split <;> omega
theorem zz_bd (n : Int) : 0 ≤ zz (clampN n) ∧ zz (clampN n) ≤ 2000000000 := by
  have := clampN_bd n
  unfold zz
  split <;> omega
theorem lebp {m : Nat} (h : m > 127) : leb m = ((m % 128 + 128 : Nat) : Int) :: leb (m / 128) := by rw [leb, dif_pos h]
theorem lebn {m : Nat} (h : ¬ m > 127) : leb m = [(m : Int)] := by rw [leb, dif_neg h]
theorem leb_len : ∀ (k m : Nat), m < 128 ^ (k + 1) → (leb m).length ≤ k + 1
  | 0, m, h => by rw [lebn (by omega)]; simp
  | k + 1, m, h => by
    by_cases q : m > 127
    · rw [lebp q, List.length_cons]
      have := leb_len k (m / 128) (by rw [Nat.pow_succ] at h; omega)
      omega
    · rw [lebn q]; simp
theorem leb_pos (m : Nat) : 0 < (leb m).length := by
  by_cases q : m > 127
  · rw [lebp q]; simp
  · rw [lebn q]; simp
theorem numB_len (n : Int) : (numB n).length ≤ 5 ∧ 0 < (numB n).length := by
  have := zz_bd n
  exact ⟨leb_len 4 _ (by omega), leb_pos _⟩
/-! what the operations on bits come to -/
theorem bvN {x : Int} (h0 : 0 ≤ x) (h1 : x < 18446744073709551616) : (BitVec.ofInt 64 x).toNat = x.toNat := by rw [BitVec.toNat_ofInt]; omega
theorem and127 {x : Int} (h0 : 0 ≤ x) (h1 : x < 9223372036854775808) : wr .i64 (BitVec.ofInt 64 x &&& BitVec.ofInt 64 127).toNat = ((x.toNat % 128 : Nat) : Int) := by
  have e : (BitVec.ofInt 64 x &&& BitVec.ofInt 64 127).toNat = x.toNat % 128 := by
    rw [BitVec.toNat_and, bvN h0 (by omega), bvN (by omega) (by omega)]
    exact Nat.and_two_pow_sub_one_eq_mod x.toNat 7
  rw [e]
  show wrap64 _ = _
  rw [w64 (by omega) (by omega)]
theorem and1 {x : Int} (h0 : 0 ≤ x) (h1 : x < 9223372036854775808) : wr .i64 (BitVec.ofInt 64 x &&& BitVec.ofInt 64 1).toNat = x % 2 := by
  have e : (BitVec.ofInt 64 x &&& BitVec.ofInt 64 1).toNat = x.toNat % 2 := by
    rw [BitVec.toNat_and, bvN h0 (by omega), bvN (by omega) (by omega)]
    exact Nat.and_two_pow_sub_one_eq_mod x.toNat 1
  rw [e]
  show wrap64 _ = _
  rw [w64 (by omega) (by omega)]
  omega
theorem orD {x y : Int} {k : Nat} (hk : k ≤ 40) (h0 : 0 ≤ x) (hx : x < 2 ^ k) (hy0 : 0 ≤ y) (hy : y < 128) : wr .i64 (BitVec.ofInt 64 x ||| BitVec.ofInt 64 (wr .i64 (y * 2 ^ k))).toNat = x + y * 2 ^ k := by
  have hp : (2 : Nat) ^ k ≤ 1099511627776 := Nat.le_trans (Nat.pow_le_pow_right (by decide) hk) (by decide)
  have hpI : ((2 : Int) ^ k) = (((2 : Nat) ^ k : Nat) : Int) := by simp
  rw [hpI] at hx ⊢
  generalize hq : (2 : Nat) ^ k = q at *
  have hq0 : 0 < q := by rw [← hq]; exact Nat.two_pow_pos k
  obtain ⟨a, rfl⟩ : ∃ a : Nat, x = a := ⟨x.toNat, by omega⟩
  obtain ⟨b, rfl⟩ : ∃ b : Nat, y = b := ⟨y.toNat, by omega⟩
  have hb : b ≤ 127 := by omega
  have hbq : b * q ≤ 127 * 1099511627776 := Nat.mul_le_mul hb hp
  have e1 : wr .i64 ((b : Int) * (q : Int)) = ((b * q : Nat) : Int) := by
    show wrap64 _ = _
    rw [w64] <;> rw [← Int.natCast_mul] <;> omega
  have e : (BitVec.ofInt 64 (a : Int) ||| BitVec.ofInt 64 ((b * q : Nat) : Int)).toNat = a + b * q := by
    rw [BitVec.toNat_or, bvN (by omega) (by omega), bvN (by omega) (by omega)]
    simp only [Int.toNat_natCast]
    have := Nat.two_pow_add_eq_or_of_lt (i := k) (b := a) (by omega) b
    rw [hq] at this
    rw [Nat.or_comm, Nat.mul_comm b q, ← this]
    omega
  rw [e1, e]
  show wrap64 _ = _
  rw [w64] <;> omega
theorem or128 {y : Int} (hy0 : 0 ≤ y) (hy : y < 128) : wr .i64 (BitVec.ofInt 64 y ||| BitVec.ofInt 64 128).toNat = y + 128 := by
  have h := orD (k := 7) (x := y) (y := 1) (by decide) hy0 hy (by decide) (by decide)
  rw [show wr .i64 ((1 : Int) * 2 ^ 7) = 128 from w64 (by decide) (by decide)] at h
  rw [h]
  rfl
theorem or128' {y : Int} (hy0 : 0 ≤ y) (hy : y < 128) : wr .i64 (BitVec.ofInt 64 128 ||| BitVec.ofInt 64 y).toNat = y + 128 := by
  rw [BitVec.or_comm]; exact or128 hy0 hy
theorem wr8 {x : Int} (h0 : 0 ≤ x) (h1 : x < 256) : wr .u8 x = x := by
  have : wr .u8 x = x % 256 := rfl
  omega
theorem shr7 (x : Int) : x / 2 ^ min (Int.toNat 7) 64 = x / 128 := rfl
theorem lb_next {o C : List Int} {x : Int} (h : x > 127) (h1 : x ≤ 2000000000) (hC : o ++ leb x.toNat = C) : o ++ [wr .u8 (wr .i64 (BitVec.ofInt 64 128 ||| BitVec.ofInt 64 (wr .i64 (BitVec.ofInt 64 x &&& BitVec.ofInt 64 127).toNat)).toNat)] ++ leb (x / 2 ^ min (Int.toNat 7) 64).toNat = C := by
  rw [shr7, ← hC, lebp (m := x.toNat) (by omega), and127 (by omega) (by omega), or128' (by omega) (by omega), wr8 (by omega) (by omega), List.append_assoc, show (x / 128).toNat = x.toNat / 128 by omega, Int.natCast_add]
  rfl
theorem lb_next' {o C : List Int} {x : Int} (h : x > 127) (h1 : x ≤ 2000000000) (hC : o ++ leb x.toNat = C) : o ++ [wr .u8 (wr .i64 (BitVec.ofInt 64 (wr .i64 (BitVec.ofInt 64 x &&& BitVec.ofInt 64 127).toNat) ||| BitVec.ofInt 64 128).toNat)] ++ leb (x / 2 ^ min (Int.toNat 7) 64).toNat = C := by
  rw [BitVec.or_comm]; exact lb_next h h1 hC
theorem lb_end {o C : List Int} {x : Int} (h : ¬ x > 127) (h0 : 0 ≤ x) (hC : o ++ leb x.toNat = C) : o ++ [wr .u8 x] = C := by
  rw [← hC, lebn (m := x.toNat) (by omega), wr8 h0 (by omega)]
  congr 2
  omega
/-! what is read of them -/
def numOk (n : Int) : Prop := -1000000000 ≤ n ∧ n ≤ 1000000000
theorem numB_ok {n : Int} (h : numOk n) : numB n = leb (zz n).toNat := by unfold numB; rw [clampN_id h.1 h.2]
theorem zz_ok {n : Int} (h : numOk n) : 0 ≤ zz n ∧ zz n ≤ 2000000000 := by have := zz_bd n; rwa [clampN_id h.1 h.2] at this
/-- How far a number is read: x so far, k groups. -/
def gnI (l : List Int) (at0 at_ k x : Int) : Prop := (0 ≤ x ∧ x < 128 ^ k.toNat) ∧ ∀ n r, numOk n → 0 ≤ at0 → l.drop at0.toNat = numB n ++ r → ∃ m : Nat, zz n = x + m * 128 ^ k.toNat ∧ l.drop at_.toNat = leb m ++ r ∧ (k = 0 ∨ 0 < m)
theorem gn_zero {l : List Int} {at0 : Int} : gnI l at0 at0 0 0 := ⟨⟨by omega, by decide⟩, fun n r hn h0 he => ⟨(zz n).toNat, by have := zz_ok hn; simp; omega, by rw [he, numB_ok hn], .inl rfl⟩⟩
theorem wu64 (n : Int) : wr .u64 n = n % 18446744073709551616 := rfl
theorem pow_k0 (k : Int) (m : Nat) (h2 : (7 * k) % 18446744073709551616 = (m : Int)) (h0 : 0 ≤ k) (h1 : k < 5) : min m 64 = 7 * k.toNat := by
  rw [Int.emod_eq_of_lt (by omega) (by omega)] at h2
  have h4 : m = 7 * k.toNat := by omega
  rw [h4]
  exact Nat.min_eq_left (by omega)
theorem pow_k {k : Int} {m : Nat} (h : wr .u64 (wr .i64 (7 * k)) = Int.ofNat m) (h0 : 0 ≤ k) (h1 : k < 5) : min (Int.ofNat m).toNat 64 = 7 * k.toNat := by
  rw [show wr .i64 (7 * k) = 7 * k from w64 (by omega) (by omega)] at h
  exact pow_k0 k m ((wu64 _).symm.trans h) h0 h1
theorem p128 (k : Nat) : (2 : Int) ^ (7 * k) = 128 ^ k := by rw [Int.pow_mul]; rfl
section
variable {l : List Int} {at0 at_ k x c : Int}
/-- the next group, as it is told by the operations on bits -/
theorem gn_or (hx : 0 ≤ x ∧ x < 128 ^ k.toNat) (h0 : 0 ≤ k) (h1 : k < 5) {g : Int} (hg0 : 0 ≤ g) (hg : g < 128) : wr .i64 (BitVec.ofInt 64 x ||| BitVec.ofInt 64 (wr .i64 (g * 2 ^ (7 * k.toNat)))).toNat = x + g * 128 ^ k.toNat := by
  rw [orD (by omega) hx.1 (by rw [p128]; exact hx.2) hg0 hg, p128]
theorem gn_x {g : Int} (hx : 0 ≤ x ∧ x < 128 ^ k.toNat) (h0 : 0 ≤ k) (hg0 : 0 ≤ g) (hg : g < 128) : 0 ≤ x + g * 128 ^ k.toNat ∧ x + g * 128 ^ k.toNat < 128 ^ (k + 1).toNat := by
  rw [show (k + 1).toNat = k.toNat + 1 by omega, Int.pow_succ]
  have hp : (0 : Int) < 128 ^ k.toNat := Int.pow_pos (by decide)
  generalize (128 : Int) ^ k.toNat = q at *
  have h3 : 0 ≤ g * q := Int.mul_nonneg hg0 (by omega)
  have h4 : g * q ≤ 127 * q := Int.mul_le_mul_of_nonneg_right (by omega) (by omega)
  omega
theorem drop_hd {l r : List Int} {n : Nat} {c : Int} (hx : l[n]? = some c) {a : Int} (h : l.drop n = a :: r) : c = a ∧ l.drop (n + 1) = r := by
  obtain ⟨hl, e⟩ := List.getElem?_eq_some_iff.1 hx
  rw [List.drop_eq_getElem_cons hl] at h
  cases h
  exact ⟨e.symm, rfl⟩
theorem gn_k5 (h0 : 0 ≤ k) (h1 : k < 5) : (128 : Int) ^ (k + 1).toNat ≤ 34359738368 := by
  obtain ⟨n, rfl⟩ : ∃ n : Nat, k = n := ⟨k.toNat, by omega⟩
  have : n < 5 := by omega
  rw [show ((n : Int) + 1).toNat = n + 1 by omega]
  match n, this with
  | 0, _ => decide
  | 1, _ => decide
  | 2, _ => decide
  | 3, _ => decide
  | 4, _ => decide
def grp (c : Int) : Int := wr .i64 (BitVec.ofInt 64 c &&& BitVec.ofInt 64 127).toNat
theorem grp_bd (c : Int) : 0 ≤ grp c ∧ grp c < 128 := by
  have e : (BitVec.ofInt 64 c &&& BitVec.ofInt 64 127).toNat < 128 := by
    rw [BitVec.toNat_and]
    exact Nat.lt_of_le_of_lt Nat.and_le_right (by decide)
  have : grp c = ((BitVec.ofInt 64 c &&& BitVec.ofInt 64 127).toNat : Int) := w64 (by omega) (by omega)
  rw [this]
  omega
theorem grp_of {c : Int} (h0 : 0 ≤ c) (h : c < 256) : grp c = c % 128 := by
  unfold grp
  rw [and127 h0 (by omega)]
  omega
def gnEq (n x c k : Int) : Prop := n = x + grp c * 128 ^ k.toNat
theorem gn_val {c n : Int} {m : Nat} (hn : n = wr .i64 (BitVec.ofInt 64 x ||| BitVec.ofInt 64 (wr .i64 (wr .i64 (BitVec.ofInt 64 c &&& BitVec.ofInt 64 127).toNat * 2 ^ min (Int.ofNat m).toNat 64))).toNat) (hm : wr .u64 (wr .i64 (7 * k)) = Int.ofNat m) (hx : 0 ≤ x ∧ x < 128 ^ k.toNat) (h0 : 0 ≤ k) (h1 : k < 5) : gnEq n x c k ∧ 0 ≤ n ∧ n < 34359738368 := by
  rw [pow_k hm h0 h1] at hn
  have e := gn_or hx h0 h1 (grp_bd c).1 (grp_bd c).2
  have e2 : n = x + grp c * 128 ^ k.toNat := hn.trans e
  have := gn_x hx h0 (grp_bd c).1 (grp_bd c).2
  have := gn_k5 h0 h1
  exact ⟨e2, by omega, by omega⟩
/-- A byte as a number: the same where it is one. -/
theorem by_c {x : Int} : 0 ≤ x → x < 256 → wr .i64 x = x := fun h0 h1 => w64 (by omega) (by omega)
theorem grp_hi {c : Int} {m : Nat} (f : c = ((m % 128 + 128 : Nat) : Int)) : wr .i64 c = c ∧ grp (wr .i64 c) = ((m % 128 : Nat) : Int) ∧ c > 127 := by
  have h : wr .i64 c = c := by_c (by omega) (by omega)
  refine ⟨h, ?_, by omega⟩
  rw [h, grp_of (by omega) (by omega)]
  omega
theorem grp_lo {c : Int} {m : Nat} (f : c = (m : Int)) (q : ¬ m > 127) : wr .i64 c = c ∧ grp (wr .i64 c) = c ∧ ¬ c > 127 ∧ 0 ≤ c := by
  have h : wr .i64 c = c := by_c (by omega) (by omega)
  refine ⟨h, ?_, by omega, by omega⟩
  rw [h, grp_of (by omega) (by omega)]
  omega
theorem split128 (m : Nat) (p x : Int) : x + (m : Int) * p = x + ((m % 128 : Nat) : Int) * p + ((m / 128 : Nat) : Int) * (p * 128) := by
  have h : (m : Int) = 128 * ((m / 128 : Nat) : Int) + ((m % 128 : Nat) : Int) := by omega
  rw [show ((m / 128 : Nat) : Int) * (p * 128) = 128 * ((m / 128 : Nat) : Int) * p by rw [Int.mul_comm p, ← Int.mul_assoc, Int.mul_comm _ (128 : Int)]]
  generalize ((m / 128 : Nat) : Int) = u at *
  generalize ((m % 128 : Nat) : Int) = v at *
  rw [h, Int.add_mul]
  generalize 128 * u * p = w
  generalize v * p = t
  omega
theorem toNat_succ {a : Int} (h : 0 ≤ a) : (a + 1).toNat = a.toNat + 1 := by omega
theorem gn_step {c n : Int} (hA : gnI l at0 at_ k x) (hn : gnEq n x (wr .i64 c) k) (ha : 0 ≤ at_) (h0 : 0 ≤ k) (hx : l[at_.toNat]? = some c) (hc : wr .i64 c > 127) : gnI l at0 (at_ + 1) (k + 1) n := by
  unfold gnEq at hn
  subst hn
  refine ⟨gn_x hA.1 h0 (grp_bd _).1 (grp_bd _).2, fun n r hn h0' he => ?_⟩
  obtain ⟨m, e1, e2, e3⟩ := hA.2 n r hn h0' he
  by_cases q : m > 127
  · rw [lebp q, List.cons_append] at e2
    obtain ⟨f1, f2⟩ := drop_hd hx e2
    obtain ⟨_, hg, _⟩ := grp_hi f1
    refine ⟨m / 128, ?_, by rw [toNat_succ ha]; exact f2, .inr (by clear e1 he hA; omega)⟩
    rw [e1, hg, toNat_succ h0, Int.pow_succ]
    exact split128 m _ x
  · rw [lebn q] at e2
    obtain ⟨f1, _⟩ := drop_hd hx e2
    obtain ⟨h1, _, h2, _⟩ := grp_lo f1 q
    rw [h1] at hc
    exact absurd hc h2
theorem gn_last {c n : Int} (hA : gnI l at0 at_ k x) (hn : gnEq n x (wr .i64 c) k) (ha : 0 ≤ at_) (hx : l[at_.toNat]? = some c) (hc : ¬ wr .i64 c > 127) : ∀ z r, numOk z → 0 ≤ at0 → l.drop at0.toNat = numB z ++ r → zz z = n ∧ l.drop (at_ + 1).toNat = r ∧ (k = 0 ∨ wr .i64 c ≠ 0) := fun z r hz h0 he => by
  obtain ⟨m, e1, e2, e3⟩ := hA.2 z r hz h0 he
  by_cases q : m > 127
  · rw [lebp q, List.cons_append] at e2
    obtain ⟨f1, f2⟩ := drop_hd hx e2
    obtain ⟨h1, _, h2⟩ := grp_hi f1
    rw [h1] at hc
    exact absurd h2 hc
  · rw [lebn q] at e2
    obtain ⟨f1, f2⟩ := drop_hd hx e2
    obtain ⟨h1, h2, _, _⟩ := grp_lo f1 q
    refine ⟨by rw [e1, show _ = _ from hn, h2, f1], by rw [toNat_succ ha]; exact f2, ?_⟩
    rcases e3 with h | h
    · exact .inl h
    · rw [h1, f1]; exact .inr (by clear e1 he hA hn; omega)
theorem gn_out {a : Int} (h : ¬ (0 ≤ a ∧ a ≤ (l.length : Int) - 1)) : ∀ n r, numOk n → 0 ≤ a → l.drop a.toNat = numB n ++ r → False := fun n r hn h0 he => by
  rw [List.drop_of_length_le (by omega)] at he
  have := (numB_len n).2
  have := congrArg List.length he
  simp only [List.length_nil, List.length_append] at this
  omega
theorem gn_out2 (hA : gnI l at0 at_ k x) (h0 : 0 ≤ k) (h5 : k ≤ 5) (ha : 0 ≤ at_) (h : ¬ k < 5 ∨ ¬ at_ < (l.length : Int)) : ∀ n r, numOk n → 0 ≤ at0 → l.drop at0.toNat = numB n ++ r → False := fun n r hn h0' he => by
  obtain ⟨m, e1, e2, e3⟩ := hA.2 n r hn h0' he
  have hz := zz_ok hn
  rcases h with h | h
  · have : k = 5 := by omega
    subst this
    have hx := hA.1.1
    have : (128 : Int) ^ (5 : Int).toNat = 34359738368 := by decide
    rw [this] at e1
    omega
  · rw [List.drop_of_length_le (by omega)] at e2
    have := leb_pos m
    have := congrArg List.length e2
    simp only [List.length_nil, List.length_append] at this
    omega
end
theorem zz_fin {n z : Int} (h : zz n = z) : (z % 2 = 1 → n = -((z + 1) / 2)) ∧ (¬ z % 2 = 1 → n = z / 2) := by
  unfold zz at h
  split at h <;> constructor <;> intro <;> omega
theorem tdivn2 {n : Int} (h0 : 0 ≤ n) : Int.tdiv (0 - (n + 1)) 2 = -((n + 1) / 2) := by
  rw [show (0 : Int) - (n + 1) = -(n + 1) by omega, Int.neg_tdiv, Int.tdiv_eq_ediv_of_nonneg (by omega)]
/-! texts, names, orders, blocks -/
theorem strOf_bys (s : ByteArray) : strOf (bys s) = s := by
  have key : ∀ (l : List UInt8) (a : ByteArray), (l.map fun b => (b.toNat : Int)).foldl (fun r n => r.push (UInt8.ofNat n.toNat)) a = ⟨(a.data.toList ++ l).toArray⟩ := by
    intro l
    induction l with
    | nil => intro a; simp
    | cons x l ih =>
      intro a
      rw [List.map_cons, List.foldl_cons, ih]
      have : (a.push (UInt8.ofNat (((x.toNat : Nat) : Int)).toNat)).data.toList = a.data.toList ++ [x] := by
        simp [ByteArray.push]
      rw [this, List.append_assoc]
      rfl
  have := key s.data.toList ByteArray.empty
  unfold strOf bys
  rw [this]
  rcases s with ⟨⟨s⟩⟩
  rfl
def textB (s : ByteArray) : List Int := numB s.size ++ bys s
def namesB (l : List ByteArray) : List Int := numB l.length ++ l.flatMap textB
theorem textB_len (s : ByteArray) : (textB s).length ≤ s.size + 5 := by
  have := (numB_len s.size).1
  simp only [textB, List.length_append, bys_len]
  omega
theorem flat_le {α β : Type} {f : α → List β} {c : Nat} : ∀ {l : List α}, (∀ x, x ∈ l → (f x).length ≤ c) → (l.flatMap f).length ≤ c * l.length
  | [], _ => by simp
  | x :: l, h => by
    have h1 := h x List.mem_cons_self
    have h2 := flat_le (l := l) (f := f) (c := c) fun y hy => h y (List.mem_cons_of_mem _ hy)
    simp only [List.flatMap_cons, List.length_append, List.length_cons, Nat.mul_add, Nat.mul_one]
    omega
theorem fm_next {α β : Type} {f : α → List β} {l : List α} {o q : List β} {i : Int} {x : α} (h0 : 0 ≤ i) (hx : l[i.toNat]? = some x) (h : q = o ++ (l.take i.toNat).flatMap f) : q ++ f x = o ++ (l.take (i + 1).toNat).flatMap f := by
  rw [h, List.append_assoc, show (i + 1).toNat = i.toNat + 1 by omega, List.take_add_one, hx, List.flatMap_append]
  simp
theorem fm_end {α β : Type} {f : α → List β} {l : List α} {o q : List β} {i : Int} (h1 : ¬ i < (l.length : Int)) (h : q = o ++ (l.take i.toNat).flatMap f) : q = o ++ l.flatMap f := by
  rw [h, List.take_of_length_le (by omega)]

def encTx (t : S26) : List Int := numB t.f0 ++ (textB t.f1 ++ (textB t.f2 ++ (numB t.f3 ++ numB t.f4)))
def encV (v : S107) : List Int := textB v.f0 ++ numB v.f1
def bit (b : Bool) : Int := if b = true then 1 else 0
def preB1 (x : S49) : List Int := (((((((numB x.f0 ++ numB x.f1) ++ numB x.f2) ++ textB x.f3) ++ numB x.f4.f0) ++ numB x.f4.f1) ++ namesB x.f4.f2) ++ numB x.f5.f0) ++ namesB x.f5.f1
def preB2 (x : S49) : List Int := (preB1 x ++ x.f5.f2.flatMap numB) ++ numB x.f6.length
def preB3 (x : S49) : List Int := ((preB2 x ++ x.f6.flatMap encTx) ++ numB (bit x.f7)) ++ numB x.f8.length
def encB (x : S49) : List Int := (preB3 x ++ x.f8.flatMap encV) ++ textB x.f9
noncomputable def putB (x : S49) : List Int := if blockOk x = true then encB x else []
theorem namesB_len {l : List ByteArray} (h : SmN l) : (namesB l).length ≤ 5 + 2000005 * l.length := by
  have h1 := flat_le (f := textB) (l := l) (c := 2000005) fun x hx => by have := textB_len x; have : x.size ≤ 2000000 := h.2 x hx; omega
  have h2 := (numB_len l.length).1
  simp only [namesB, List.length_append]
  omega
theorem encTx_len {t : S26} (h : Sm26 t) : (encTx t).length ≤ 4000025 := by
  have h1 := (numB_len t.f0).1
  have h2 := (numB_len t.f3).1
  have h3 := (numB_len t.f4).1
  have h4 := textB_len t.f1
  have h5 := textB_len t.f2
  have h6 : t.f1.size ≤ 2000000 := h.1
  have h7 : t.f2.size ≤ 2000000 := h.2
  simp only [encTx, List.length_append]
  omega
/-! reading -/
def gnR (l : List Int) (a r0 r1 : Int) (r2 : Bool) : Prop := ∀ n r, numOk n → 0 ≤ a → l.drop a.toNat = numB n ++ r → r2 = true ∧ r0 = n ∧ l.drop r1.toNat = r
theorem gnR_no {l : List Int} {a r0 r1 : Int} {r2 : Bool} (h : ∀ n r, numOk n → 0 ≤ a → l.drop a.toNat = numB n ++ r → False) : gnR l a r0 r1 r2 := fun n r hn h0 he => (h n r hn h0 he).elim
theorem gnR_yes {l : List Int} {a v z c k at_ : Int} (h : ∀ n r, numOk n → 0 ≤ a → l.drop a.toNat = numB n ++ r → zz n = z ∧ l.drop (at_ + 1).toNat = r ∧ (k = 0 ∨ wr .i64 c ≠ 0)) (hv : (z % 2 = 1 → v = -((z + 1) / 2)) ∧ (¬ z % 2 = 1 → v = z / 2)) : gnR l a v (at_ + 1) true := fun n r hn h0 he => by
  obtain ⟨h1, h2, _⟩ := h n r hn h0 he
  have := zz_fin h1
  refine ⟨rfl, ?_, h2⟩
  by_cases q : z % 2 = 1
  · rw [hv.1 q, this.1 q]
  · rw [hv.2 q, this.2 q]
theorem gnR_bad {l : List Int} {a v z c k at_ r0 r1 : Int} {r2 : Bool} (h : ∀ n r, numOk n → 0 ≤ a → l.drop a.toNat = numB n ++ r → zz n = z ∧ l.drop (at_ + 1).toNat = r ∧ (k = 0 ∨ wr .i64 c ≠ 0)) (hv : (z % 2 = 1 → v = -((z + 1) / 2)) ∧ (¬ z % 2 = 1 → v = z / 2)) (hb : (wr .i64 c = 0 ∧ ¬ k = 0) ∨ ¬ (-1000000000 ≤ v ∧ v ≤ 1000000000)) : gnR l a r0 r1 r2 := fun n r hn h0 he => by
  obtain ⟨h1, h2, h3⟩ := h n r hn h0 he
  have := zz_fin h1
  exfalso
  rcases hb with hb | hb
  · rcases h3 with h3 | h3
    · exact hb.2 h3
    · exact h3 hb.1
  · unfold numOk at hn
    by_cases q : z % 2 = 1
    · rw [hv.1 q, ← this.1 q] at hb; exact hb hn
    · rw [hv.2 q, ← this.2 q] at hb; exact hb hn
/-! texts and names, read -/
def gtR (l : List Int) (a : Int) (s0 : ByteArray) (r1 : Int) (r2 : Bool) : Prop := ∀ s r, s.size ≤ 1000000000 → 0 ≤ a → l.drop a.toNat = textB s ++ r → r2 = true ∧ s0 = s ∧ l.drop r1.toNat = r
section
variable {l : List Int} {a n nx : Int} {ok : Bool}
theorem gtR_bad {s0 : ByteArray} {r1 : Int} {r2 : Bool} (hg : gnR l a n nx ok) (hnx : ok = true → 0 ≤ a ∧ a < nx ∧ nx ≤ l.length) (h : ok = false ∨ n < 0 ∨ n > (l.length : Int) - nx) : gtR l a s0 r1 r2 := fun s r hs h0 he => by
  obtain ⟨h1, h2, h3⟩ := hg s.size (bys s ++ r) ⟨by omega, by omega⟩ h0 (by rw [he, textB, List.append_assoc])
  have hx := hnx h1
  have hl := congrArg List.length h3
  simp only [List.length_drop, List.length_append, bys_len] at hl
  exfalso
  rcases h with h | h | h
  · rw [h1] at h; cases h
  · omega
  · omega
theorem gtR_yes (hg : gnR l a n nx ok) (hnx : 0 ≤ nx) (hn : 0 ≤ n) : gtR l a (strOf ((l.drop (Int.toNat nx)).take (Int.toNat (nx + n) - Int.toNat nx))) (nx + n) true := fun s r hs h0 he => by
  obtain ⟨h1, h2, h3⟩ := hg s.size (bys s ++ r) ⟨by omega, by omega⟩ h0 (by rw [he, textB, List.append_assoc])
  refine ⟨rfl, ?_, ?_⟩
  · rw [h3, show Int.toNat (nx + n) - Int.toNat nx = (bys s).length by rw [bys_len]; omega, List.take_left, strOf_bys]
  · rw [show (nx + n).toNat = nx.toNat + (bys s).length by rw [bys_len]; omega, ← List.drop_drop, h3, List.drop_left]
end
def nmOk (m : List ByteArray) : Prop := m.length ≤ 100 ∧ ∀ s, s ∈ m → s.size ≤ 1000000000
def gsR (l : List Int) (a : Int) (q : List ByteArray) (r1 : Int) (r2 : Bool) : Prop := ∀ m r, nmOk m → 0 ≤ a → l.drop a.toNat = namesB m ++ r → r2 = true ∧ q = m ∧ l.drop r1.toNat = r
def gsI (l : List Int) (a n nx i : Int) (q : List ByteArray) : Prop := ∀ m r, nmOk m → 0 ≤ a → l.drop a.toNat = namesB m ++ r → n = m.length ∧ q = m.take i.toNat ∧ l.drop nx.toNat = (m.drop i.toNat).flatMap textB ++ r
theorem flat_step {α β : Type} {f : α → List β} {l : List α} {i : Int} (h0 : 0 ≤ i) (hi : i < (l.length : Int)) : ∃ x, l[i.toNat]? = some x ∧ (l.drop i.toNat).flatMap f = f x ++ (l.drop (i + 1).toNat).flatMap f := by
  have hl : i.toNat < l.length := by omega
  refine ⟨l[i.toNat], List.getElem?_eq_getElem hl, ?_⟩
  rw [List.drop_eq_getElem_cons hl, List.flatMap_cons, show (i + 1).toNat = i.toNat + 1 by omega]
section
variable {l : List Int} {a n nx i : Int} {ok : Bool} {q : List ByteArray}
theorem gs_bad {q : List ByteArray} {r1 : Int} {r2 : Bool} (hg : gnR l a n nx ok) (h : ok = false ∨ ¬ (0 ≤ n ∧ n ≤ 100)) : gsR l a q r1 r2 := fun m r hm h0 he => by
  have hm1 := hm.1
  obtain ⟨h1, h2, h3⟩ := hg m.length (m.flatMap textB ++ r) ⟨by omega, by omega⟩ h0 (by rw [he, namesB, List.append_assoc])
  exfalso
  rcases h with h | h
  · rw [h1] at h; cases h
  · omega
theorem gs_zero (hg : gnR l a n nx ok) : gsI l a n nx 0 [] := fun m r hm h0 he => by
  have hm1 := hm.1
  obtain ⟨h1, h2, h3⟩ := hg m.length (m.flatMap textB ++ r) ⟨by omega, by omega⟩ h0 (by rw [he, namesB, List.append_assoc])
  exact ⟨h2, by simp, by simpa using h3⟩
theorem gs_step {s : ByteArray} {nx' : Int} (hI : gsI l a n nx i q) (h0 : 0 ≤ i) (hi : i < n) (hn : 0 ≤ nx) (ht : gtR l nx s nx' ok) : gsI l a n nx' (i + 1) (q ++ [s]) := fun m r hm ha he => by
  obtain ⟨h1, h2, h3⟩ := hI m r hm ha he
  obtain ⟨x, e1, e2⟩ := flat_step (f := textB) (l := m) h0 (by omega)
  rw [e2, List.append_assoc] at h3
  obtain ⟨_, g1, g2⟩ := ht x _ (hm.2 x (List.mem_of_getElem? e1)) hn h3
  refine ⟨h1, ?_, g2⟩
  rw [h2, g1, show (i + 1).toNat = i.toNat + 1 by omega, List.take_add_one, e1]
  rfl
theorem gs_bad2 {s : ByteArray} {nx' r1 : Int} {q' : List ByteArray} {r2 : Bool} (hI : gsI l a n nx i q) (h0 : 0 ≤ i) (hi : i < n) (hn : 0 ≤ nx) (ht : gtR l nx s nx' ok) (hok : ok = false) : gsR l a q' r1 r2 := fun m r hm ha he => by
  obtain ⟨h1, h2, h3⟩ := hI m r hm ha he
  obtain ⟨x, e1, e2⟩ := flat_step (f := textB) (l := m) h0 (by omega)
  rw [e2, List.append_assoc] at h3
  obtain ⟨g0, _⟩ := ht x _ (hm.2 x (List.mem_of_getElem? e1)) hn h3
  rw [hok] at g0
  cases g0
theorem gs_end (hI : gsI l a n nx i q) (h0 : 0 ≤ i) (hi : ¬ i < n) : gsR l a q nx true := fun m r hm ha he => by
  obtain ⟨h1, h2, h3⟩ := hI m r hm ha he
  refine ⟨rfl, ?_, ?_⟩
  · rw [h2, List.take_of_length_le (by omega)]
  · rw [h3, List.drop_of_length_le (by omega)]
    rfl
end
/-! a reader: where it stands, and what stands there -/
def RS (bs : List Int) (i : Int) (h : Bool) (r : List Int) : Prop := h = false ∧ bs.drop i.toNat = r
section
variable {bs : List Int} {i0 n nx : Int} {h0 ok : Bool}
theorem rd_num0 {i1 r0 : Int} {h1 : Bool} (hg : gnR bs i0 n nx ok) (hi : 0 ≤ i0) (h : h0 = true ∨ ok = false) : ∀ n r, numOk n → RS bs i0 h0 (numB n ++ r) → RS bs i1 h1 r ∧ r0 = n := fun m r hm hR => by
  obtain ⟨g1, _⟩ := hg m r hm hi hR.2
  have := hR.1
  rcases h with h | h
  · rw [this] at h; cases h
  · rw [g1] at h; cases h
theorem rd_num1 (hg : gnR bs i0 n nx ok) (hi : 0 ≤ i0) : ∀ m r, numOk m → RS bs i0 h0 (numB m ++ r) → RS bs nx h0 r ∧ n = m := fun m r hm hR => by
  obtain ⟨_, g2, g3⟩ := hg m r hm hi hR.2
  exact ⟨⟨hR.1, g3⟩, g2⟩
theorem rd_txt0 {s r0 : ByteArray} {i1 : Int} {h1 : Bool} (hg : gtR bs i0 s nx ok) (hi : 0 ≤ i0) (h : h0 = true ∨ ok = false) : ∀ z r, z.size ≤ 1000000000 → RS bs i0 h0 (textB z ++ r) → RS bs i1 h1 r ∧ r0 = z := fun m r hm hR => by
  obtain ⟨g1, _⟩ := hg m r hm hi hR.2
  have := hR.1
  rcases h with h | h
  · rw [this] at h; cases h
  · rw [g1] at h; cases h
theorem rd_txt1 {s : ByteArray} (hg : gtR bs i0 s nx ok) (hi : 0 ≤ i0) : ∀ z r, z.size ≤ 1000000000 → RS bs i0 h0 (textB z ++ r) → RS bs nx h0 r ∧ s = z := fun m r hm hR => by
  obtain ⟨_, g2, g3⟩ := hg m r hm hi hR.2
  exact ⟨⟨hR.1, g3⟩, g2⟩
theorem rd_nms0 {q r0 : List ByteArray} {i1 : Int} {h1 : Bool} (hg : gsR bs i0 q nx ok) (hi : 0 ≤ i0) (h : h0 = true ∨ ok = false) : ∀ z r, nmOk z → RS bs i0 h0 (namesB z ++ r) → RS bs i1 h1 r ∧ r0 = z := fun m r hm hR => by
  obtain ⟨g1, _⟩ := hg m r hm hi hR.2
  have := hR.1
  rcases h with h | h
  · rw [this] at h; cases h
  · rw [g1] at h; cases h
theorem rd_nms1 {q : List ByteArray} (hg : gsR bs i0 q nx ok) (hi : 0 ≤ i0) : ∀ z r, nmOk z → RS bs i0 h0 (namesB z ++ r) → RS bs nx h0 r ∧ q = z := fun m r hm hR => by
  obtain ⟨_, g2, g3⟩ := hg m r hm hi hR.2
  exact ⟨⟨hR.1, g3⟩, g2⟩
end
/-- One behind the other, read into a list. -/
theorem rd_next {α β : Type} {f : α → List Int} {OK : α → Prop} {P : β → Prop} {G : β → List α} {T : β → List Int} {bs : List Int} {i i' k : Int} {h h' : Bool} {q : List α} {v : α} (W : ∀ X, P X → RS bs i h (((G X).drop k.toNat).flatMap f ++ T X) ∧ q = (G X).take k.toNat) (hn : ∀ n r, OK n → RS bs i h (f n ++ r) → RS bs i' h' r ∧ v = n) (h0 : 0 ≤ k) (hlen : ∀ X, P X → k < ((G X).length : Int)) (hok : ∀ X, P X → ∀ x, x ∈ G X → OK x) :
    ∀ X, P X → RS bs i' h' (((G X).drop (k + 1).toNat).flatMap f ++ T X) ∧ q ++ [v] = (G X).take (k + 1).toNat := fun X hX => by
  obtain ⟨w1, w2⟩ := W X hX
  obtain ⟨x, e1, e2⟩ := flat_step (f := f) h0 (hlen X hX)
  rw [e2, List.append_assoc] at w1
  obtain ⟨g1, g2⟩ := hn x _ (hok X hX x (List.mem_of_getElem? e1)) w1
  refine ⟨g1, ?_⟩
  rw [w2, g2, show (k + 1).toNat = k.toNat + 1 by omega, List.take_add_one, e1]
  rfl
theorem rd_end {α β : Type} {f : α → List Int} {P : β → Prop} {G : β → List α} {T : β → List Int} {bs : List Int} {i k : Int} {h : Bool} {q : List α} (W : ∀ X, P X → RS bs i h (((G X).drop k.toNat).flatMap f ++ T X) ∧ q = (G X).take k.toNat) (hlen : ∀ X, P X → ¬ k < ((G X).length : Int)) : ∀ X, P X → RS bs i h (T X) ∧ q = G X := fun X hX => by
  obtain ⟨w1, w2⟩ := W X hX
  have := hlen X hX
  rw [List.drop_of_length_le (by omega)] at w1
  exact ⟨w1, by rw [w2, List.take_of_length_le (by omega)]⟩
theorem rd_zero {α β : Type} {f : α → List Int} {P : β → Prop} {G : β → List α} {T : β → List Int} {bs : List Int} {i : Int} {h : Bool} (W : ∀ X, P X → RS bs i h ((G X).flatMap f ++ T X)) : ∀ X, P X → RS bs i h (((G X).drop (0 : Int).toNat).flatMap f ++ T X) ∧ [] = (G X).take (0 : Int).toNat := fun X hX => ⟨W X hX, by simp⟩
/-! a block, read -/
def tl9 (x : S49) : List Int := textB x.f9
def tl8 (x : S49) : List Int := numB x.f8.length ++ (x.f8.flatMap encV ++ tl9 x)
def tl7 (x : S49) : List Int := numB (bit x.f7) ++ tl8 x
def tl6 (x : S49) : List Int := numB x.f6.length ++ (x.f6.flatMap encTx ++ tl7 x)
def tl5 (x : S49) : List Int := x.f5.f2.flatMap numB ++ tl6 x
def tl4 (x : S49) : List Int := namesB x.f5.f1 ++ tl5 x
def tl3 (x : S49) : List Int := numB x.f5.f0 ++ tl4 x
def tl2 (x : S49) : List Int := namesB x.f4.f2 ++ tl3 x
def tl1 (x : S49) : List Int := numB x.f4.f0 ++ (numB x.f4.f1 ++ tl2 x)
theorem encB_tl (x : S49) : encB x = numB x.f0 ++ (numB x.f1 ++ (numB x.f2 ++ (textB x.f3 ++ tl1 x))) := by
  simp only [encB, preB1, preB2, preB3, tl1, tl2, tl3, tl4, tl5, tl6, tl7, tl8, tl9, List.append_assoc]
theorem nameOk_sz {s : ByteArray} (h : nameOk s = true) : s.size ≤ 8 := by
  simp only [nameOk, decide_eq_true_eq] at h
  have := h.2.2
  omega
theorem namesOk_sz {l : List ByteArray} (h : namesOk l = true) : l.length ≤ 20 ∧ ∀ s, s ∈ l → s.size ≤ 8 := by
  simp only [namesOk, decide_eq_true_eq] at h
  refine ⟨by have := h.2; omega, fun s hs => ?_⟩
  obtain ⟨j, hj⟩ := List.mem_iff_getElem?.1 hs
  have := (List.getElem?_eq_some_iff.1 hj).1
  exact nameOk_sz (h.1 j s (by omega) (by omega) (by simpa using hj)).1
theorem setOk_sz {l : List S107} (h : setOk l = true) : l.length ≤ 12 ∧ ∀ v, v ∈ l → v.f0.size ≤ 8 ∧ 1 ≤ v.f1 ∧ v.f1 ≤ 1000000 := by
  simp only [setOk, decide_eq_true_eq] at h
  refine ⟨by have := h.2.2; omega, fun s hs => ?_⟩
  obtain ⟨j, hj⟩ := List.mem_iff_getElem?.1 hs
  have := (List.getElem?_eq_some_iff.1 hj).1
  have := h.1 j s (by omega) (by omega) (by simpa using hj)
  exact ⟨nameOk_sz this.1, this.2.1⟩
theorem empty_sz {s : ByteArray} (h : s.toList = (⟨#[]⟩ : ByteArray).toList) : s.size = 0 := by
  rw [tl_inj.1 h]; rfl
def txSm (t : S26) : Prop := 1 ≤ t.f0 ∧ t.f0 ≤ 3 ∧ t.f1.size ≤ 8 ∧ t.f2.size ≤ 8 ∧ 1 ≤ t.f3 ∧ t.f3 ≤ 1000000 ∧ 0 ≤ t.f4 ∧ t.f4 ≤ 10000
theorem txOk_sm {t : S26} (h : txOk t = true) : txSm t := by
  simp only [txOk, Bool.and_eq_true, inR_iff] at h
  obtain ⟨h0, h1, h3, h4, h2⟩ := h
  refine ⟨h0.1, h0.2, nameOk_sz h1, ?_, h3.1, h3.2, h4.1, h4.2⟩
  split at h2
  · exact nameOk_sz h2
  · have := empty_sz (beq_iff_eq.1 h2)
    omega
/-- how small all is in a block that is right -/
structure BK (x : S49) : Prop where
  n0 : 0 ≤ x.f0 ∧ x.f0 ≤ 100000
  n1 : 0 ≤ x.f1 ∧ x.f1 ≤ 900
  n2 : 1 ≤ x.f2 ∧ x.f2 ≤ 10000
  by_ : x.f3.size ≤ 8
  q0 : -1 ≤ x.f4.f0 ∧ x.f4.f0 ≤ 10000
  q1 : -1 ≤ x.f4.f1 ∧ x.f4.f1 ≤ 100000
  q2 : x.f4.f2.length ≤ 20 ∧ ∀ s, s ∈ x.f4.f2 → s.size ≤ 8
  t0 : 0 ≤ x.f5.f0 ∧ x.f5.f0 ≤ 10000
  t1 : x.f5.f1.length ≤ 20 ∧ ∀ s, s ∈ x.f5.f1 → s.size ≤ 8
  t2 : x.f5.f2.length = x.f5.f1.length ∧ ∀ h, h ∈ x.f5.f2 → 0 ≤ h ∧ h ≤ 10000
  tx : x.f6.length ≤ 4 ∧ ∀ t, t ∈ x.f6 → txOk t = true
  nx : x.f8.length ≤ 12 ∧ ∀ v, v ∈ x.f8 → v.f0.size ≤ 8 ∧ 1 ≤ v.f1 ∧ v.f1 ≤ 1000000
  rt : x.f9.size ≤ 32
theorem bk_of {x : S49} (h : blockOk x = true) : BK x := by
  simp only [blockOk, Bool.and_eq_true, inR_iff, qcForm, tcForm, Bool.or_eq_true, decide_eq_true_eq, beq_iff_eq, List.all_eq_true] at h
  obtain ⟨h0, h1, h2, h3, hq, ht, h6, h6', h7⟩ := h
  have e1 : wr .i64 (x.f2 - 1) = x.f2 - 1 := w64 (by omega) (by omega)
  have e2 : wr .i64 (x.f0 - 1) = x.f0 - 1 := w64 (by omega) (by omega)
  rw [e1] at hq ht
  rw [e2] at hq
  have hq' : (-1 ≤ x.f4.f0 ∧ x.f4.f0 ≤ 10000) ∧ (-1 ≤ x.f4.f1 ∧ x.f4.f1 ≤ 100000) ∧ x.f4.f2.length ≤ 20 ∧ ∀ s, s ∈ x.f4.f2 → s.size ≤ 8 := by
    rcases hq with hq | ⟨hq1, hq2, hq3⟩
    · simp only [rootQ, Bool.and_eq_true, beq_iff_eq] at hq
      have hn : x.f4.f2 = [] := List.eq_nil_of_length_eq_zero (by omega)
      exact ⟨by omega, by omega, by omega, by rw [hn]; exact fun s hs => by cases hs⟩
    · have := namesOk_sz hq3
      exact ⟨by omega, by omega, this⟩
  have ht' : (0 ≤ x.f5.f0 ∧ x.f5.f0 ≤ 10000) ∧ (x.f5.f1.length ≤ 20 ∧ ∀ s, s ∈ x.f5.f1 → s.size ≤ 8) ∧ x.f5.f2.length = x.f5.f1.length ∧ ∀ h, h ∈ x.f5.f2 → 0 ≤ h ∧ h ≤ 10000 := by
    rcases ht with ht | ⟨ht1, ht2, ht3, ht4⟩
    · simp only [noneT, Bool.and_eq_true, beq_iff_eq] at ht
      have hn : x.f5.f1 = [] := List.eq_nil_of_length_eq_zero (by omega)
      have hn2 : x.f5.f2 = [] := List.eq_nil_of_length_eq_zero (by omega)
      exact ⟨by omega, ⟨by omega, by rw [hn]; exact fun s hs => by cases hs⟩, by omega, by rw [hn2]; exact fun s hs => by cases hs⟩
    · refine ⟨by omega, namesOk_sz ht2, by omega, fun z hz => ?_⟩
      have e3 : wr .i64 (x.f5.f0 - 1) = x.f5.f0 - 1 := w64 (by omega) (by omega)
      have := ht4 z hz
      rw [e3] at this
      omega
  have h89 : (x.f8.length ≤ 12 ∧ ∀ v, v ∈ x.f8 → v.f0.size ≤ 8 ∧ 1 ≤ v.f1 ∧ v.f1 ≤ 1000000) ∧ x.f9.size ≤ 32 := by
    split at h7
    · simp only [Bool.and_eq_true, beq_iff_eq] at h7
      exact ⟨setOk_sz h7.1, by omega⟩
    · simp only [Bool.and_eq_true, beq_iff_eq] at h7
      have hn : x.f8 = [] := List.eq_nil_of_length_eq_zero (by omega)
      have := empty_sz h7.2
      exact ⟨⟨by omega, by rw [hn]; exact fun s hs => by cases hs⟩, by omega⟩
  exact ⟨h0, h1, h2, nameOk_sz h3, hq'.1, hq'.2.1, hq'.2.2, ht'.1, ht'.2.1, ht'.2.2, ⟨by omega, h6'⟩, h89.1, h89.2⟩
def WB (bs : List Int) (i : Int) (h : Bool) (x : S49) : Prop := blockOk x = true ∧ RS bs i h (encB x)
theorem wb0 {bs : List Int} {i : Int} {h : Bool} : ∀ x, WB bs i h x → RS bs i h (numB x.f0 ++ (numB x.f1 ++ (numB x.f2 ++ (textB x.f3 ++ tl1 x)))) := fun x hx => by rw [← encB_tl]; exact hx.2
theorem WB.bk {bs : List Int} {i : Int} {h : Bool} {x : S49} (hx : WB bs i h x) : BK x := bk_of hx.1
theorem wnum {n : Int} {a b : Int} (h : a ≤ n ∧ n ≤ b) (h1 : -1000000000 ≤ a) (h2 : b ≤ 1000000000) : numOk n := ⟨by omega, by omega⟩
theorem wlen {n : Nat} (h : n ≤ 1000000000) : numOk n := ⟨by omega, by omega⟩
theorem wnms {l : List ByteArray} (h : l.length ≤ 20 ∧ ∀ s, s ∈ l → s.size ≤ 8) : nmOk l := ⟨by have := h.1; omega, fun s hs => by have := h.2 s hs; omega⟩
theorem wbit {b : Bool} : numOk (bit b) := by cases b <;> exact ⟨by decide, by decide⟩
theorem bit_eq {b : Bool} {n : Int} (h : n = bit b) : (n == 1) = b := by subst h; cases b <;> rfl
theorem mkB_eq {X : S49} {a0 a1 a2 : Int} {a3 : ByteArray} {b0 b1 : Int} {b2 : List ByteArray} {c0 : Int} {c1 : List ByteArray} {c2 : List Int} {a6 : List S26} {a7 : Bool} {a8 : List S107} {a9 : ByteArray}
    (h0 : a0 = X.f0) (h1 : a1 = X.f1) (h2 : a2 = X.f2) (h3 : a3 = X.f3) (q0 : b0 = X.f4.f0) (q1 : b1 = X.f4.f1) (q2 : b2 = X.f4.f2) (t0 : c0 = X.f5.f0) (t1 : c1 = X.f5.f1) (t2 : c2 = X.f5.f2) (h6 : a6 = X.f6) (h7 : a7 = X.f7) (h8 : a8 = X.f8) (h9 : a9 = X.f9) : (⟨a0, a1, a2, a3, ⟨b0, b1, b2⟩, ⟨c0, c1, c2⟩, a6, a7, a8, a9⟩ : S49) = X := by
  subst h0 h1 h2 h3 q0 q1 q2 t0 t1 t2 h6 h7 h8 h9
  rfl
section
variable {t : S26} (h : txOk t = true)
include h
theorem tx_n0 : numOk t.f0 := by obtain ⟨a, b, _⟩ := txOk_sm h; exact ⟨by omega, by omega⟩
theorem tx_s1 : t.f1.size ≤ 1000000000 := by obtain ⟨_, _, a, _⟩ := txOk_sm h; omega
theorem tx_s2 : t.f2.size ≤ 1000000000 := by obtain ⟨_, _, _, a, _⟩ := txOk_sm h; omega
theorem tx_n3 : numOk t.f3 := by obtain ⟨_, _, _, _, a, b, _⟩ := txOk_sm h; exact ⟨by omega, by omega⟩
theorem tx_n4 : numOk t.f4 := by obtain ⟨_, _, _, _, _, _, a, b⟩ := txOk_sm h; exact ⟨by omega, by omega⟩
end
theorem tx_r {t : S26} {r bs : List Int} {i : Int} {h : Bool} (hR : RS bs i h (encTx t ++ r)) : RS bs i h (numB t.f0 ++ (textB t.f1 ++ (textB t.f2 ++ (numB t.f3 ++ (numB t.f4 ++ r))))) := by
  simpa only [encTx, List.append_assoc] using hR
theorem tx_eq {t : S26} {a0 a3 a4 : Int} {a1 a2 : ByteArray} (h0 : a0 = t.f0) (h1 : a1 = t.f1) (h2 : a2 = t.f2) (h3 : a3 = t.f3) (h4 : a4 = t.f4) : (⟨a0, a1, a2, a3, a4⟩ : S26) = t := by subst h0 h1 h2 h3 h4; rfl
theorem encV_r {v : S107} {r bs : List Int} {i : Int} {h : Bool} (hR : RS bs i h (encV v ++ r)) : RS bs i h (textB v.f0 ++ (numB v.f1 ++ r)) := by
  simpa only [encV, List.append_assoc] using hR
theorem rd_v {bs : List Int} {i i' i'' : Int} {h h' h'' : Bool} {a : ByteArray} {b : Int} (ht : ∀ n r, n.size ≤ 1000000000 → RS bs i h (textB n ++ r) → RS bs i' h' r ∧ a = n) (hn : ∀ n r, numOk n → RS bs i' h' (numB n ++ r) → RS bs i'' h'' r ∧ b = n) : ∀ (v : S107) r, (v.f0.size ≤ 8 ∧ 1 ≤ v.f1 ∧ v.f1 ≤ 1000000) → RS bs i h (encV v ++ r) → RS bs i'' h'' r ∧ (⟨a, b⟩ : S107) = v := fun v r hv hR => by
  obtain ⟨g1, rfl⟩ := ht v.f0 _ (by omega) (encV_r hR)
  obtain ⟨g2, rfl⟩ := hn v.f1 _ ⟨by omega, by omega⟩ g1
  exact ⟨g2, rfl⟩
theorem wcnt {n : Nat} {m : Int} (h : (n : Int) ≤ m) (hm : m ≤ 1000) : 0 ≤ (n : Int) ∧ (n : Int) ≤ m ∧ (n : Int) ≤ 1000000000 := by omega
/-! bytes as texts -/
def u8s (l : List Int) : Prop := ∀ n, n ∈ l → 0 ≤ n ∧ n < 256
theorem bys_strOf {l : List Int} (h : u8s l) : bys (strOf l) = l := by
  have key : ∀ (l : List Int) (a : ByteArray), u8s l → bys (l.foldl (fun r n => r.push (UInt8.ofNat n.toNat)) a) = bys a ++ l := by
    intro l
    induction l with
    | nil => intro a _; simp
    | cons x l ih =>
      intro a h
      have hx := h x List.mem_cons_self
      rw [List.foldl_cons, ih _ fun n hn => h n (List.mem_cons_of_mem _ hn)]
      have : bys (a.push (UInt8.ofNat x.toNat)) = bys a ++ [x] := by
        simp only [bys, ByteArray.push, Array.toList_push, List.map_append, List.map_cons, List.map_nil]
        congr 2
        rw [UInt8.toNat_ofNat']
        omega
      rw [this, List.append_assoc]
      rfl
  have := key l ByteArray.empty h
  unfold strOf
  rw [this]
  rfl
theorem strOf_inj {a b : List Int} (ha : u8s a) (hb : u8s b) (h : (strOf a).toList = (strOf b).toList) : a = b := by
  rw [← bys_strOf ha, ← bys_strOf hb, tl_inj.1 h]
theorem u8_app {a b : List Int} (ha : u8s a) (hb : u8s b) : u8s (a ++ b) := all_app ha hb
theorem u8_leb : ∀ m : Nat, u8s (leb m)
  | m => by
    by_cases q : m > 127
    · rw [lebp q]
      intro n hn
      rcases List.mem_cons.1 hn with rfl | hn
      · omega
      · exact u8_leb (m / 128) n hn
    · rw [lebn q]
      intro n hn
      rw [List.mem_singleton.1 hn]
      omega
termination_by m => m
decreasing_by omega
theorem u8_num (n : Int) : u8s (numB n) := u8_leb _
theorem u8_bys (s : ByteArray) : u8s (bys s) := fun n hn => by
  obtain ⟨b, _, rfl⟩ := List.mem_map.1 hn
  have := b.toNat_lt
  omega
theorem u8_text (s : ByteArray) : u8s (textB s) := u8_app (u8_num _) (u8_bys _)
theorem u8_flat {α : Type} {f : α → List Int} {l : List α} (h : ∀ x, u8s (f x)) : u8s (l.flatMap f) := fun n hn => by
  obtain ⟨x, _, hx⟩ := List.mem_flatMap.1 hn
  exact h x n hx
theorem u8_names (l : List ByteArray) : u8s (namesB l) := u8_app (u8_num _) (u8_flat u8_text)
theorem u8_tx (t : S26) : u8s (encTx t) := u8_app (u8_num _) (u8_app (u8_text _) (u8_app (u8_text _) (u8_app (u8_num _) (u8_num _))))
theorem u8_v (v : S107) : u8s (encV v) := u8_app (u8_text _) (u8_num _)
theorem u8_blk (x : S49) : u8s (encB x) := by
  unfold encB preB3 preB2 preB1
  exact u8_app (u8_app (u8_app (u8_app (u8_app (u8_app (u8_app (u8_app (u8_app (u8_app (u8_app (u8_app (u8_app (u8_app (u8_app (u8_num _) (u8_num _)) (u8_num _)) (u8_text _)) (u8_num _)) (u8_num _)) (u8_names _)) (u8_num _)) (u8_names _)) (u8_flat u8_num)) (u8_num _)) (u8_flat u8_tx)) (u8_num _)) (u8_num _)) (u8_flat u8_v)) (u8_text _)
/-- What the bytes of a block come to, read. -/
def gbR (l : List Int) (x : S49) (ok : Bool) : Prop := (ok = true → blockOk x = true ∧ encB x = l) ∧ ∀ X, blockOk X = true → encB X = l → ok = true ∧ x = X
theorem wb_of {l : List Int} {X : S49} (h : blockOk X = true) (he : encB X = l) : WB l 0 false X := ⟨h, rfl, by rw [he]; rfl⟩
theorem z_sm : Sm49 z49 := ⟨by show (0 : Nat) ≤ 2000000; omega, ⟨by show (0 : Nat) ≤ 2000000; omega, all_nil⟩, ⟨⟨by show (0 : Nat) ≤ 2000000; omega, all_nil⟩, by show (0 : Nat) ≤ 2000000; omega⟩, ⟨by show (0 : Nat) ≤ 2000000; omega, all_nil⟩, ⟨by show (0 : Nat) ≤ 2000000; omega, all_nil⟩, by show (0 : Nat) ≤ 2000000; omega⟩
theorem gb_bad {l : List Int} {x y : S49} {bad : Bool} (hl : u8s l) (hX : ∀ X, WB l 0 false X → bad = false ∧ x = X) (h : bad = true ∨ blockOk x = false ∨ (strOf (encB x)).toList ≠ (strOf l).toList) : gbR l y false := ⟨fun h => (by cases h), fun X h1 h2 => by
  obtain ⟨g1, g2⟩ := hX X (wb_of h1 h2)
  exfalso
  rcases h with h | h | h
  · rw [g1] at h; cases h
  · rw [g2, h1] at h; cases h
  · rw [g2, h2] at h; exact h rfl⟩
theorem gb_yes {l : List Int} {x : S49} {bad : Bool} (hl : u8s l) (hX : ∀ X, WB l 0 false X → bad = false ∧ x = X) (h1 : blockOk x = true) (h2 : (strOf (encB x)).toList = (strOf l).toList) : gbR l x true := ⟨fun _ => ⟨h1, strOf_inj (u8_blk x) hl h2⟩, fun X h3 h4 => ⟨rfl, (hX X (wb_of h3 h4)).2⟩⟩
theorem putB_ok {x : S49} (h : blockOk x = true) : putB x = encB x := by unfold putB; rw [if_pos h]
theorem putB_no {x : S49} (h : blockOk x = false) : putB x = [] := by unfold putB; rw [if_neg (by simp [h])]
theorem i_putNum (b : List Int) (n : Int) (hb : b.length ≤ 100000000000000) : ∃ r0 : List Int, (r0 = b ++ numB n) ∧ Fn Try.prog 125 [rV 0, iV n] (lookH [(0, some (.row 1 5 (b.map dB) false true))]) (rV 64) (lookH [(64, some (.row 1 5 (r0.map dB) false true))]) := by
 have key : ∃ x' h', ((fun x' h' => ∃ r0 : List Int, (r0 = b ++ numB n) ∧ x' = rV 64 ∧ h' = [(64, some (.row 1 5 (r0.map dB) false true))])) x' h' ∧ Fn Try.prog 125 [rV 0, iV n] (lookH [(0, some (.row 1 5 (b.map dB) false true))]) x' (lookH h') := by
  refine Fn.bodyX (N := 32) hτ Try.func125 rfl rfl rfl rfl ?_
  refine X.weak (Wk.mk' [(64, 0)] (s' := ⟨[(0, rV 64), (1, iV n)], [(64, some (.row 1 5 (b.map dB) false true))], 80⟩) (by kernel_rfl) (by kernel_rfl) (by kernel_rfl)) ?_
  refine X.seq ?_
  refine X.rk ⟨[(0, rV 64), (1, iV n)], [(64, some (.row 1 5 (b.map dB) false true))], 96⟩ hτ hmix (by kernel_rfl) (by kernel_rfl) rfl ?_
  refine X.seq ?_
  refine X.rs 1 hτ hmix (by kernel_rfl) ?_
  refine CH.mm (mx := false) (k := .i64) (a := n) (b := 1000000000) (tu := (3, 3)) (by kernel_rfl) (by kernel_rfl) (by kernel_rfl) ?_
  refine CH.mm (mx := true) (k := .i64) (a := (-1000000000)) (b := (mmx false n 1000000000)) (tu := (3, 3)) (by kernel_rfl) (by kernel_rfl) (by kernel_rfl) ?_
  refine CH.go 1 hτ (by kernel_rfl) ?_
  refine CH.endk ⟨[(0, rV 64), (1, iV (mmx true (-1000000000) (mmx false n 1000000000)))], [(64, some (.row 1 5 (b.map dB) false true))], 160⟩ (by kernel_rfl) (by kernel_rfl) rfl ?_
  refine X.gen (fun n1 : Int => ⟨[(0, rV 64), (1, iV n1)], [(64, some (.row 1 5 (b.map dB) false true))], 160⟩) ((mmx true (-1000000000) (mmx false n 1000000000))) (fun n1 hn1 => ?_)
  have hcz : clampN n = n1 := hn1.symm
  have hcl := clampN_bd n
  rw [hcz] at hcl
  refine X.seq ?_
  refine X.rk ⟨[(0, rV 64), (1, iV n1), (5, iV (wrap64 (2 * n1)))], [(64, some (.row 1 5 (b.map dB) false true))], 208⟩ hτ hmix (by kernel_rfl) (by kernel_rfl) (s2 := ⟨[(0, rV 64), (1, iV n1), (5, iV (2 * n1))], [(64, some (.row 1 5 (b.map dB) false true))], 208⟩) (congrArg (fun z : Int => (⟨[(0, rV 64), (1, iV n1), (5, iV z)], [(64, some (.row 1 5 (b.map dB) false true))], 208⟩ : St)) (show wrap64 (2 * n1) = (2 * n1) by rw [w64 (n := (2 * n1)) (by omega) (by omega)])) ?_
  -- join: v5 : Int
  refine X.seqJ (σ := { g : Int // (fun (v5 : Int) => v5 = zz (clampN n) ∧ True) g }) (fun g => (fun (v5 : Int) => ⟨[(0, rV 64), (5, iV v5)], [(64, some (.row 1 5 (b.map dB) false true))], 304⟩) g.1) ?_ (fun g => ?_)
  ·refine X.seq ?_
   refine X.rk ⟨[(0, rV 64), (1, iV n1), (5, iV (2 * n1)), (12, bV (decide ((n1 : Int) < 0)))], [(64, some (.row 1 5 (b.map dB) false true))], 240⟩ hτ hmix (by kernel_rfl) (by kernel_rfl) rfl ?_
   refine X.if_ (b := decide ((n1 : Int) < 0)) (by kernel_rfl) (fun hb3 => ?_) (fun hb3 => ?_)
   ·replace hb3 := of_decide_eq_true (hb3)
    refine X.rk ⟨[(0, rV 64), (5, iV (wrap64 ((wrap64 ((-2) * n1)) - 1)))], [(64, some (.row 1 5 (b.map dB) false true))], 304⟩ hτ hmix (by kernel_rfl) (by kernel_rfl) (s2 := ⟨[(0, rV 64), (5, iV ((((-2) * n1)) - 1))], [(64, some (.row 1 5 (b.map dB) false true))], 304⟩) (congrArg (fun z : Int => (⟨[(0, rV 64), (5, iV z)], [(64, some (.row 1 5 (b.map dB) false true))], 304⟩ : St)) (show wrap64 ((wrap64 ((-2) * n1)) - 1) = ((((-2) * n1)) - 1) by rw [w64 (n := ((-2) * n1)) (by omega) (by omega), w64 (n := ((((-2) * n1)) - 1)) (by omega) (by omega)])) ?_
    refine ⟨⟨((((-2) * n1)) - 1), ⟨by rw [hcz]; unfold zz; first | rw [if_pos ‹_›] | rw [if_neg ‹_›], trivial⟩⟩, Wk.mk' [(64, 64)] (by kernel_rfl) (by kernel_rfl) (by kernel_rfl)⟩
   ·replace hb3 := of_decide_eq_false (hb3)
    refine X.skip ?_
    refine ⟨⟨(2 * n1), ⟨by rw [hcz]; unfold zz; first | rw [if_pos ‹_›] | rw [if_neg ‹_›], trivial⟩⟩, Wk.mk' [(64, 64)] (by kernel_rfl) (by kernel_rfl) (by kernel_rfl)⟩
  ·obtain ⟨v5, hg2⟩ := g
   have hg2 : v5 = zz (clampN n) ∧ True := hg2
   obtain ⟨hJ, _⟩ := hg2
   refine X.seq ?_
   refine X.block ?_
   -- 5: Lv0 : List Int, v5 : Int
   refine X.loop (σ := { g : (List Int) × Int // (fun (Lv0 : List Int) (v5 : Int) => 0 ≤ v5 ∧ v5 ≤ 2000000000 ∧ Lv0.length + v5 ≤ b.length + 2000000000 ∧ Lv0 ++ leb v5.toNat = b ++ numB n) g.1 g.2 }) (fun g => (fun (Lv0 : List Int) (v5 : Int) => ⟨[(0, rV 64), (5, iV v5)], [(64, some (.row 1 5 (Lv0.map dB) false true))], 304⟩) g.1.1 g.1.2) (fun g => (fun (Lv0 : List Int) (v5 : Int) => v5.toNat) g.1.1 g.1.2) ⟨(b, v5), ⟨by have := zz_bd n; omega, by have := zz_bd n; omega, by have := zz_bd n; first | omega | (simp; omega), by rw [hJ]; rfl⟩⟩ (Wk.less (by kernel_rfl)) (fun g => ?_)
   obtain ⟨⟨Lv0, v5⟩, hg5⟩ := g
   have hg5 : 0 ≤ v5 ∧ v5 ≤ 2000000000 ∧ Lv0.length + v5 ≤ b.length + 2000000000 ∧ Lv0 ++ leb v5.toNat = b ++ numB n := hg5
   obtain ⟨_, _, _, hC⟩ := hg5
   refine X.seq ?_
   refine X.seq ?_
   refine X.rk ⟨[(0, rV 64), (5, iV v5), (17, bV (decide ((v5 : Int) > 127)))], [(64, some (.row 1 5 (Lv0.map dB) false true))], 336⟩ hτ hmix (by kernel_rfl) (by kernel_rfl) rfl ?_
   refine X.if_ (b := decide ((v5 : Int) > 127)) (by kernel_rfl) (fun hb6 => ?_) (fun hb6 => ?_)
   ·replace hb6 := of_decide_eq_true (hb6)
    refine X.skip ?_
    refine X.block ?_
    refine X.seq ?_
    have fa7 := and_le v5 127 7 rfl (by decide)
    refine X.rs 6 hτ hmix (by kernel_rfl) ?_
    have el8 : (Lv0.map dB).length = Lv0.length := List.length_map ..
    have el9 : (([wr .u8 (wr .i64 ((BitVec.ofInt 64 128 ||| BitVec.ofInt 64 (wr .i64 ((BitVec.ofInt 64 v5 &&& BitVec.ofInt 64 127).toNat))).toNat))] : List Int).map dB).length = ([wr .u8 (wr .i64 ((BitVec.ofInt 64 128 ||| BitVec.ofInt 64 (wr .i64 ((BitVec.ofInt 64 v5 &&& BitVec.ofInt 64 127).toNat))).toNat))] : List Int).length := List.length_map ..
    have el10 : ([wr .u8 (wr .i64 ((BitVec.ofInt 64 128 ||| BitVec.ofInt 64 (wr .i64 ((BitVec.ofInt 64 v5 &&& BitVec.ofInt 64 127).toNat))).toNat))] : List Int).length = 1 := rfl
    refine CH.app hτ (rows := (Lv0.map dB)) (rows2 := (([wr .u8 (wr .i64 ((BitVec.ofInt 64 128 ||| BitVec.ofInt 64 (wr .i64 ((BitVec.ofInt 64 v5 &&& BitVec.ofInt 64 127).toNat))).toNat))] : List Int).map dB)) (sz := 1) (bys := 1) true (by kernel_rfl) (by kernel_rfl) (fun _ => flat_d dB (fun x => rfl)) (flat_ok (f := dB) (fun x => rfl)) (by simp only [List.length_map] <;> (first | done | omega | (simp; done) | (simp; omega))) (by kernel_rfl) ?_
    refine CH.go 1 hτ (by kernel_rfl) ?_
    refine CH.endk ⟨[(0, rV 432), (5, iV v5)], [(432, some (.row 1 5 ((Lv0.map dB) ++ (([wr .u8 (wr .i64 ((BitVec.ofInt 64 128 ||| BitVec.ofInt 64 (wr .i64 ((BitVec.ofInt 64 v5 &&& BitVec.ofInt 64 127).toNat))).toNat))] : List Int).map dB)) false true))], 464⟩ (by kernel_rfl) (by kernel_rfl) (s2 := ⟨[(0, rV 432), (5, iV v5)], [(432, some (.row 1 5 ((Lv0 ++ ([wr .u8 (wr .i64 ((BitVec.ofInt 64 128 ||| BitVec.ofInt 64 (wr .i64 ((BitVec.ofInt 64 v5 &&& BitVec.ofInt 64 127).toNat))).toNat))] : List Int)).map dB) false true))], 464⟩) (congrArg (fun z : List (List D) => (⟨[(0, rV 432), (5, iV v5)], [(432, some (.row 1 5 z false true))], 464⟩ : St)) (show (Lv0.map dB) ++ (([wr .u8 (wr .i64 ((BitVec.ofInt 64 128 ||| BitVec.ofInt 64 (wr .i64 ((BitVec.ofInt 64 v5 &&& BitVec.ofInt 64 127).toNat))).toNat))] : List Int).map dB) = ((Lv0 ++ ([wr .u8 (wr .i64 ((BitVec.ofInt 64 128 ||| BitVec.ofInt 64 (wr .i64 ((BitVec.ofInt 64 v5 &&& BitVec.ofInt 64 127).toNat))).toNat))] : List Int)).map dB) from List.map_append.symm)) ?_
    refine X.rk ⟨[(0, rV 432), (5, iV (v5 / 2 ^ min (Int.toNat 7) 64))], [(432, some (.row 1 5 ((Lv0 ++ ([wr .u8 (wr .i64 ((BitVec.ofInt 64 128 ||| BitVec.ofInt 64 (wr .i64 ((BitVec.ofInt 64 v5 &&& BitVec.ofInt 64 127).toNat))).toNat))] : List Int)).map dB) false true))], 512⟩ hτ hmix (by kernel_rfl) (by kernel_rfl) rfl ?_
    have hsh := shr7 v5
    refine ⟨⟨((Lv0 ++ ([wr .u8 (wr .i64 ((BitVec.ofInt 64 128 ||| BitVec.ofInt 64 (wr .i64 ((BitVec.ofInt 64 v5 &&& BitVec.ofInt 64 127).toNat))).toNat))] : List Int)), v5 / 2 ^ min (Int.toNat 7) 64), ⟨by first | omega | (dsimp only; omega), by first | omega | (dsimp only; omega), by simp only [List.length_append, List.length_cons, List.length_nil]; (first | omega | (dsimp only; omega)), lb_next ‹_› (by first | omega | (dsimp only; omega)) hC⟩⟩, by first | exact rfl | omega | (dsimp only; omega) | (simp only [List.length_append, List.length_cons, List.length_nil, List.length_set]; omega) | (simp; done) | (simp; omega), Wk.mk' [(64, 432)] (by kernel_rfl) (by kernel_rfl) (by kernel_rfl)⟩
   ·replace hb6 := of_decide_eq_false (hb6)
    refine X.exit ?_
    refine X.seq ?_
    refine X.rs 4 hτ hmix (by kernel_rfl) ?_
    have el11 : (Lv0.map dB).length = Lv0.length := List.length_map ..
    have el12 : (([wr .u8 (v5)] : List Int).map dB).length = ([wr .u8 (v5)] : List Int).length := List.length_map ..
    have el13 : ([wr .u8 (v5)] : List Int).length = 1 := rfl
    refine CH.app hτ (rows := (Lv0.map dB)) (rows2 := (([wr .u8 (v5)] : List Int).map dB)) (sz := 1) (bys := 1) true (by kernel_rfl) (by kernel_rfl) (fun _ => flat_d dB (fun x => rfl)) (flat_ok (f := dB) (fun x => rfl)) (by simp only [List.length_map] <;> (first | done | omega | (simp; done) | (simp; omega))) (by kernel_rfl) ?_
    refine CH.go 1 hτ (by kernel_rfl) ?_
    refine CH.endk ⟨[(4, rV 400)], [(400, some (.row 1 5 ((Lv0.map dB) ++ (([wr .u8 (v5)] : List Int).map dB)) false true))], 432⟩ (by kernel_rfl) (by kernel_rfl) (s2 := ⟨[(4, rV 400)], [(400, some (.row 1 5 ((Lv0 ++ ([wr .u8 (v5)] : List Int)).map dB) false true))], 432⟩) (congrArg (fun z : List (List D) => (⟨[(4, rV 400)], [(400, some (.row 1 5 z false true))], 432⟩ : St)) (show (Lv0.map dB) ++ (([wr .u8 (v5)] : List Int).map dB) = ((Lv0 ++ ([wr .u8 (v5)] : List Int)).map dB) from List.map_append.symm)) ?_
    refine X.ret ?_
    exact ⟨trivial, _, _, ⟨(Lv0 ++ ([wr .u8 (v5)] : List Int)), (lb_end ‹_› (by omega) hC), rfl, rfl⟩, .inl (Ret.mk' [(64, 400)] (by kernel_rfl) (by kernel_rfl) (by kernel_rfl))⟩
 obtain ⟨_, _, ⟨r0, h1_, rfl, rfl⟩, hf⟩ := key
 exact ⟨r0, h1_, hf⟩

theorem i_putNumN (n : Int) : ∃ r0 : List Int, (r0 = numB n) ∧ Fn Try.prog 125 [.e (.c .nil), iV n] (lookH []) (rV 64) (lookH [(64, some (.row 1 5 (r0.map dB) false true))]) := by
 have key : ∃ x' h', ((fun x' h' => ∃ r0 : List Int, (r0 = numB n) ∧ x' = rV 64 ∧ h' = [(64, some (.row 1 5 (r0.map dB) false true))])) x' h' ∧ Fn Try.prog 125 [.e (.c .nil), iV n] (lookH []) x' (lookH h') := by
  refine Fn.bodyX (N := 32) hτ Try.func125 rfl rfl rfl rfl ?_
  refine X.seq ?_
  refine X.rk ⟨[(0, .e (.c (.nil))), (1, iV n)], [], 80⟩ hτ hmix (by kernel_rfl) (by kernel_rfl) rfl ?_
  refine X.seq ?_
  refine X.rs 1 hτ hmix (by kernel_rfl) ?_
  refine CH.mm (mx := false) (k := .i64) (a := n) (b := 1000000000) (tu := (3, 3)) (by kernel_rfl) (by kernel_rfl) (by kernel_rfl) ?_
  refine CH.mm (mx := true) (k := .i64) (a := (-1000000000)) (b := (mmx false n 1000000000)) (tu := (3, 3)) (by kernel_rfl) (by kernel_rfl) (by kernel_rfl) ?_
  refine CH.go 1 hτ (by kernel_rfl) ?_
  refine CH.endk ⟨[(0, .e (.c (.nil))), (1, iV (mmx true (-1000000000) (mmx false n 1000000000)))], [], 144⟩ (by kernel_rfl) (by kernel_rfl) rfl ?_
  refine X.gen (fun n1 : Int => ⟨[(0, .e (.c (.nil))), (1, iV n1)], [], 144⟩) ((mmx true (-1000000000) (mmx false n 1000000000))) (fun n1 hn1 => ?_)
  have hcz : clampN n = n1 := hn1.symm
  have hcl := clampN_bd n
  rw [hcz] at hcl
  refine X.seq ?_
  refine X.rk ⟨[(0, .e (.c (.nil))), (1, iV n1), (5, iV (wrap64 (2 * n1)))], [], 192⟩ hτ hmix (by kernel_rfl) (by kernel_rfl) (s2 := ⟨[(0, .e (.c (.nil))), (1, iV n1), (5, iV (2 * n1))], [], 192⟩) (congrArg (fun z : Int => (⟨[(0, .e (.c (.nil))), (1, iV n1), (5, iV z)], [], 192⟩ : St)) (show wrap64 (2 * n1) = (2 * n1) by rw [w64 (n := (2 * n1)) (by omega) (by omega)])) ?_
  -- join: v5 : Int
  refine X.seqJ (σ := { g : Int // (fun (v5 : Int) => v5 = zz (clampN n) ∧ True) g }) (fun g => (fun (v5 : Int) => ⟨[(0, .e (.c (.nil))), (5, iV v5)], [], 288⟩) g.1) ?_ (fun g => ?_)
  ·refine X.seq ?_
   refine X.rk ⟨[(0, .e (.c (.nil))), (1, iV n1), (5, iV (2 * n1)), (12, bV (decide ((n1 : Int) < 0)))], [], 224⟩ hτ hmix (by kernel_rfl) (by kernel_rfl) rfl ?_
   refine X.if_ (b := decide ((n1 : Int) < 0)) (by kernel_rfl) (fun hb3 => ?_) (fun hb3 => ?_)
   ·replace hb3 := of_decide_eq_true (hb3)
    refine X.rk ⟨[(0, .e (.c (.nil))), (5, iV (wrap64 ((wrap64 ((-2) * n1)) - 1)))], [], 288⟩ hτ hmix (by kernel_rfl) (by kernel_rfl) (s2 := ⟨[(0, .e (.c (.nil))), (5, iV ((((-2) * n1)) - 1))], [], 288⟩) (congrArg (fun z : Int => (⟨[(0, .e (.c (.nil))), (5, iV z)], [], 288⟩ : St)) (show wrap64 ((wrap64 ((-2) * n1)) - 1) = ((((-2) * n1)) - 1) by rw [w64 (n := ((-2) * n1)) (by omega) (by omega), w64 (n := ((((-2) * n1)) - 1)) (by omega) (by omega)])) ?_
    refine ⟨⟨((((-2) * n1)) - 1), ⟨by rw [hcz]; unfold zz; first | rw [if_pos ‹_›] | rw [if_neg ‹_›], trivial⟩⟩, Wk.mk' [] (by kernel_rfl) (by kernel_rfl) (by kernel_rfl)⟩
   ·replace hb3 := of_decide_eq_false (hb3)
    refine X.skip ?_
    refine ⟨⟨(2 * n1), ⟨by rw [hcz]; unfold zz; first | rw [if_pos ‹_›] | rw [if_neg ‹_›], trivial⟩⟩, Wk.mk' [] (by kernel_rfl) (by kernel_rfl) (by kernel_rfl)⟩
  ·obtain ⟨v5, hg2⟩ := g
   have hg2 : v5 = zz (clampN n) ∧ True := hg2
   obtain ⟨hJ, _⟩ := hg2
   refine X.seq ?_
   refine X.block ?_
   refine X.weak (Wk.ownT 0 1 5 (by kernel_rfl) (by kernel_rfl) (by kernel_rfl)) ?_
   -- 5: Lv0 : List Int, v5 : Int
   refine X.loop (σ := { g : (List Int) × Int // (fun (Lv0 : List Int) (v5 : Int) => 0 ≤ v5 ∧ v5 ≤ 2000000000 ∧ Lv0.length + v5 ≤ 2000000000 ∧ Lv0 ++ leb v5.toNat = numB n) g.1 g.2 }) (fun g => (fun (Lv0 : List Int) (v5 : Int) => ⟨[(0, rV 288), (5, iV v5)], [(288, some (.row 1 5 (Lv0.map dB) false true))], 304⟩) g.1.1 g.1.2) (fun g => (fun (Lv0 : List Int) (v5 : Int) => v5.toNat) g.1.1 g.1.2) ⟨([], v5), ⟨by have := zz_bd n; omega, by have := zz_bd n; omega, by have := zz_bd n; first | omega | (simp; omega), by rw [hJ]; rfl⟩⟩ (Wk.less (by kernel_rfl)) (fun g => ?_)
   obtain ⟨⟨Lv0, v5⟩, hg5⟩ := g
   have hg5 : 0 ≤ v5 ∧ v5 ≤ 2000000000 ∧ Lv0.length + v5 ≤ 2000000000 ∧ Lv0 ++ leb v5.toNat = numB n := hg5
   obtain ⟨_, _, _, hC⟩ := hg5
   refine X.seq ?_
   refine X.seq ?_
   refine X.rk ⟨[(0, rV 288), (5, iV v5), (17, bV (decide ((v5 : Int) > 127)))], [(288, some (.row 1 5 (Lv0.map dB) false true))], 336⟩ hτ hmix (by kernel_rfl) (by kernel_rfl) rfl ?_
   refine X.if_ (b := decide ((v5 : Int) > 127)) (by kernel_rfl) (fun hb6 => ?_) (fun hb6 => ?_)
   ·replace hb6 := of_decide_eq_true (hb6)
    refine X.skip ?_
    refine X.block ?_
    refine X.seq ?_
    have fa7 := and_le v5 127 7 rfl (by decide)
    refine X.rs 6 hτ hmix (by kernel_rfl) ?_
    have el8 : (Lv0.map dB).length = Lv0.length := List.length_map ..
    have el9 : (([wr .u8 (wr .i64 ((BitVec.ofInt 64 128 ||| BitVec.ofInt 64 (wr .i64 ((BitVec.ofInt 64 v5 &&& BitVec.ofInt 64 127).toNat))).toNat))] : List Int).map dB).length = ([wr .u8 (wr .i64 ((BitVec.ofInt 64 128 ||| BitVec.ofInt 64 (wr .i64 ((BitVec.ofInt 64 v5 &&& BitVec.ofInt 64 127).toNat))).toNat))] : List Int).length := List.length_map ..
    have el10 : ([wr .u8 (wr .i64 ((BitVec.ofInt 64 128 ||| BitVec.ofInt 64 (wr .i64 ((BitVec.ofInt 64 v5 &&& BitVec.ofInt 64 127).toNat))).toNat))] : List Int).length = 1 := rfl
    refine CH.app hτ (rows := (Lv0.map dB)) (rows2 := (([wr .u8 (wr .i64 ((BitVec.ofInt 64 128 ||| BitVec.ofInt 64 (wr .i64 ((BitVec.ofInt 64 v5 &&& BitVec.ofInt 64 127).toNat))).toNat))] : List Int).map dB)) (sz := 1) (bys := 1) true (by kernel_rfl) (by kernel_rfl) (fun _ => flat_d dB (fun x => rfl)) (flat_ok (f := dB) (fun x => rfl)) (by simp only [List.length_map] <;> (first | done | omega | (simp; done) | (simp; omega))) (by kernel_rfl) ?_
    refine CH.go 1 hτ (by kernel_rfl) ?_
    refine CH.endk ⟨[(0, rV 432), (5, iV v5)], [(432, some (.row 1 5 ((Lv0.map dB) ++ (([wr .u8 (wr .i64 ((BitVec.ofInt 64 128 ||| BitVec.ofInt 64 (wr .i64 ((BitVec.ofInt 64 v5 &&& BitVec.ofInt 64 127).toNat))).toNat))] : List Int).map dB)) false true))], 464⟩ (by kernel_rfl) (by kernel_rfl) (s2 := ⟨[(0, rV 432), (5, iV v5)], [(432, some (.row 1 5 ((Lv0 ++ ([wr .u8 (wr .i64 ((BitVec.ofInt 64 128 ||| BitVec.ofInt 64 (wr .i64 ((BitVec.ofInt 64 v5 &&& BitVec.ofInt 64 127).toNat))).toNat))] : List Int)).map dB) false true))], 464⟩) (congrArg (fun z : List (List D) => (⟨[(0, rV 432), (5, iV v5)], [(432, some (.row 1 5 z false true))], 464⟩ : St)) (show (Lv0.map dB) ++ (([wr .u8 (wr .i64 ((BitVec.ofInt 64 128 ||| BitVec.ofInt 64 (wr .i64 ((BitVec.ofInt 64 v5 &&& BitVec.ofInt 64 127).toNat))).toNat))] : List Int).map dB) = ((Lv0 ++ ([wr .u8 (wr .i64 ((BitVec.ofInt 64 128 ||| BitVec.ofInt 64 (wr .i64 ((BitVec.ofInt 64 v5 &&& BitVec.ofInt 64 127).toNat))).toNat))] : List Int)).map dB) from List.map_append.symm)) ?_
    refine X.rk ⟨[(0, rV 432), (5, iV (v5 / 2 ^ min (Int.toNat 7) 64))], [(432, some (.row 1 5 ((Lv0 ++ ([wr .u8 (wr .i64 ((BitVec.ofInt 64 128 ||| BitVec.ofInt 64 (wr .i64 ((BitVec.ofInt 64 v5 &&& BitVec.ofInt 64 127).toNat))).toNat))] : List Int)).map dB) false true))], 512⟩ hτ hmix (by kernel_rfl) (by kernel_rfl) rfl ?_
    have hsh := shr7 v5
    refine ⟨⟨((Lv0 ++ ([wr .u8 (wr .i64 ((BitVec.ofInt 64 128 ||| BitVec.ofInt 64 (wr .i64 ((BitVec.ofInt 64 v5 &&& BitVec.ofInt 64 127).toNat))).toNat))] : List Int)), v5 / 2 ^ min (Int.toNat 7) 64), ⟨by first | omega | (dsimp only; omega), by first | omega | (dsimp only; omega), by simp only [List.length_append, List.length_cons, List.length_nil]; (first | omega | (dsimp only; omega)), lb_next ‹_› (by first | omega | (dsimp only; omega)) hC⟩⟩, by first | exact rfl | omega | (dsimp only; omega) | (simp only [List.length_append, List.length_cons, List.length_nil, List.length_set]; omega) | (simp; done) | (simp; omega), Wk.mk' [(288, 432)] (by kernel_rfl) (by kernel_rfl) (by kernel_rfl)⟩
   ·replace hb6 := of_decide_eq_false (hb6)
    refine X.exit ?_
    refine X.seq ?_
    refine X.rs 4 hτ hmix (by kernel_rfl) ?_
    have el11 : (Lv0.map dB).length = Lv0.length := List.length_map ..
    have el12 : (([wr .u8 (v5)] : List Int).map dB).length = ([wr .u8 (v5)] : List Int).length := List.length_map ..
    have el13 : ([wr .u8 (v5)] : List Int).length = 1 := rfl
    refine CH.app hτ (rows := (Lv0.map dB)) (rows2 := (([wr .u8 (v5)] : List Int).map dB)) (sz := 1) (bys := 1) true (by kernel_rfl) (by kernel_rfl) (fun _ => flat_d dB (fun x => rfl)) (flat_ok (f := dB) (fun x => rfl)) (by simp only [List.length_map] <;> (first | done | omega | (simp; done) | (simp; omega))) (by kernel_rfl) ?_
    refine CH.go 1 hτ (by kernel_rfl) ?_
    refine CH.endk ⟨[(4, rV 400)], [(400, some (.row 1 5 ((Lv0.map dB) ++ (([wr .u8 (v5)] : List Int).map dB)) false true))], 432⟩ (by kernel_rfl) (by kernel_rfl) (s2 := ⟨[(4, rV 400)], [(400, some (.row 1 5 ((Lv0 ++ ([wr .u8 (v5)] : List Int)).map dB) false true))], 432⟩) (congrArg (fun z : List (List D) => (⟨[(4, rV 400)], [(400, some (.row 1 5 z false true))], 432⟩ : St)) (show (Lv0.map dB) ++ (([wr .u8 (v5)] : List Int).map dB) = ((Lv0 ++ ([wr .u8 (v5)] : List Int)).map dB) from List.map_append.symm)) ?_
    refine X.ret ?_
    exact ⟨trivial, _, _, ⟨(Lv0 ++ ([wr .u8 (v5)] : List Int)), (lb_end ‹_› (by omega) hC), rfl, rfl⟩, .inl (Ret.mk' [(64, 400)] (by kernel_rfl) (by kernel_rfl) (by kernel_rfl))⟩
 obtain ⟨_, _, ⟨r0, h1_, rfl, rfl⟩, hf⟩ := key
 exact ⟨r0, h1_, hf⟩

theorem i_putText (b : List Int) (s : ByteArray) (hb : b.length ≤ 90000000000000) (hs : SmS s) : ∃ r0 : List Int, (r0 = b ++ textB s) ∧ Fn Try.prog 126 [rV 0, .e (.c (.d (.v (.string s))))] (lookH [(0, some (.row 1 5 (b.map dB) false true))]) (rV 64) (lookH [(64, some (.row 1 5 (r0.map dB) false true))]) := by
 have key : ∃ x' h', ((fun x' h' => ∃ r0 : List Int, (r0 = b ++ textB s) ∧ x' = rV 64 ∧ h' = [(64, some (.row 1 5 (r0.map dB) false true))])) x' h' ∧ Fn Try.prog 126 [rV 0, .e (.c (.d (.v (.string s))))] (lookH [(0, some (.row 1 5 (b.map dB) false true))]) x' (lookH h') := by
  refine Fn.bodyX (N := 11) hτ Try.func126 rfl rfl rfl rfl ?_
  refine X.weak (Wk.mk' [(64, 0)] (s' := ⟨[(0, rV 64), (1, .e (.c (.d (.v (.string s)))))], [(64, some (.row 1 5 (b.map dB) false true))], 80⟩) (by kernel_rfl) (by kernel_rfl) (by kernel_rfl)) ?_
  refine X.seq ?_
  refine X.rk ⟨[(0, rV 64), (1, .e (.c (.d (.v (.string s)))))], [(64, some (.row 1 5 (b.map dB) false true))], 96⟩ hτ hmix (by kernel_rfl) (by kernel_rfl) rfl ?_
  refine X.seq ?_
  have hm : s.size ≤ 2000000 := hs
  refine X.rs 3 hτ hmix (by kernel_rfl) ?_
  obtain ⟨r1, hr3, hf2⟩ := i_putNum b (s.size : Int) (by first | omega | (simp only [List.length_append]; omega))
  replace hr3 := hr3.symm; subst hr3
  have hnb := (numB_len (s.size : Int)).1
  refine CH.call hf2 Try.func125 ⟨rfl, rfl⟩ [(64, 0)] (by kernel_rfl) (by kernel_rfl) (by kernel_rfl) (by kernel_rfl) ?_
  refine CH.go 1 hτ (by kernel_rfl) ?_
  have el5 : ((b ++ numB (s.size : Int)).map dB).length = (b ++ numB (s.size : Int)).length := List.length_map ..
  have el6 : (b ++ numB (s.size : Int)).length = b.length + (numB (s.size : Int)).length := List.length_append
  have el7 := bys_len s
  refine CH.aps hτ (rows := ((b ++ numB (s.size : Int)).map dB)) (y := s) (el := 5) (by kernel_rfl) (by kernel_rfl) (by first | omega | (simp only [List.length_map, List.length_append]; omega) | (simp; omega)) (by kernel_rfl) (by kernel_rfl) ?_
  refine CH.go 1 hτ (by kernel_rfl) ?_
  refine CH.endk ⟨[(4, rV 176)], [(176, some (.row 1 5 (((b ++ numB (s.size : Int)).map dB) ++ (bys s).map dB) false true))], 208⟩ (by kernel_rfl) (by kernel_rfl) (s2 := ⟨[(4, rV 176)], [(176, some (.row 1 5 (((b ++ numB (s.size : Int)) ++ (bys s)).map dB) false true))], 208⟩) (congrArg (fun z : List (List D) => (⟨[(4, rV 176)], [(176, some (.row 1 5 z false true))], 208⟩ : St)) (show ((b ++ numB (s.size : Int)).map dB) ++ (bys s).map dB = (((b ++ numB (s.size : Int)) ++ (bys s)).map dB) from List.map_append.symm)) ?_
  refine X.ret ?_
  exact ⟨trivial, _, _, ⟨((b ++ numB (s.size : Int)) ++ (bys s)), (by rw [List.append_assoc]; rfl), rfl, rfl⟩, .inl (Ret.mk' [(64, 176)] (by kernel_rfl) (by kernel_rfl) (by kernel_rfl))⟩
 obtain ⟨_, _, ⟨r0, h1_, rfl, rfl⟩, hf⟩ := key
 exact ⟨r0, h1_, hf⟩

theorem i_putNames (b : List Int) (l : List ByteArray) (hb : b.length ≤ 50000000000000) (hl : SmN l) : ∃ r0 : List Int, (r0 = b ++ namesB l) ∧ Fn Try.prog 127 [rV 0, lV (l.map dS)] (lookH [(0, some (.row 1 5 (b.map dB) false true))]) (rV 64) (lookH [(64, some (.row 1 5 (r0.map dB) false true))]) := by
 have key : ∃ x' h', ((fun x' h' => ∃ r0 : List Int, (r0 = b ++ namesB l) ∧ x' = rV 64 ∧ h' = [(64, some (.row 1 5 (r0.map dB) false true))])) x' h' ∧ Fn Try.prog 127 [rV 0, lV (l.map dS)] (lookH [(0, some (.row 1 5 (b.map dB) false true))]) x' (lookH h') := by
  refine Fn.bodyX (N := 22) hτ Try.func127 rfl rfl rfl rfl ?_
  refine X.weak (Wk.mk' [(64, 0)] (s' := ⟨[(0, rV 64), (1, lV (l.map dS))], [(64, some (.row 1 5 (b.map dB) false true))], 80⟩) (by kernel_rfl) (by kernel_rfl) (by kernel_rfl)) ?_
  refine X.seq ?_
  refine X.rk ⟨[(0, rV 64), (1, lV (l.map dS))], [(64, some (.row 1 5 (b.map dB) false true))], 96⟩ hτ hmix (by kernel_rfl) (by kernel_rfl) rfl ?_
  refine X.seq ?_
  have hm := hl.1
  have el1 : (l.map dS).length = l.length := List.length_map ..
  refine X.rs 3 hτ hmix (by kernel_rfl) ?_
  obtain ⟨r2, hr4, hf3⟩ := i_putNum b ((l.map dS).length : Int) (by first | omega | (simp only [List.length_append]; omega))
  replace hr4 := hr4.symm; subst hr4
  have hnb := (numB_len ((l.map dS).length : Int)).1
  refine CH.call hf3 Try.func125 ⟨rfl, rfl⟩ [(64, 0)] (by kernel_rfl) (by kernel_rfl) (by kernel_rfl) (by kernel_rfl) ?_
  refine CH.go 1 hτ (by kernel_rfl) ?_
  refine CH.endk ⟨[(0, rV 144), (1, lV (l.map dS))], [(144, some (.row 1 5 ((b ++ numB ((l.map dS).length : Int)).map dB) false true))], 176⟩ (by kernel_rfl) (by kernel_rfl) rfl ?_
  refine X.seq ?_
  refine X.seq ?_
  refine X.rk ⟨[(0, rV 144), (11, lV (l.map dS)), (12, iV ((l.map dS).length : Int)), (13, iV 0)], [(144, some (.row 1 5 ((b ++ numB ((l.map dS).length : Int)).map dB) false true))], 224⟩ hτ hmix (by kernel_rfl) (by kernel_rfl) rfl ?_
  refine X.block ?_
  -- 3: Lv0 : List Int, v13 : Int
  refine X.loop (σ := { g : (List Int) × Int // (fun (Lv0 : List Int) (v13 : Int) => 0 ≤ v13 ∧ v13 ≤ l.length ∧ Lv0.length ≤ b.length + 5 + 2000005 * v13.toNat ∧ Lv0 = (b ++ numB l.length) ++ (l.take v13.toNat).flatMap textB) g.1 g.2 }) (fun g => (fun (Lv0 : List Int) (v13 : Int) => ⟨[(0, rV 144), (11, lV (l.map dS)), (12, iV ((l.map dS).length : Int)), (13, iV v13)], [(144, some (.row 1 5 (Lv0.map dB) false true))], 224⟩) g.1.1 g.1.2) (fun g => (fun (Lv0 : List Int) (v13 : Int) => (l.length - v13).toNat) g.1.1 g.1.2) ⟨((b ++ numB ((l.map dS).length : Int)), 0), ⟨by first | omega | (dsimp only; omega), by first | omega | (dsimp only; omega), by simp only [List.length_append]; omega, (by simp only [List.length_map]; exact (List.append_nil _).symm)⟩⟩ (Wk.less (by kernel_rfl)) (fun g => ?_)
  obtain ⟨⟨Lv0, v13⟩, hg7⟩ := g
  have hg7 : 0 ≤ v13 ∧ v13 ≤ l.length ∧ Lv0.length ≤ b.length + 5 + 2000005 * v13.toNat ∧ Lv0 = (b ++ numB l.length) ++ (l.take v13.toNat).flatMap textB := hg7
  obtain ⟨_, _, _, hq2⟩ := hg7
  refine X.seq ?_
  refine X.rk ⟨[(0, rV 144), (11, lV (l.map dS)), (12, iV ((l.map dS).length : Int)), (13, iV v13), (14, bV (decide ((v13 : Int) < ((l.map dS).length : Int))))], [(144, some (.row 1 5 (Lv0.map dB) false true))], 240⟩ hτ hmix (by kernel_rfl) (by kernel_rfl) rfl ?_
  refine X.seq ?_
  refine X.if_ (b := decide ((v13 : Int) < ((l.map dS).length : Int))) (by kernel_rfl) (fun hb8 => ?_) (fun hb8 => ?_)
  ·replace hb8 := of_decide_eq_true (hb8)
   refine X.skip ?_
   refine X.seq ?_
   refine X.block ?_
   refine X.seq ?_
   refine X.rs 0 hτ hmix (by kernel_rfl) ?_
   obtain ⟨x9, hx9⟩ : ∃ x, l[Int.toNat v13]? = some x := ⟨_, List.getElem?_eq_getElem (by first | omega | (simp; done) | (simp; omega))⟩
   have hxs := all_at hl.2 hx9; have hxs2 : _ ≤ 2000000 := hxs
   refine CH.idx hτ (dS x9) (rows := (l.map dS)) (n := v13) (sz := 1) (by kernel_rfl) (by kernel_rfl) (by first | omega | (simp; done) | (simp; omega)) (by rw [List.getElem?_map, hx9]; rfl) (by kernel_rfl) ?_
   refine CH.go 2 hτ (by kernel_rfl) ?_
   refine CH.endk ⟨[(0, rV 144), (6, .e (.c (.d (.v (.string x9))))), (11, lV (l.map dS)), (12, iV ((l.map dS).length : Int)), (13, iV v13)], [(144, some (.row 1 5 (Lv0.map dB) false true))], 288⟩ (by kernel_rfl) (by kernel_rfl) rfl ?_
   refine X.rs 2 hτ hmix (by kernel_rfl) ?_
   obtain ⟨r10, hr12, hf11⟩ := i_putText Lv0 x9 (by first | omega | (simp only [List.length_append]; omega)) (by assumption)
   replace hr12 := hr12.symm; subst hr12
   have htl := textB_len x9
   refine CH.call hf11 Try.func126 ⟨rfl, rfl⟩ [(144, 0)] (by kernel_rfl) (by kernel_rfl) (by kernel_rfl) (by kernel_rfl) ?_
   refine CH.go 1 hτ (by kernel_rfl) ?_
   refine CH.endk ⟨[(0, rV 320), (11, lV (l.map dS)), (12, iV ((l.map dS).length : Int)), (13, iV v13)], [(320, some (.row 1 5 ((Lv0 ++ textB x9).map dB) false true))], 352⟩ (by kernel_rfl) (by kernel_rfl) rfl ?_
   refine X.rk ⟨[(0, rV 320), (11, lV (l.map dS)), (12, iV ((l.map dS).length : Int)), (13, iV (wrap64 (v13 + 1)))], [(320, some (.row 1 5 ((Lv0 ++ textB x9).map dB) false true))], 384⟩ hτ hmix (by kernel_rfl) (by kernel_rfl) (s2 := ⟨[(0, rV 320), (11, lV (l.map dS)), (12, iV ((l.map dS).length : Int)), (13, iV (v13 + 1))], [(320, some (.row 1 5 ((Lv0 ++ textB x9).map dB) false true))], 384⟩) (congrArg (fun z : Int => (⟨[(0, rV 320), (11, lV (l.map dS)), (12, iV ((l.map dS).length : Int)), (13, iV z)], [(320, some (.row 1 5 ((Lv0 ++ textB x9).map dB) false true))], 384⟩ : St)) (show wrap64 (v13 + 1) = (v13 + 1) by rw [w64 (n := (v13 + 1)) (by omega) (by omega)])) ?_
   refine ⟨⟨((Lv0 ++ textB x9), (v13 + 1)), ⟨by first | omega | (dsimp only; omega), by first | omega | (dsimp only; omega), by simp only [List.length_append]; omega, fm_next (by first | omega | (dsimp only; omega)) ‹_› hq2⟩⟩, by first | exact rfl | omega | (dsimp only; omega) | (simp only [List.length_append, List.length_cons, List.length_nil, List.length_set]; omega) | (simp; done) | (simp; omega), Wk.mk' [(144, 320)] (by kernel_rfl) (by kernel_rfl) (by kernel_rfl)⟩
  ·replace hb8 := of_decide_eq_false (hb8)
   refine X.exit ?_
   refine X.seq ?_
   refine X.rk ⟨[(4, rV 144)], [(144, some (.row 1 5 (Lv0.map dB) false true))], 272⟩ hτ hmix (by kernel_rfl) (by kernel_rfl) rfl ?_
   refine X.ret ?_
   exact ⟨trivial, _, _, ⟨Lv0, (by rw [fm_end (by omega) hq2, List.append_assoc]; rfl), rfl, rfl⟩, .inl (Ret.mk' [(64, 144)] (by kernel_rfl) (by kernel_rfl) (by kernel_rfl))⟩
 obtain ⟨_, _, ⟨r0, h1_, rfl, rfl⟩, hf⟩ := key
 exact ⟨r0, h1_, hf⟩

theorem i_putTx (b : List Int) (t : S26) (hb : b.length ≤ 80000000000000) (ht : Sm26 t) : ∃ r0 : List Int, (r0 = b ++ encTx t) ∧ Fn Try.prog 128 [rV 0, .e (.agg (cD (d26 t)))] (lookH [(0, some (.row 1 5 (b.map dB) false true))]) (rV 64) (lookH [(64, some (.row 1 5 (r0.map dB) false true))]) := by
 have key : ∃ x' h', ((fun x' h' => ∃ r0 : List Int, (r0 = b ++ encTx t) ∧ x' = rV 64 ∧ h' = [(64, some (.row 1 5 (r0.map dB) false true))])) x' h' ∧ Fn Try.prog 128 [rV 0, .e (.agg (cD (d26 t)))] (lookH [(0, some (.row 1 5 (b.map dB) false true))]) x' (lookH h') := by
  refine Fn.bodyX (N := 22) hτ Try.func128 rfl rfl rfl rfl ?_
  refine X.weak (Wk.mk' [(64, 0)] (s' := ⟨[(0, rV 64), (1, .e (.agg (cD (d26 t))))], [(64, some (.row 1 5 (b.map dB) false true))], 80⟩) (by kernel_rfl) (by kernel_rfl) (by kernel_rfl)) ?_
  refine X.seq ?_
  refine X.rk ⟨[(0, rV 64), (3, .pt 80 0 0)], [(64, some (.row 1 5 (b.map dB) false true)), (80, some (.box (cD (d26 t))))], 112⟩ hτ hmix (by kernel_rfl) (by kernel_rfl) rfl ?_
  refine X.seq ?_
  have hs1 := ht.1
  have hs2 := ht.2
  have hs3 : _ ≤ 2000000 := hs1
  have hs4 : _ ≤ 2000000 := hs2
  refine X.rs 3 hτ hmix (by kernel_rfl) ?_
  obtain ⟨r1, hr3, hf2⟩ := i_putNum b t.f0 (by first | omega | (simp only [List.length_append]; omega))
  replace hr3 := hr3.symm; subst hr3
  have hnb := (numB_len t.f0).1
  refine CH.call hf2 Try.func125 ⟨rfl, rfl⟩ [(64, 0)] (by kernel_rfl) (by kernel_rfl) (by kernel_rfl) (by kernel_rfl) ?_
  refine CH.go 2 hτ (by kernel_rfl) ?_
  obtain ⟨r5, hr7, hf6⟩ := i_putText (b ++ numB t.f0) t.f1 (by first | omega | (simp only [List.length_append]; omega)) (by assumption)
  replace hr7 := hr7.symm; subst hr7
  have htl := textB_len t.f1
  refine CH.call hf6 Try.func126 ⟨rfl, rfl⟩ [(160, 0)] (by kernel_rfl) (by kernel_rfl) (by kernel_rfl) (by kernel_rfl) ?_
  refine CH.go 2 hτ (by kernel_rfl) ?_
  obtain ⟨r9, hr11, hf10⟩ := i_putText ((b ++ numB t.f0) ++ textB t.f1) t.f2 (by first | omega | (simp only [List.length_append]; omega)) (by assumption)
  replace hr11 := hr11.symm; subst hr11
  have htl := textB_len t.f2
  refine CH.call hf10 Try.func126 ⟨rfl, rfl⟩ [(208, 0)] (by kernel_rfl) (by kernel_rfl) (by kernel_rfl) (by kernel_rfl) ?_
  refine CH.go 1 hτ (by kernel_rfl) ?_
  refine CH.endk ⟨[(0, rV 256), (3, .pt 80 0 0)], [(80, some (.box (cD (d26 t)))), (256, some (.row 1 5 ((((b ++ numB t.f0) ++ textB t.f1) ++ textB t.f2).map dB) false true))], 288⟩ (by kernel_rfl) (by kernel_rfl) rfl ?_
  refine X.seq ?_
  refine X.rs 3 hτ hmix (by kernel_rfl) ?_
  obtain ⟨r13, hr15, hf14⟩ := i_putNum (((b ++ numB t.f0) ++ textB t.f1) ++ textB t.f2) t.f3 (by first | omega | (simp only [List.length_append]; omega))
  replace hr15 := hr15.symm; subst hr15
  have hnb := (numB_len t.f3).1
  refine CH.call hf14 Try.func125 ⟨rfl, rfl⟩ [(256, 0)] (by kernel_rfl) (by kernel_rfl) (by kernel_rfl) (by kernel_rfl) ?_
  refine CH.go 2 hτ (by kernel_rfl) ?_
  obtain ⟨r17, hr19, hf18⟩ := i_putNum ((((b ++ numB t.f0) ++ textB t.f1) ++ textB t.f2) ++ numB t.f3) t.f4 (by first | omega | (simp only [List.length_append]; omega))
  replace hr19 := hr19.symm; subst hr19
  have hnb := (numB_len t.f4).1
  refine CH.call hf18 Try.func125 ⟨rfl, rfl⟩ [(336, 0)] (by kernel_rfl) (by kernel_rfl) (by kernel_rfl) (by kernel_rfl) ?_
  refine CH.go 1 hτ (by kernel_rfl) ?_
  refine CH.endk ⟨[(4, rV 384)], [(384, some (.row 1 5 ((((((b ++ numB t.f0) ++ textB t.f1) ++ textB t.f2) ++ numB t.f3) ++ numB t.f4).map dB) false true))], 416⟩ (by kernel_rfl) (by kernel_rfl) rfl ?_
  refine X.ret ?_
  exact ⟨trivial, _, _, ⟨(((((b ++ numB t.f0) ++ textB t.f1) ++ textB t.f2) ++ numB t.f3) ++ numB t.f4), (by simp only [encTx, List.append_assoc]), rfl, rfl⟩, .inl (Ret.mk' [(64, 384)] (by kernel_rfl) (by kernel_rfl) (by kernel_rfl))⟩
 obtain ⟨_, _, ⟨r0, h1_, rfl, rfl⟩, hf⟩ := key
 exact ⟨r0, h1_, hf⟩

theorem i_putBlock (bk : S49) (hx : Sm49 bk) : ∃ r0 : List Int, (r0 = encB bk) ∧ Fn Try.prog 65 [.e (.agg (cD (d49 bk)))] (lookH []) (rV 64) (lookH [(64, some (.row 1 5 (r0.map dB) false true))]) := by
 have key : ∃ x' h', ((fun x' h' => ∃ r0 : List Int, (r0 = encB bk) ∧ x' = rV 64 ∧ h' = [(64, some (.row 1 5 (r0.map dB) false true))])) x' h' ∧ Fn Try.prog 65 [.e (.agg (cD (d49 bk)))] (lookH []) x' (lookH h') := by
  refine Fn.bodyX (N := 101) hτ Try.func65 rfl rfl rfl rfl ?_
  refine X.seq ?_
  refine X.rk ⟨[(1, .pt 64 0 0)], [(64, some (.box (cD (d49 bk))))], 96⟩ hτ hmix (by kernel_rfl) (by kernel_rfl) rfl ?_
  refine X.seq ?_
  obtain ⟨hb3, hbq, hbt, hbx, hbv, hb9⟩ := hx
  have hq1 : SmN bk.f4.f2 := hbq
  have hq1l := hq1.1
  obtain ⟨ht1, ht2⟩ := hbt
  have ht1l := ht1.1
  have hxl := hbx.1
  have hvl := hbv.1
  have hl3 : bk.f3.size ≤ 2000000 := hb3
  have hl9 : bk.f9.size ≤ 2000000 := hb9
  refine X.rs 2 hτ hmix (by kernel_rfl) ?_
  obtain ⟨r1, hr3, hf2⟩ := i_putNumN bk.f0
  replace hr3 := hr3.symm; subst hr3
  have hnb := (numB_len bk.f0).1
  refine CH.callN hf2 Try.func125 ⟨rfl, rfl⟩ [] [true, false] (args0 := [.e (.c (.d (.sl []))), iV bk.f0]) (by kernel_rfl) (by kernel_rfl) (by kernel_rfl) (by kernel_rfl) (by kernel_rfl) ?_
  refine CH.go 2 hτ (by kernel_rfl) ?_
  obtain ⟨r5, hr7, hf6⟩ := i_putNum (numB bk.f0) bk.f1 (by first | omega | (simp only [List.length_append]; omega))
  replace hr7 := hr7.symm; subst hr7
  have hnb := (numB_len bk.f1).1
  refine CH.call hf6 Try.func125 ⟨rfl, rfl⟩ [(128, 0)] (by kernel_rfl) (by kernel_rfl) (by kernel_rfl) (by kernel_rfl) ?_
  refine CH.go 2 hτ (by kernel_rfl) ?_
  obtain ⟨r9, hr11, hf10⟩ := i_putNum ((numB bk.f0) ++ numB bk.f1) bk.f2 (by first | omega | (simp only [List.length_append]; omega))
  replace hr11 := hr11.symm; subst hr11
  have hnb := (numB_len bk.f2).1
  refine CH.call hf10 Try.func125 ⟨rfl, rfl⟩ [(176, 0)] (by kernel_rfl) (by kernel_rfl) (by kernel_rfl) (by kernel_rfl) ?_
  refine CH.go 1 hτ (by kernel_rfl) ?_
  refine CH.endk ⟨[(1, .pt 64 0 0), (3, rV 224)], [(64, some (.box (cD (d49 bk)))), (224, some (.row 1 5 ((((numB bk.f0) ++ numB bk.f1) ++ numB bk.f2).map dB) false true))], 256⟩ (by kernel_rfl) (by kernel_rfl) rfl ?_
  refine X.seq ?_
  refine X.rs 3 hτ hmix (by kernel_rfl) ?_
  obtain ⟨r13, hr15, hf14⟩ := i_putText (((numB bk.f0) ++ numB bk.f1) ++ numB bk.f2) bk.f3 (by first | omega | (simp only [List.length_append]; omega)) (by assumption)
  replace hr15 := hr15.symm; subst hr15
  have htl := textB_len bk.f3
  refine CH.call hf14 Try.func126 ⟨rfl, rfl⟩ [(224, 0)] (by kernel_rfl) (by kernel_rfl) (by kernel_rfl) (by kernel_rfl) ?_
  refine CH.go 3 hτ (by kernel_rfl) ?_
  obtain ⟨r17, hr19, hf18⟩ := i_putNum ((((numB bk.f0) ++ numB bk.f1) ++ numB bk.f2) ++ textB bk.f3) bk.f4.f0 (by first | omega | (simp only [List.length_append]; omega))
  replace hr19 := hr19.symm; subst hr19
  have hnb := (numB_len bk.f4.f0).1
  refine CH.call hf18 Try.func125 ⟨rfl, rfl⟩ [(304, 0)] (by kernel_rfl) (by kernel_rfl) (by kernel_rfl) (by kernel_rfl) ?_
  refine CH.go 3 hτ (by kernel_rfl) ?_
  obtain ⟨r21, hr23, hf22⟩ := i_putNum (((((numB bk.f0) ++ numB bk.f1) ++ numB bk.f2) ++ textB bk.f3) ++ numB bk.f4.f0) bk.f4.f1 (by first | omega | (simp only [List.length_append]; omega))
  replace hr23 := hr23.symm; subst hr23
  have hnb := (numB_len bk.f4.f1).1
  refine CH.call hf22 Try.func125 ⟨rfl, rfl⟩ [(368, 0)] (by kernel_rfl) (by kernel_rfl) (by kernel_rfl) (by kernel_rfl) ?_
  refine CH.go 1 hτ (by kernel_rfl) ?_
  refine CH.endk ⟨[(1, .pt 64 0 0), (3, rV 432)], [(64, some (.box (cD (d49 bk)))), (432, some (.row 1 5 (((((((numB bk.f0) ++ numB bk.f1) ++ numB bk.f2) ++ textB bk.f3) ++ numB bk.f4.f0) ++ numB bk.f4.f1).map dB) false true))], 464⟩ (by kernel_rfl) (by kernel_rfl) rfl ?_
  refine X.seq ?_
  refine X.rs 4 hτ hmix (by kernel_rfl) ?_
  obtain ⟨r25, hr27, hf26⟩ := i_putNames ((((((numB bk.f0) ++ numB bk.f1) ++ numB bk.f2) ++ textB bk.f3) ++ numB bk.f4.f0) ++ numB bk.f4.f1) bk.f4.f2 (by first | omega | (simp only [List.length_append]; omega)) (by assumption)
  replace hr27 := hr27.symm; subst hr27
  have hnm := namesB_len (l := bk.f4.f2) ‹_›
  refine CH.call hf26 Try.func127 ⟨rfl, rfl⟩ [(432, 0)] (by kernel_rfl) (by kernel_rfl) (by kernel_rfl) (by kernel_rfl) ?_
  refine CH.go 3 hτ (by kernel_rfl) ?_
  obtain ⟨r29, hr31, hf30⟩ := i_putNum (((((((numB bk.f0) ++ numB bk.f1) ++ numB bk.f2) ++ textB bk.f3) ++ numB bk.f4.f0) ++ numB bk.f4.f1) ++ namesB bk.f4.f2) bk.f5.f0 (by first | omega | (simp only [List.length_append]; omega))
  replace hr31 := hr31.symm; subst hr31
  have hnb := (numB_len bk.f5.f0).1
  refine CH.call hf30 Try.func125 ⟨rfl, rfl⟩ [(528, 0)] (by kernel_rfl) (by kernel_rfl) (by kernel_rfl) (by kernel_rfl) ?_
  refine CH.go 3 hτ (by kernel_rfl) ?_
  obtain ⟨r33, hr35, hf34⟩ := i_putNames ((((((((numB bk.f0) ++ numB bk.f1) ++ numB bk.f2) ++ textB bk.f3) ++ numB bk.f4.f0) ++ numB bk.f4.f1) ++ namesB bk.f4.f2) ++ numB bk.f5.f0) bk.f5.f1 (by first | omega | (simp only [List.length_append]; omega)) (by assumption)
  replace hr35 := hr35.symm; subst hr35
  have hnm := namesB_len (l := bk.f5.f1) ‹_›
  refine CH.call hf34 Try.func127 ⟨rfl, rfl⟩ [(592, 0)] (by kernel_rfl) (by kernel_rfl) (by kernel_rfl) (by kernel_rfl) ?_
  refine CH.go 1 hτ (by kernel_rfl) ?_
  refine CH.endk ⟨[(1, .pt 64 0 0), (3, rV 656)], [(64, some (.box (cD (d49 bk)))), (656, some (.row 1 5 ((((((((((numB bk.f0) ++ numB bk.f1) ++ numB bk.f2) ++ textB bk.f3) ++ numB bk.f4.f0) ++ numB bk.f4.f1) ++ namesB bk.f4.f2) ++ numB bk.f5.f0) ++ namesB bk.f5.f1).map dB) false true))], 688⟩ (by kernel_rfl) (by kernel_rfl) rfl ?_
  refine X.seq ?_
  refine X.seq ?_
  have el37 : (bk.f5.f2.map dI).length = bk.f5.f2.length := List.length_map ..
  refine X.rk ⟨[(1, .pt 64 0 0), (3, rV 656), (47, lV (bk.f5.f2.map dI)), (48, iV ((bk.f5.f2.map dI).length : Int)), (49, iV 0)], [(64, some (.box (cD (d49 bk)))), (656, some (.row 1 5 ((((((((((numB bk.f0) ++ numB bk.f1) ++ numB bk.f2) ++ textB bk.f3) ++ numB bk.f4.f0) ++ numB bk.f4.f1) ++ namesB bk.f4.f2) ++ numB bk.f5.f0) ++ namesB bk.f5.f1).map dB) false true))], 768⟩ hτ hmix (by kernel_rfl) (by kernel_rfl) rfl ?_
  refine X.block ?_
  -- 5: Lv3 : List Int, v49 : Int
  refine X.loop (σ := { g : (List Int) × Int // (fun (Lv3 : List Int) (v49 : Int) => 0 ≤ v49 ∧ v49 ≤ bk.f5.f2.length ∧ Lv3.length ≤ 9000000000000 + 5 * v49.toNat ∧ Lv3 = preB1 bk ++ (bk.f5.f2.take v49.toNat).flatMap numB) g.1 g.2 }) (fun g => (fun (Lv3 : List Int) (v49 : Int) => ⟨[(1, .pt 64 0 0), (3, rV 656), (47, lV (bk.f5.f2.map dI)), (48, iV ((bk.f5.f2.map dI).length : Int)), (49, iV v49)], [(64, some (.box (cD (d49 bk)))), (656, some (.row 1 5 (Lv3.map dB) false true))], 768⟩) g.1.1 g.1.2) (fun g => (fun (Lv3 : List Int) (v49 : Int) => (bk.f5.f2.length - v49).toNat) g.1.1 g.1.2) ⟨((((((((((numB bk.f0) ++ numB bk.f1) ++ numB bk.f2) ++ textB bk.f3) ++ numB bk.f4.f0) ++ numB bk.f4.f1) ++ namesB bk.f4.f2) ++ numB bk.f5.f0) ++ namesB bk.f5.f1), 0), ⟨by first | omega | (dsimp only; omega), by first | omega | (dsimp only; omega), by simp only [List.length_append, List.length_nil]; (first | omega | (dsimp only; omega)), (by (try simp only [List.length_map]); exact (List.append_nil _).symm)⟩⟩ (Wk.less (by kernel_rfl)) (fun g => ?_)
  obtain ⟨⟨Lv3, v49⟩, hg39⟩ := g
  have hg39 : 0 ≤ v49 ∧ v49 ≤ bk.f5.f2.length ∧ Lv3.length ≤ 9000000000000 + 5 * v49.toNat ∧ Lv3 = preB1 bk ++ (bk.f5.f2.take v49.toNat).flatMap numB := hg39
  obtain ⟨_, _, _, hq2⟩ := hg39
  refine X.seq ?_
  refine X.rk ⟨[(1, .pt 64 0 0), (3, rV 656), (47, lV (bk.f5.f2.map dI)), (48, iV ((bk.f5.f2.map dI).length : Int)), (49, iV v49), (50, bV (decide ((v49 : Int) < ((bk.f5.f2.map dI).length : Int))))], [(64, some (.box (cD (d49 bk)))), (656, some (.row 1 5 (Lv3.map dB) false true))], 784⟩ hτ hmix (by kernel_rfl) (by kernel_rfl) rfl ?_
  refine X.seq ?_
  refine X.if_ (b := decide ((v49 : Int) < ((bk.f5.f2.map dI).length : Int))) (by kernel_rfl) (fun hb40 => ?_) (fun hb40 => ?_)
  ·replace hb40 := of_decide_eq_true (hb40)
   refine X.skip ?_
   refine X.seq ?_
   refine X.block ?_
   refine X.seq ?_
   refine X.rs 0 hτ hmix (by kernel_rfl) ?_
   obtain ⟨x41, hx41⟩ : ∃ x, bk.f5.f2[Int.toNat v49]? = some x := ⟨_, List.getElem?_eq_getElem (by first | omega | (simp; done) | (simp; omega))⟩
   refine CH.idx hτ (dI x41) (rows := (bk.f5.f2.map dI)) (n := v49) (sz := 1) (by kernel_rfl) (by kernel_rfl) (by first | omega | (simp; done) | (simp; omega)) (by rw [List.getElem?_map, hx41]; rfl) (by kernel_rfl) ?_
   refine CH.go 2 hτ (by kernel_rfl) ?_
   refine CH.endk ⟨[(1, .pt 64 0 0), (3, rV 656), (5, iV x41), (47, lV (bk.f5.f2.map dI)), (48, iV ((bk.f5.f2.map dI).length : Int)), (49, iV v49)], [(64, some (.box (cD (d49 bk)))), (656, some (.row 1 5 (Lv3.map dB) false true))], 832⟩ (by kernel_rfl) (by kernel_rfl) rfl ?_
   refine X.rs 2 hτ hmix (by kernel_rfl) ?_
   obtain ⟨r42, hr44, hf43⟩ := i_putNum Lv3 x41 (by first | omega | (simp only [List.length_append]; omega))
   replace hr44 := hr44.symm; subst hr44
   have hnb := (numB_len x41).1
   refine CH.call hf43 Try.func125 ⟨rfl, rfl⟩ [(656, 0)] (by kernel_rfl) (by kernel_rfl) (by kernel_rfl) (by kernel_rfl) ?_
   refine CH.go 1 hτ (by kernel_rfl) ?_
   refine CH.endk ⟨[(1, .pt 64 0 0), (3, rV 864), (47, lV (bk.f5.f2.map dI)), (48, iV ((bk.f5.f2.map dI).length : Int)), (49, iV v49)], [(64, some (.box (cD (d49 bk)))), (864, some (.row 1 5 ((Lv3 ++ numB x41).map dB) false true))], 896⟩ (by kernel_rfl) (by kernel_rfl) rfl ?_
   refine X.rk ⟨[(1, .pt 64 0 0), (3, rV 864), (47, lV (bk.f5.f2.map dI)), (48, iV ((bk.f5.f2.map dI).length : Int)), (49, iV (wrap64 (v49 + 1)))], [(64, some (.box (cD (d49 bk)))), (864, some (.row 1 5 ((Lv3 ++ numB x41).map dB) false true))], 928⟩ hτ hmix (by kernel_rfl) (by kernel_rfl) (s2 := ⟨[(1, .pt 64 0 0), (3, rV 864), (47, lV (bk.f5.f2.map dI)), (48, iV ((bk.f5.f2.map dI).length : Int)), (49, iV (v49 + 1))], [(64, some (.box (cD (d49 bk)))), (864, some (.row 1 5 ((Lv3 ++ numB x41).map dB) false true))], 928⟩) (congrArg (fun z : Int => (⟨[(1, .pt 64 0 0), (3, rV 864), (47, lV (bk.f5.f2.map dI)), (48, iV ((bk.f5.f2.map dI).length : Int)), (49, iV z)], [(64, some (.box (cD (d49 bk)))), (864, some (.row 1 5 ((Lv3 ++ numB x41).map dB) false true))], 928⟩ : St)) (show wrap64 (v49 + 1) = (v49 + 1) by rw [w64 (n := (v49 + 1)) (by omega) (by omega)])) ?_
   refine ⟨⟨((Lv3 ++ numB x41), (v49 + 1)), ⟨by first | omega | (dsimp only; omega), by first | omega | (dsimp only; omega), by simp only [List.length_append]; omega, fm_next (by first | omega | (dsimp only; omega)) ‹_› hq2⟩⟩, by first | exact rfl | omega | (dsimp only; omega) | (simp only [List.length_append, List.length_cons, List.length_nil, List.length_set]; omega) | (simp; done) | (simp; omega), Wk.mk' [(64, 64), (656, 864)] (by kernel_rfl) (by kernel_rfl) (by kernel_rfl)⟩
  ·replace hb40 := of_decide_eq_false (hb40)
   refine X.exit ?_
   refine X.seq ?_
   have hE1 := fm_end (by omega) hq2
   have el46 : (bk.f6.map d26).length = bk.f6.length := List.length_map ..
   refine X.rs 4 hτ hmix (by kernel_rfl) ?_
   obtain ⟨r47, hr49, hf48⟩ := i_putNum Lv3 ((bk.f6.map d26).length : Int) (by first | omega | (simp only [List.length_append]; omega))
   replace hr49 := hr49.symm; subst hr49
   have hnb := (numB_len ((bk.f6.map d26).length : Int)).1
   refine CH.call hf48 Try.func125 ⟨rfl, rfl⟩ [(656, 0)] (by kernel_rfl) (by kernel_rfl) (by kernel_rfl) (by kernel_rfl) ?_
   refine CH.go 1 hτ (by kernel_rfl) ?_
   refine CH.endk ⟨[(1, .pt 64 0 0), (3, rV 848)], [(64, some (.box (cD (d49 bk)))), (848, some (.row 1 5 ((Lv3 ++ numB ((bk.f6.map d26).length : Int)).map dB) false true))], 880⟩ (by kernel_rfl) (by kernel_rfl) rfl ?_
   refine X.seq ?_
   refine X.seq ?_
   refine X.rk ⟨[(1, .pt 64 0 0), (3, rV 848), (63, lV (bk.f6.map d26)), (64, iV ((bk.f6.map d26).length : Int)), (65, iV 0)], [(64, some (.box (cD (d49 bk)))), (848, some (.row 1 5 ((Lv3 ++ numB ((bk.f6.map d26).length : Int)).map dB) false true))], 944⟩ hτ hmix (by kernel_rfl) (by kernel_rfl) rfl ?_
   refine X.block ?_
   -- 11: Lv3 : List Int, v65 : Int
   refine X.loop (σ := { g : (List Int) × Int // (fun (Lv3 : List Int) (v65 : Int) => 0 ≤ v65 ∧ v65 ≤ bk.f6.length ∧ Lv3.length ≤ 9100000000000 + 4000025 * v65.toNat ∧ Lv3 = preB2 bk ++ (bk.f6.take v65.toNat).flatMap encTx) g.1 g.2 }) (fun g => (fun (Lv3 : List Int) (v65 : Int) => ⟨[(1, .pt 64 0 0), (3, rV 848), (63, lV (bk.f6.map d26)), (64, iV ((bk.f6.map d26).length : Int)), (65, iV v65)], [(64, some (.box (cD (d49 bk)))), (848, some (.row 1 5 (Lv3.map dB) false true))], 944⟩) g.1.1 g.1.2) (fun g => (fun (Lv3 : List Int) (v65 : Int) => (bk.f6.length - v65).toNat) g.1.1 g.1.2) ⟨((Lv3 ++ numB ((bk.f6.map d26).length : Int)), 0), ⟨by first | omega | (dsimp only; omega), by first | omega | (dsimp only; omega), by simp only [List.length_append, List.length_nil]; (first | omega | (dsimp only; omega)), (by rw [hE1]; (try simp only [List.length_map]); exact (List.append_nil _).symm)⟩⟩ (Wk.less (by kernel_rfl)) (fun g => ?_)
   obtain ⟨⟨Lv3, v65⟩, hg52⟩ := g
   have hg52 : 0 ≤ v65 ∧ v65 ≤ bk.f6.length ∧ Lv3.length ≤ 9100000000000 + 4000025 * v65.toNat ∧ Lv3 = preB2 bk ++ (bk.f6.take v65.toNat).flatMap encTx := hg52
   obtain ⟨_, _, _, hq2⟩ := hg52
   refine X.seq ?_
   refine X.rk ⟨[(1, .pt 64 0 0), (3, rV 848), (63, lV (bk.f6.map d26)), (64, iV ((bk.f6.map d26).length : Int)), (65, iV v65), (66, bV (decide ((v65 : Int) < ((bk.f6.map d26).length : Int))))], [(64, some (.box (cD (d49 bk)))), (848, some (.row 1 5 (Lv3.map dB) false true))], 960⟩ hτ hmix (by kernel_rfl) (by kernel_rfl) rfl ?_
   refine X.seq ?_
   refine X.if_ (b := decide ((v65 : Int) < ((bk.f6.map d26).length : Int))) (by kernel_rfl) (fun hb53 => ?_) (fun hb53 => ?_)
   ·replace hb53 := of_decide_eq_true (hb53)
    refine X.skip ?_
    refine X.seq ?_
    refine X.block ?_
    refine X.seq ?_
    refine X.rs 0 hτ hmix (by kernel_rfl) ?_
    obtain ⟨x54, hx54⟩ : ∃ x, bk.f6[Int.toNat v65]? = some x := ⟨_, List.getElem?_eq_getElem (by first | omega | (simp; done) | (simp; omega))⟩
    have hxt := all_at hbx.2 hx54
    refine CH.idx hτ (d26 x54) (rows := (bk.f6.map d26)) (n := v65) (sz := 5) (by kernel_rfl) (by kernel_rfl) (by first | omega | (simp; done) | (simp; omega)) (by rw [List.getElem?_map, hx54]; rfl) (by kernel_rfl) ?_
    refine CH.go 3 hτ (by kernel_rfl) ?_
    refine CH.endk ⟨[(1, .pt 64 0 0), (3, rV 848), (7, .pt 992 0 0), (63, lV (bk.f6.map d26)), (64, iV ((bk.f6.map d26).length : Int)), (65, iV v65)], [(64, some (.box (cD (d49 bk)))), (848, some (.row 1 5 (Lv3.map dB) false true)), (992, some (.box (cD (d26 x54))))], 1024⟩ (by kernel_rfl) (by kernel_rfl) rfl ?_
    refine X.rs 2 hτ hmix (by kernel_rfl) ?_
    obtain ⟨r55, hr57, hf56⟩ := i_putTx Lv3 x54 (by first | omega | (simp only [List.length_append]; omega)) (by assumption)
    replace hr57 := hr57.symm; subst hr57
    have hxl := encTx_len (t := x54) ‹_›
    refine CH.call hf56 Try.func128 ⟨rfl, rfl⟩ [(848, 0)] (by kernel_rfl) (by kernel_rfl) (by kernel_rfl) (by kernel_rfl) ?_
    refine CH.go 1 hτ (by kernel_rfl) ?_
    refine CH.endk ⟨[(1, .pt 64 0 0), (3, rV 1056), (63, lV (bk.f6.map d26)), (64, iV ((bk.f6.map d26).length : Int)), (65, iV v65)], [(64, some (.box (cD (d49 bk)))), (1056, some (.row 1 5 ((Lv3 ++ encTx x54).map dB) false true))], 1088⟩ (by kernel_rfl) (by kernel_rfl) rfl ?_
    refine X.rk ⟨[(1, .pt 64 0 0), (3, rV 1056), (63, lV (bk.f6.map d26)), (64, iV ((bk.f6.map d26).length : Int)), (65, iV (wrap64 (v65 + 1)))], [(64, some (.box (cD (d49 bk)))), (1056, some (.row 1 5 ((Lv3 ++ encTx x54).map dB) false true))], 1120⟩ hτ hmix (by kernel_rfl) (by kernel_rfl) (s2 := ⟨[(1, .pt 64 0 0), (3, rV 1056), (63, lV (bk.f6.map d26)), (64, iV ((bk.f6.map d26).length : Int)), (65, iV (v65 + 1))], [(64, some (.box (cD (d49 bk)))), (1056, some (.row 1 5 ((Lv3 ++ encTx x54).map dB) false true))], 1120⟩) (congrArg (fun z : Int => (⟨[(1, .pt 64 0 0), (3, rV 1056), (63, lV (bk.f6.map d26)), (64, iV ((bk.f6.map d26).length : Int)), (65, iV z)], [(64, some (.box (cD (d49 bk)))), (1056, some (.row 1 5 ((Lv3 ++ encTx x54).map dB) false true))], 1120⟩ : St)) (show wrap64 (v65 + 1) = (v65 + 1) by rw [w64 (n := (v65 + 1)) (by omega) (by omega)])) ?_
    refine ⟨⟨((Lv3 ++ encTx x54), (v65 + 1)), ⟨by first | omega | (dsimp only; omega), by first | omega | (dsimp only; omega), by simp only [List.length_append]; omega, fm_next (by first | omega | (dsimp only; omega)) ‹_› hq2⟩⟩, by first | exact rfl | omega | (dsimp only; omega) | (simp only [List.length_append, List.length_cons, List.length_nil, List.length_set]; omega) | (simp; done) | (simp; omega), Wk.mk' [(64, 64), (848, 1056)] (by kernel_rfl) (by kernel_rfl) (by kernel_rfl)⟩
   ·replace hb53 := of_decide_eq_false (hb53)
    refine X.exit ?_
    refine X.seq ?_
    have hE2 := fm_end (by omega) hq2
    refine X.rk ⟨[(1, .pt 64 0 0), (3, rV 848), (8, iV 0)], [(64, some (.box (cD (d49 bk)))), (848, some (.row 1 5 (Lv3.map dB) false true))], 976⟩ hτ hmix (by kernel_rfl) (by kernel_rfl) rfl ?_
    -- join: v8 : Int
    refine X.seqJ (σ := { g : Int // (fun (v8 : Int) => v8 = bit bk.f7 ∧ True) g }) (fun g => (fun (v8 : Int) => ⟨[(1, .pt 64 0 0), (3, rV 848), (8, iV v8)], [(64, some (.box (cD (d49 bk)))), (848, some (.row 1 5 (Lv3.map dB) false true))], 1024⟩) g.1) ?_ (fun g => ?_)
    ·refine X.seq ?_
     refine X.rk ⟨[(1, .pt 64 0 0), (3, rV 848), (8, iV 0), (74, bV bk.f7)], [(64, some (.box (cD (d49 bk)))), (848, some (.row 1 5 (Lv3.map dB) false true))], 1008⟩ hτ hmix (by kernel_rfl) (by kernel_rfl) rfl ?_
     refine X.if_ (b := bk.f7) (by kernel_rfl) (fun hb60 => ?_) (fun hb60 => ?_)
     ·refine X.rk ⟨[(1, .pt 64 0 0), (3, rV 848), (8, iV 1)], [(64, some (.box (cD (d49 bk)))), (848, some (.row 1 5 (Lv3.map dB) false true))], 1024⟩ hτ hmix (by kernel_rfl) (by kernel_rfl) rfl ?_
      refine ⟨⟨1, ⟨by unfold bit; first | rw [if_pos ‹_›] | rw [if_neg (by simp [*])], trivial⟩⟩, Wk.mk' [(64, 64), (848, 848)] (by kernel_rfl) (by kernel_rfl) (by kernel_rfl)⟩
     ·refine X.skip ?_
      refine ⟨⟨0, ⟨by unfold bit; first | rw [if_pos ‹_›] | rw [if_neg (by simp [*])], trivial⟩⟩, Wk.mk' [(64, 64), (848, 848)] (by kernel_rfl) (by kernel_rfl) (by kernel_rfl)⟩
    ·obtain ⟨v8, hg59⟩ := g
     have hg59 : v8 = bit bk.f7 ∧ True := hg59
     obtain ⟨hbit, _⟩ := hg59
     refine X.seq ?_
     refine X.rs 2 hτ hmix (by kernel_rfl) ?_
     obtain ⟨r61, hr63, hf62⟩ := i_putNum Lv3 v8 (by first | omega | (simp only [List.length_append]; omega))
     replace hr63 := hr63.symm; subst hr63
     have hnb := (numB_len v8).1
     refine CH.call hf62 Try.func125 ⟨rfl, rfl⟩ [(848, 0)] (by kernel_rfl) (by kernel_rfl) (by kernel_rfl) (by kernel_rfl) ?_
     refine CH.go 3 hτ (by kernel_rfl) ?_
     have el65 : (bk.f8.map d107).length = bk.f8.length := List.length_map ..
     obtain ⟨r66, hr68, hf67⟩ := i_putNum (Lv3 ++ numB v8) ((bk.f8.map d107).length : Int) (by first | omega | (simp only [List.length_append]; omega))
     replace hr68 := hr68.symm; subst hr68
     have hnb := (numB_len ((bk.f8.map d107).length : Int)).1
     refine CH.call hf67 Try.func125 ⟨rfl, rfl⟩ [(1056, 0)] (by kernel_rfl) (by kernel_rfl) (by kernel_rfl) (by kernel_rfl) ?_
     refine CH.go 1 hτ (by kernel_rfl) ?_
     refine CH.endk ⟨[(1, .pt 64 0 0), (3, rV 1120)], [(64, some (.box (cD (d49 bk)))), (1120, some (.row 1 5 (((Lv3 ++ numB v8) ++ numB ((bk.f8.map d107).length : Int)).map dB) false true))], 1152⟩ (by kernel_rfl) (by kernel_rfl) rfl ?_
     refine X.seq ?_
     refine X.seq ?_
     refine X.rk ⟨[(1, .pt 64 0 0), (3, rV 1120), (83, lV (bk.f8.map d107)), (84, iV ((bk.f8.map d107).length : Int)), (85, iV 0)], [(64, some (.box (cD (d49 bk)))), (1120, some (.row 1 5 (((Lv3 ++ numB v8) ++ numB ((bk.f8.map d107).length : Int)).map dB) false true))], 1216⟩ hτ hmix (by kernel_rfl) (by kernel_rfl) rfl ?_
     refine X.block ?_
     -- 20: Lv3 : List Int, v85 : Int
     refine X.loop (σ := { g : (List Int) × Int // (fun (Lv3 : List Int) (v85 : Int) => 0 ≤ v85 ∧ v85 ≤ bk.f8.length ∧ Lv3.length ≤ 18000000000000 + 2000010 * v85.toNat ∧ Lv3 = preB3 bk ++ (bk.f8.take v85.toNat).flatMap encV) g.1 g.2 }) (fun g => (fun (Lv3 : List Int) (v85 : Int) => ⟨[(1, .pt 64 0 0), (3, rV 1120), (83, lV (bk.f8.map d107)), (84, iV ((bk.f8.map d107).length : Int)), (85, iV v85)], [(64, some (.box (cD (d49 bk)))), (1120, some (.row 1 5 (Lv3.map dB) false true))], 1216⟩) g.1.1 g.1.2) (fun g => (fun (Lv3 : List Int) (v85 : Int) => (bk.f8.length - v85).toNat) g.1.1 g.1.2) ⟨(((Lv3 ++ numB v8) ++ numB ((bk.f8.map d107).length : Int)), 0), ⟨by first | omega | (dsimp only; omega), by first | omega | (dsimp only; omega), by simp only [List.length_append, List.length_nil]; (first | omega | (dsimp only; omega)), (by rw [hbit, hE2]; (try simp only [List.length_map]); exact (List.append_nil _).symm)⟩⟩ (Wk.less (by kernel_rfl)) (fun g => ?_)
     obtain ⟨⟨Lv3, v85⟩, hg71⟩ := g
     have hg71 : 0 ≤ v85 ∧ v85 ≤ bk.f8.length ∧ Lv3.length ≤ 18000000000000 + 2000010 * v85.toNat ∧ Lv3 = preB3 bk ++ (bk.f8.take v85.toNat).flatMap encV := hg71
     obtain ⟨_, _, _, hq2⟩ := hg71
     refine X.seq ?_
     refine X.rk ⟨[(1, .pt 64 0 0), (3, rV 1120), (83, lV (bk.f8.map d107)), (84, iV ((bk.f8.map d107).length : Int)), (85, iV v85), (86, bV (decide ((v85 : Int) < ((bk.f8.map d107).length : Int))))], [(64, some (.box (cD (d49 bk)))), (1120, some (.row 1 5 (Lv3.map dB) false true))], 1232⟩ hτ hmix (by kernel_rfl) (by kernel_rfl) rfl ?_
     refine X.seq ?_
     refine X.if_ (b := decide ((v85 : Int) < ((bk.f8.map d107).length : Int))) (by kernel_rfl) (fun hb72 => ?_) (fun hb72 => ?_)
     ·replace hb72 := of_decide_eq_true (hb72)
      refine X.skip ?_
      refine X.seq ?_
      refine X.block ?_
      refine X.seq ?_
      refine X.rs 0 hτ hmix (by kernel_rfl) ?_
      obtain ⟨x73, hx73⟩ : ∃ x, bk.f8[Int.toNat v85]? = some x := ⟨_, List.getElem?_eq_getElem (by first | omega | (simp; done) | (simp; omega))⟩
      have hxv : Sm107 _ := all_at hbv.2 hx73; have hxv2 : _ ≤ 2000000 := hxv
      refine CH.idx hτ (d107 x73) (rows := (bk.f8.map d107)) (n := v85) (sz := 2) (by kernel_rfl) (by kernel_rfl) (by first | omega | (simp; done) | (simp; omega)) (by rw [List.getElem?_map, hx73]; rfl) (by kernel_rfl) ?_
      refine CH.go 3 hτ (by kernel_rfl) ?_
      refine CH.endk ⟨[(1, .pt 64 0 0), (3, rV 1120), (10, .pt 1264 0 0), (83, lV (bk.f8.map d107)), (84, iV ((bk.f8.map d107).length : Int)), (85, iV v85)], [(64, some (.box (cD (d49 bk)))), (1120, some (.row 1 5 (Lv3.map dB) false true)), (1264, some (.box [.d (.v (.string x73.f0)), .d (.v (.int .i64 x73.f1))]))], 1296⟩ (by kernel_rfl) (by kernel_rfl) rfl ?_
      refine X.rs 3 hτ hmix (by kernel_rfl) ?_
      obtain ⟨r74, hr76, hf75⟩ := i_putText Lv3 x73.f0 (by first | omega | (simp only [List.length_append]; omega)) (by assumption)
      replace hr76 := hr76.symm; subst hr76
      have htl := textB_len x73.f0
      refine CH.call hf75 Try.func126 ⟨rfl, rfl⟩ [(1120, 0)] (by kernel_rfl) (by kernel_rfl) (by kernel_rfl) (by kernel_rfl) ?_
      refine CH.go 2 hτ (by kernel_rfl) ?_
      obtain ⟨r78, hr80, hf79⟩ := i_putNum (Lv3 ++ textB x73.f0) x73.f1 (by first | omega | (simp only [List.length_append]; omega))
      replace hr80 := hr80.symm; subst hr80
      have hnb := (numB_len x73.f1).1
      refine CH.call hf79 Try.func125 ⟨rfl, rfl⟩ [(1344, 0)] (by kernel_rfl) (by kernel_rfl) (by kernel_rfl) (by kernel_rfl) ?_
      refine CH.go 1 hτ (by kernel_rfl) ?_
      refine CH.endk ⟨[(1, .pt 64 0 0), (3, rV 1392), (83, lV (bk.f8.map d107)), (84, iV ((bk.f8.map d107).length : Int)), (85, iV v85)], [(64, some (.box (cD (d49 bk)))), (1392, some (.row 1 5 (((Lv3 ++ textB x73.f0) ++ numB x73.f1).map dB) false true))], 1424⟩ (by kernel_rfl) (by kernel_rfl) rfl ?_
      refine X.rk ⟨[(1, .pt 64 0 0), (3, rV 1392), (83, lV (bk.f8.map d107)), (84, iV ((bk.f8.map d107).length : Int)), (85, iV (wrap64 (v85 + 1)))], [(64, some (.box (cD (d49 bk)))), (1392, some (.row 1 5 (((Lv3 ++ textB x73.f0) ++ numB x73.f1).map dB) false true))], 1456⟩ hτ hmix (by kernel_rfl) (by kernel_rfl) (s2 := ⟨[(1, .pt 64 0 0), (3, rV 1392), (83, lV (bk.f8.map d107)), (84, iV ((bk.f8.map d107).length : Int)), (85, iV (v85 + 1))], [(64, some (.box (cD (d49 bk)))), (1392, some (.row 1 5 (((Lv3 ++ textB x73.f0) ++ numB x73.f1).map dB) false true))], 1456⟩) (congrArg (fun z : Int => (⟨[(1, .pt 64 0 0), (3, rV 1392), (83, lV (bk.f8.map d107)), (84, iV ((bk.f8.map d107).length : Int)), (85, iV z)], [(64, some (.box (cD (d49 bk)))), (1392, some (.row 1 5 (((Lv3 ++ textB x73.f0) ++ numB x73.f1).map dB) false true))], 1456⟩ : St)) (show wrap64 (v85 + 1) = (v85 + 1) by rw [w64 (n := (v85 + 1)) (by omega) (by omega)])) ?_
      refine ⟨⟨(((Lv3 ++ textB x73.f0) ++ numB x73.f1), (v85 + 1)), ⟨by first | omega | (dsimp only; omega), by first | omega | (dsimp only; omega), by simp only [List.length_append]; omega, by rw [List.append_assoc]; exact fm_next (f := encV) (by first | omega | (dsimp only; omega)) ‹_› hq2⟩⟩, by first | exact rfl | omega | (dsimp only; omega) | (simp only [List.length_append, List.length_cons, List.length_nil, List.length_set]; omega) | (simp; done) | (simp; omega), Wk.mk' [(64, 64), (1120, 1392)] (by kernel_rfl) (by kernel_rfl) (by kernel_rfl)⟩
     ·replace hb72 := of_decide_eq_false (hb72)
      refine X.exit ?_
      refine X.seq ?_
      have hE3 := fm_end (by omega) hq2
      refine X.rs 3 hτ hmix (by kernel_rfl) ?_
      obtain ⟨r82, hr84, hf83⟩ := i_putText Lv3 bk.f9 (by first | omega | (simp only [List.length_append]; omega)) (by assumption)
      replace hr84 := hr84.symm; subst hr84
      have htl := textB_len bk.f9
      refine CH.call hf83 Try.func126 ⟨rfl, rfl⟩ [(1120, 0)] (by kernel_rfl) (by kernel_rfl) (by kernel_rfl) (by kernel_rfl) ?_
      refine CH.go 1 hτ (by kernel_rfl) ?_
      refine CH.endk ⟨[(2, rV 1280)], [(1280, some (.row 1 5 ((Lv3 ++ textB bk.f9).map dB) false true))], 1312⟩ (by kernel_rfl) (by kernel_rfl) rfl ?_
      refine X.ret ?_
      exact ⟨trivial, _, _, ⟨(Lv3 ++ textB bk.f9), (by rw [hE3]; rfl), rfl, rfl⟩, .inl (Ret.mk' [(64, 1280)] (by kernel_rfl) (by kernel_rfl) (by kernel_rfl))⟩
 obtain ⟨_, _, ⟨r0, h1_, rfl, rfl⟩, hf⟩ := key
 exact ⟨r0, h1_, hf⟩

theorem i_GetNum (l : List Int) (a : Int) (hl : l.length ≤ 2000000) : ∃ r0 : Int, ∃ r1 : Int, ∃ r2 : Bool, ((-1000000000 ≤ r0 ∧ r0 ≤ 1000000000 ∧ 0 ≤ r1 ∧ r1 ≤ l.length) ∧ (r2 = true → 0 ≤ a ∧ a < r1 ∧ r1 ≤ l.length) ∧ gnR l a r0 r1 r2) ∧ Fn Try.prog 181 [lV (l.map dB), iV a] (lookH []) (.tup [.c (.d (.v (.int .i64 r0))), .c (.d (.v (.int .i64 r1))), .c (.d (.v (.bool r2)))]) (lookH []) := by
 have key : ∃ x' h', ((fun x' h' => ∃ r0 : Int, ∃ r1 : Int, ∃ r2 : Bool, ((-1000000000 ≤ r0 ∧ r0 ≤ 1000000000 ∧ 0 ≤ r1 ∧ r1 ≤ l.length) ∧ (r2 = true → 0 ≤ a ∧ a < r1 ∧ r1 ≤ l.length) ∧ gnR l a r0 r1 r2) ∧ x' = .tup [.c (.d (.v (.int .i64 r0))), .c (.d (.v (.int .i64 r1))), .c (.d (.v (.bool r2)))] ∧ h' = [])) x' h' ∧ Fn Try.prog 181 [lV (l.map dB), iV a] (lookH []) x' (lookH h') := by
  refine Fn.bodyX (N := 66) hτ Try.func181 rfl rfl rfl rfl ?_
  refine X.seq ?_
  refine X.rk ⟨[(0, lV (l.map dB)), (1, iV a)], [], 112⟩ hτ hmix (by kernel_rfl) (by kernel_rfl) rfl ?_
  refine X.seq ?_
  refine X.seq ?_
  have hw1 := w64 (n := ((l.map dB).length : Int) - 1) (by simp only [List.length_map]; omega) (by simp only [List.length_map]; omega)
  have hlm : (l.map dB).length = l.length := List.length_map ..
  have el1 : (l.map dB).length = l.length := List.length_map ..
  refine X.rs 4 hτ hmix (by kernel_rfl) ?_
  obtain ⟨r2, hr4, hf3⟩ := i_inRange a 0 (wrap64 (((l.map dB).length : Int) - 1))
  replace hr4 := hr4.symm; subst hr4
  refine CH.call hf3 Try.func72 ⟨rfl, rfl⟩ [] (by kernel_rfl) (by kernel_rfl) (by kernel_rfl) (by kernel_rfl) ?_
  refine CH.go 1 hτ (by kernel_rfl) ?_
  refine CH.endk ⟨[(0, lV (l.map dB)), (1, iV a), (16, bV (!(inR a 0 (wrap64 (((l.map dB).length : Int) - 1)))))], [], 208⟩ (by kernel_rfl) (by kernel_rfl) (s2 := ⟨[(0, lV (l.map dB)), (1, iV a), (16, bV (!(inR a 0 ((((l.map dB).length : Int) - 1)))))], [], 208⟩) (congrArg (fun z : Bool => (⟨[(0, lV (l.map dB)), (1, iV a), (16, bV z)], [], 208⟩ : St)) (show (!(inR a 0 (wrap64 (((l.map dB).length : Int) - 1)))) = (!(inR a 0 ((((l.map dB).length : Int) - 1)))) by rw [w64 (n := (((l.map dB).length : Int) - 1)) (by omega) (by omega)])) ?_
  refine X.if_ (b := !(inR a 0 ((((l.map dB).length : Int) - 1)))) (by kernel_rfl) (fun hb6 => ?_) (fun hb6 => ?_)
  ·replace hb6 := inR_no (bnot_yes (hb6))
   refine X.seq ?_
   refine X.rk ⟨[(4, iV 0), (5, iV 0), (6, bV false)], [], 256⟩ hτ hmix (by kernel_rfl) (by kernel_rfl) rfl ?_
   refine X.ret ?_
   exact ⟨trivial, _, _, ⟨0, 0, false, (by first | exact ⟨by omega, (fun h => by cases h), gnR_no (gn_out (by omega))⟩ | exact ⟨by omega, (fun h => by cases h), gnR_no (gn_out2 hA (by omega) (by omega) (by omega) (by omega))⟩ | exact ⟨by omega, (fun h => by cases h), gnR_bad (v := Int.tdiv (0 - (n1 + 1)) 2) hlast (by omega) (by omega)⟩ | exact ⟨by omega, (fun h => by cases h), gnR_bad (v := Int.tdiv n1 2) hlast (by omega) (by omega)⟩ | exact ⟨by omega, fun _ => ⟨by omega, by omega, by omega⟩, gnR_yes hlast (by omega)⟩), rfl, rfl⟩, .inl (Ret.mk' [] (by kernel_rfl) (by kernel_rfl) (by kernel_rfl))⟩
  ·replace hb6 := inR_yes (bnot_no (hb6))
   refine X.skip ?_
   refine X.seq ?_
   refine X.rk ⟨[(0, lV (l.map dB)), (1, iV a), (7, iV 0)], [], 224⟩ hτ hmix (by kernel_rfl) (by kernel_rfl) rfl ?_
   refine X.seq ?_
   refine X.seq ?_
   refine X.rk ⟨[(0, lV (l.map dB)), (1, iV a), (7, iV 0), (8, iV 0)], [], 240⟩ hτ hmix (by kernel_rfl) (by kernel_rfl) rfl ?_
   refine X.block ?_
   -- 5: v1 : Int, v7 : Int, v8 : Int
   refine X.loop (σ := { g : Int × Int × Int // (fun (v1 : Int) (v7 : Int) (v8 : Int) => 0 ≤ v8 ∧ v8 ≤ 5 ∧ 0 ≤ a ∧ a ≤ v1 ∧ v1 ≤ l.length ∧ v8 ≤ v1 - a ∧ gnI l a v1 v8 v7) g.1 g.2.1 g.2.2 }) (fun g => (fun (v1 : Int) (v7 : Int) (v8 : Int) => ⟨[(0, lV (l.map dB)), (1, iV v1), (7, iV v7), (8, iV v8)], [], 240⟩) g.1.1 g.1.2.1 g.1.2.2) (fun g => (fun (v1 : Int) (v7 : Int) (v8 : Int) => (5 - v8).toNat) g.1.1 g.1.2.1 g.1.2.2) ⟨(a, 0, 0), ⟨by first | omega | (dsimp only; omega), by first | omega | (dsimp only; omega), by first | omega | (dsimp only; omega), by first | omega | (dsimp only; omega), by first | omega | (dsimp only; omega), by first | omega | (dsimp only; omega), gn_zero⟩⟩ (Wk.less (by kernel_rfl)) (fun g => ?_)
   obtain ⟨⟨v1, v7, v8⟩, hg8⟩ := g
   have hg8 : 0 ≤ v8 ∧ v8 ≤ 5 ∧ 0 ≤ a ∧ a ≤ v1 ∧ v1 ≤ l.length ∧ v8 ≤ v1 - a ∧ gnI l a v1 v8 v7 := hg8
   obtain ⟨_, _, _, _, _, _, hA⟩ := hg8
   refine X.seq ?_
   refine X.seq ?_
   refine X.rs 3 hτ hmix (by kernel_rfl) ?_
   rcases Bool.eq_false_or_eq_true (decide ((v8 : Int) < 5)) with hb9 | hb9
   ·refine CH.alt 18 (sV (.bool (decide ((v8 : Int) < 5)))) (sV (.bool true)) (by kernel_rfl) (by rw [hb9]) ?_
    refine CH.alt 19 (sV (.bool (decide ((v8 : Int) < 5)))) (sV (.bool true)) (by kernel_rfl) (by rw [hb9]) ?_
    replace hb9 := of_decide_eq_true (hb9)
    refine CH.go 5 hτ (by kernel_rfl) ?_
    refine CH.endk ⟨[(0, lV (l.map dB)), (1, iV v1), (7, iV v7), (8, iV v8), (24, bV (decide ((v1 : Int) < ((l.map dB).length : Int))))], [], 368⟩ (by kernel_rfl) (by kernel_rfl) rfl ?_
    refine X.if_ (b := decide ((v1 : Int) < ((l.map dB).length : Int))) (by kernel_rfl) (fun hb10 => ?_) (fun hb10 => ?_)
    ·replace hb10 := of_decide_eq_true (hb10)
     refine X.skip ?_
     refine X.seq ?_
     refine X.block ?_
     refine X.seq ?_
     refine X.rs 2 hτ hmix (by kernel_rfl) ?_
     obtain ⟨x11, hx11⟩ : ∃ x, l[Int.toNat v1]? = some x := ⟨_, List.getElem?_eq_getElem (by first | omega | (simp; done) | (simp; omega))⟩
     refine CH.idx hτ (dB x11) (rows := (l.map dB)) (n := v1) (sz := 1) (by kernel_rfl) (by kernel_rfl) (by first | omega | (simp; done) | (simp; omega)) (by rw [List.getElem?_map, hx11]; rfl) (by kernel_rfl) ?_
     refine CH.go 3 hτ (by kernel_rfl) ?_
     refine CH.endk ⟨[(0, lV (l.map dB)), (1, iV v1), (7, iV v7), (8, iV v8), (9, iV (wr .i64 (x11)))], [], 464⟩ (by kernel_rfl) (by kernel_rfl) rfl ?_
     refine X.seq ?_
     refine X.rk ⟨[(0, lV (l.map dB)), (1, iV (wrap64 (v1 + 1))), (7, iV v7), (8, iV v8), (9, iV (wr .i64 (x11)))], [], 512⟩ hτ hmix (by kernel_rfl) (by kernel_rfl) (s2 := ⟨[(0, lV (l.map dB)), (1, iV (v1 + 1)), (7, iV v7), (8, iV v8), (9, iV (wr .i64 (x11)))], [], 512⟩) (congrArg (fun z : Int => (⟨[(0, lV (l.map dB)), (1, iV z), (7, iV v7), (8, iV v8), (9, iV (wr .i64 (x11)))], [], 512⟩ : St)) (show wrap64 (v1 + 1) = (v1 + 1) by rw [w64 (n := (v1 + 1)) (by omega) (by omega)])) ?_
     refine X.seq ?_
     have fa12 := and_le (wr .i64 (x11)) 127 7 rfl (by decide)
     refine X.rs 6 hτ hmix (by kernel_rfl) ?_
     obtain ⟨m13, hm13⟩ := ofN0 (n := wr .u64 (wrap64 (7 * v8))) (by first | exact u64_nn _ | omega)
     refine CH.alt 39 (sV (.int .u64 (wr .u64 (wrap64 (7 * v8))))) (sV (.int .u64 (Int.ofNat m13))) (by kernel_rfl) (by rw [hm13]) ?_
     refine CH.go 3 hτ (by kernel_rfl) ?_
     refine CH.endk ⟨[(0, lV (l.map dB)), (1, iV (v1 + 1)), (7, iV (wr .i64 ((BitVec.ofInt 64 v7 ||| BitVec.ofInt 64 (wr .i64 ((wr .i64 ((BitVec.ofInt 64 (wr .i64 (x11)) &&& BitVec.ofInt 64 127).toNat)) * 2 ^ min (Int.toNat (Int.ofNat m13)) 64))).toNat))), (8, iV v8), (9, iV (wr .i64 (x11)))], [], 656⟩ (by kernel_rfl) (by kernel_rfl) rfl ?_
     refine X.gen (fun n14 : Int => ⟨[(0, lV (l.map dB)), (1, iV (v1 + 1)), (7, iV n14), (8, iV v8), (9, iV (wr .i64 (x11)))], [], 656⟩) (wr .i64 ((BitVec.ofInt 64 v7 ||| BitVec.ofInt 64 (wr .i64 ((wr .i64 ((BitVec.ofInt 64 (wr .i64 (x11)) &&& BitVec.ofInt 64 127).toNat)) * 2 ^ min (Int.toNat (Int.ofNat m13)) 64))).toNat)) (fun n14 hn14 => ?_)
     obtain ⟨hor, hor2, hor3⟩ := gn_val hn14 hm13 hA.1 (by omega) (by omega)
     clear hn14
     refine X.seq ?_
     refine X.seq ?_
     refine X.rk ⟨[(0, lV (l.map dB)), (1, iV (v1 + 1)), (7, iV n14), (8, iV v8), (9, iV (wr .i64 (x11))), (43, bV (decide ((wr .i64 (x11) : Int) ≥ 128)))], [], 688⟩ hτ hmix (by kernel_rfl) (by kernel_rfl) rfl ?_
     refine X.if_ (b := decide ((wr .i64 (x11) : Int) ≥ 128)) (by kernel_rfl) (fun hb15 => ?_) (fun hb15 => ?_)
     ·replace hb15 := of_decide_eq_true (hb15)
      refine X.exit ?_
      refine X.rk ⟨[(0, lV (l.map dB)), (1, iV (v1 + 1)), (7, iV n14), (8, iV (wrap64 (v8 + 1)))], [], 736⟩ hτ hmix (by kernel_rfl) (by kernel_rfl) (s2 := ⟨[(0, lV (l.map dB)), (1, iV (v1 + 1)), (7, iV n14), (8, iV (v8 + 1))], [], 736⟩) (congrArg (fun z : Int => (⟨[(0, lV (l.map dB)), (1, iV (v1 + 1)), (7, iV n14), (8, iV z)], [], 736⟩ : St)) (show wrap64 (v8 + 1) = (v8 + 1) by rw [w64 (n := (v8 + 1)) (by omega) (by omega)])) ?_
      refine ⟨⟨((v1 + 1), n14, (v8 + 1)), ⟨by first | omega | (dsimp only; omega), by first | omega | (dsimp only; omega), by first | omega | (dsimp only; omega), by first | omega | (dsimp only; omega), by first | omega | (dsimp only; omega), by first | omega | (dsimp only; omega), gn_step hA hor (by first | omega | (dsimp only; omega)) (by first | omega | (dsimp only; omega)) ‹_› (by first | omega | (dsimp only; omega))⟩⟩, by first | exact rfl | omega | (dsimp only; omega) | (simp only [List.length_append, List.length_cons, List.length_nil, List.length_set]; omega) | (simp; done) | (simp; omega), Wk.mk' [] (by kernel_rfl) (by kernel_rfl) (by kernel_rfl)⟩
     ·replace hb15 := of_decide_eq_false (hb15)
      refine X.skip ?_
      refine X.seq ?_
      have hlast := gn_last hA hor (by omega) ‹_› (by omega)
      have hq2 := Int.tdiv_eq_ediv_of_nonneg (a := n14) (b := 2) (by omega)
      have ft16 := tdiv_le n14 2 (by first | omega | (simp; done) | (simp; omega)) (by omega)
      refine X.rk ⟨[(1, iV (v1 + 1)), (7, iV n14), (8, iV v8), (9, iV (wr .i64 (x11))), (10, iV (wrap64 (Int.tdiv n14 2)))], [], 736⟩ hτ hmix (by kernel_rfl) (by kernel_rfl) (s2 := ⟨[(1, iV (v1 + 1)), (7, iV n14), (8, iV v8), (9, iV (wr .i64 (x11))), (10, iV (Int.tdiv n14 2))], [], 736⟩) (congrArg (fun z : Int => (⟨[(1, iV (v1 + 1)), (7, iV n14), (8, iV v8), (9, iV (wr .i64 (x11))), (10, iV z)], [], 736⟩ : St)) (show wrap64 (Int.tdiv n14 2) = (Int.tdiv n14 2) by rw [w64 (n := (Int.tdiv n14 2)) (by omega) (by omega)])) ?_
      refine X.seq ?_
      refine X.seq ?_
      have hq3 := Int.tmod_eq_emod_of_nonneg (a := n14) (b := 2) (by omega)
      have ft17 := tmod_lt n14 2 (by first | omega | (simp; done) | (simp; omega)) (by omega)
      have fe18 := Int.tmod_eq_emod_of_nonneg (a := n14) (b := 2) (by first | omega | (simp; done) | (simp; omega))
      refine X.rk ⟨[(1, iV (v1 + 1)), (7, iV n14), (8, iV v8), (9, iV (wr .i64 (x11))), (10, iV (Int.tdiv n14 2)), (48, bV ((Int.tmod n14 2) == 1))], [], 784⟩ hτ hmix (by kernel_rfl) (by kernel_rfl) rfl ?_
      refine X.if_ (b := ((Int.tmod n14 2) == 1)) (by kernel_rfl) (fun hb19 => ?_) (fun hb19 => ?_)
      ·replace hb19 := eq_of_beq (hb19)
       have htn := tdivn2 (n := n14) (by omega)
       refine X.rk ⟨[(1, iV (v1 + 1)), (8, iV v8), (9, iV (wr .i64 (x11))), (10, iV (wrap64 (Int.tdiv (wrap64 (0 - (wrap64 (n14 + 1)))) 2)))], [], 864⟩ hτ hmix (by kernel_rfl) (by kernel_rfl) (s2 := ⟨[(1, iV (v1 + 1)), (8, iV v8), (9, iV (wr .i64 (x11))), (10, iV (Int.tdiv ((0 - ((n14 + 1)))) 2))], [], 864⟩) (congrArg (fun z : Int => (⟨[(1, iV (v1 + 1)), (8, iV v8), (9, iV (wr .i64 (x11))), (10, iV z)], [], 864⟩ : St)) (show wrap64 (Int.tdiv (wrap64 (0 - (wrap64 (n14 + 1)))) 2) = (Int.tdiv ((0 - ((n14 + 1)))) 2) by rw [w64 (n := (n14 + 1)) (by omega) (by omega), w64 (n := (0 - ((n14 + 1)))) (by omega) (by omega), w64 (n := (Int.tdiv ((0 - ((n14 + 1)))) 2)) (by omega) (by omega)])) ?_
       refine X.seq ?_
       refine X.seq ?_
       refine X.rs 3 hτ hmix (by kernel_rfl) ?_
       rcases Bool.eq_false_or_eq_true (((wr .i64 (x11)) == 0)) with hb20 | hb20
       ·refine CH.alt 54 (sV (.bool (((wr .i64 (x11)) == 0)))) (sV (.bool true)) (by kernel_rfl) (by rw [hb20]) ?_
        refine CH.alt 55 (sV (.bool (((wr .i64 (x11)) == 0)))) (sV (.bool true)) (by kernel_rfl) (by rw [hb20]) ?_
        replace hb20 := eq_of_beq (hb20)
        refine CH.go 4 hτ (by kernel_rfl) ?_
        rcases Bool.eq_false_or_eq_true (decide ((v8 : Int) > 0)) with hb21 | hb21
        ·refine CH.alt 57 (sV (.bool (decide ((v8 : Int) > 0)))) (sV (.bool true)) (by kernel_rfl) (by rw [hb21]) ?_
         refine CH.alt 58 (sV (.bool (decide ((v8 : Int) > 0)))) (sV (.bool true)) (by kernel_rfl) (by rw [hb21]) ?_
         refine CH.alt 59 (sV (.bool (decide ((v8 : Int) > 0)))) (sV (.bool true)) (by kernel_rfl) (by rw [hb21]) ?_
         replace hb21 := of_decide_eq_true (hb21)
         refine CH.go 4 hτ (by kernel_rfl) ?_
         refine CH.endk ⟨[(1, iV (v1 + 1)), (10, iV (Int.tdiv ((0 - ((n14 + 1)))) 2)), (63, bV true)], [], 1040⟩ (by kernel_rfl) (by kernel_rfl) rfl ?_
         refine X.ifT (by kernel_rfl) ?_
         refine X.seq ?_
         refine X.rk ⟨[(4, iV 0), (5, iV 0), (6, bV false)], [], 1088⟩ hτ hmix (by kernel_rfl) (by kernel_rfl) rfl ?_
         refine X.ret ?_
         exact ⟨trivial, _, _, ⟨0, 0, false, (by first | exact ⟨by omega, (fun h => by cases h), gnR_no (gn_out (by omega))⟩ | exact ⟨by omega, (fun h => by cases h), gnR_no (gn_out2 hA (by omega) (by omega) (by omega) (by omega))⟩ | exact ⟨by omega, (fun h => by cases h), gnR_bad (v := Int.tdiv (0 - (n14 + 1)) 2) hlast (by omega) (by omega)⟩ | exact ⟨by omega, (fun h => by cases h), gnR_bad (v := Int.tdiv n14 2) hlast (by omega) (by omega)⟩ | exact ⟨by omega, fun _ => ⟨by omega, by omega, by omega⟩, gnR_yes hlast (by omega)⟩), rfl, rfl⟩, .inl (Ret.mk' [] (by kernel_rfl) (by kernel_rfl) (by kernel_rfl))⟩
        ·refine CH.alt 57 (sV (.bool (decide ((v8 : Int) > 0)))) (sV (.bool false)) (by kernel_rfl) (by rw [hb21]) ?_
         refine CH.alt 58 (sV (.bool (decide ((v8 : Int) > 0)))) (sV (.bool false)) (by kernel_rfl) (by rw [hb21]) ?_
         refine CH.alt 59 (sV (.bool (decide ((v8 : Int) > 0)))) (sV (.bool false)) (by kernel_rfl) (by rw [hb21]) ?_
         replace hb21 := of_decide_eq_false (hb21)
         refine CH.go 1 hτ (by kernel_rfl) ?_
         obtain ⟨r22, hr24, hf23⟩ := i_inRange (Int.tdiv ((0 - ((n14 + 1)))) 2) (-1000000000) 1000000000
         replace hr24 := hr24.symm; subst hr24
         refine CH.call hf23 Try.func72 ⟨rfl, rfl⟩ [] (by kernel_rfl) (by kernel_rfl) (by kernel_rfl) (by kernel_rfl) ?_
         refine CH.go 2 hτ (by kernel_rfl) ?_
         refine CH.endk ⟨[(1, iV (v1 + 1)), (10, iV (Int.tdiv ((0 - ((n14 + 1)))) 2)), (63, bV (!(inR (Int.tdiv ((0 - ((n14 + 1)))) 2) (-1000000000) 1000000000)))], [], 1040⟩ (by kernel_rfl) (by kernel_rfl) rfl ?_
         refine X.if_ (b := !(inR (Int.tdiv ((0 - ((n14 + 1)))) 2) (-1000000000) 1000000000)) (by kernel_rfl) (fun hb26 => ?_) (fun hb26 => ?_)
         ·replace hb26 := inR_no (bnot_yes (hb26))
          refine X.seq ?_
          refine X.rk ⟨[(4, iV 0), (5, iV 0), (6, bV false)], [], 1088⟩ hτ hmix (by kernel_rfl) (by kernel_rfl) rfl ?_
          refine X.ret ?_
          exact ⟨trivial, _, _, ⟨0, 0, false, (by first | exact ⟨by omega, (fun h => by cases h), gnR_no (gn_out (by omega))⟩ | exact ⟨by omega, (fun h => by cases h), gnR_no (gn_out2 hA (by omega) (by omega) (by omega) (by omega))⟩ | exact ⟨by omega, (fun h => by cases h), gnR_bad (v := Int.tdiv (0 - (n14 + 1)) 2) hlast (by omega) (by omega)⟩ | exact ⟨by omega, (fun h => by cases h), gnR_bad (v := Int.tdiv n14 2) hlast (by omega) (by omega)⟩ | exact ⟨by omega, fun _ => ⟨by omega, by omega, by omega⟩, gnR_yes hlast (by omega)⟩), rfl, rfl⟩, .inl (Ret.mk' [] (by kernel_rfl) (by kernel_rfl) (by kernel_rfl))⟩
         ·replace hb26 := inR_yes (bnot_no (hb26))
          refine X.skip ?_
          refine X.seq ?_
          refine X.rk ⟨[(4, iV (Int.tdiv ((0 - ((n14 + 1)))) 2)), (5, iV (v1 + 1)), (6, bV true)], [], 1120⟩ hτ hmix (by kernel_rfl) (by kernel_rfl) rfl ?_
          refine X.ret ?_
          exact ⟨trivial, _, _, ⟨(Int.tdiv ((0 - ((n14 + 1)))) 2), (v1 + 1), true, (by first | exact ⟨by omega, (fun h => by cases h), gnR_no (gn_out (by omega))⟩ | exact ⟨by omega, (fun h => by cases h), gnR_no (gn_out2 hA (by omega) (by omega) (by omega) (by omega))⟩ | exact ⟨by omega, (fun h => by cases h), gnR_bad (v := Int.tdiv (0 - (n14 + 1)) 2) hlast (by omega) (by omega)⟩ | exact ⟨by omega, (fun h => by cases h), gnR_bad (v := Int.tdiv n14 2) hlast (by omega) (by omega)⟩ | exact ⟨by omega, fun _ => ⟨by omega, by omega, by omega⟩, gnR_yes hlast (by omega)⟩), rfl, rfl⟩, .inl (Ret.mk' [] (by kernel_rfl) (by kernel_rfl) (by kernel_rfl))⟩
       ·refine CH.alt 54 (sV (.bool (((wr .i64 (x11)) == 0)))) (sV (.bool false)) (by kernel_rfl) (by rw [hb20]) ?_
        refine CH.alt 55 (sV (.bool (((wr .i64 (x11)) == 0)))) (sV (.bool false)) (by kernel_rfl) (by rw [hb20]) ?_
        replace hb20 := beq_eq_false_iff_ne.1 (hb20)
        refine CH.go 5 hτ (by kernel_rfl) ?_
        obtain ⟨r27, hr29, hf28⟩ := i_inRange (Int.tdiv ((0 - ((n14 + 1)))) 2) (-1000000000) 1000000000
        replace hr29 := hr29.symm; subst hr29
        refine CH.call hf28 Try.func72 ⟨rfl, rfl⟩ [] (by kernel_rfl) (by kernel_rfl) (by kernel_rfl) (by kernel_rfl) ?_
        refine CH.go 2 hτ (by kernel_rfl) ?_
        refine CH.endk ⟨[(1, iV (v1 + 1)), (10, iV (Int.tdiv ((0 - ((n14 + 1)))) 2)), (63, bV (!(inR (Int.tdiv ((0 - ((n14 + 1)))) 2) (-1000000000) 1000000000)))], [], 1040⟩ (by kernel_rfl) (by kernel_rfl) rfl ?_
        refine X.if_ (b := !(inR (Int.tdiv ((0 - ((n14 + 1)))) 2) (-1000000000) 1000000000)) (by kernel_rfl) (fun hb31 => ?_) (fun hb31 => ?_)
        ·replace hb31 := inR_no (bnot_yes (hb31))
         refine X.seq ?_
         refine X.rk ⟨[(4, iV 0), (5, iV 0), (6, bV false)], [], 1088⟩ hτ hmix (by kernel_rfl) (by kernel_rfl) rfl ?_
         refine X.ret ?_
         exact ⟨trivial, _, _, ⟨0, 0, false, (by first | exact ⟨by omega, (fun h => by cases h), gnR_no (gn_out (by omega))⟩ | exact ⟨by omega, (fun h => by cases h), gnR_no (gn_out2 hA (by omega) (by omega) (by omega) (by omega))⟩ | exact ⟨by omega, (fun h => by cases h), gnR_bad (v := Int.tdiv (0 - (n14 + 1)) 2) hlast (by omega) (by omega)⟩ | exact ⟨by omega, (fun h => by cases h), gnR_bad (v := Int.tdiv n14 2) hlast (by omega) (by omega)⟩ | exact ⟨by omega, fun _ => ⟨by omega, by omega, by omega⟩, gnR_yes hlast (by omega)⟩), rfl, rfl⟩, .inl (Ret.mk' [] (by kernel_rfl) (by kernel_rfl) (by kernel_rfl))⟩
        ·replace hb31 := inR_yes (bnot_no (hb31))
         refine X.skip ?_
         refine X.seq ?_
         refine X.rk ⟨[(4, iV (Int.tdiv ((0 - ((n14 + 1)))) 2)), (5, iV (v1 + 1)), (6, bV true)], [], 1120⟩ hτ hmix (by kernel_rfl) (by kernel_rfl) rfl ?_
         refine X.ret ?_
         exact ⟨trivial, _, _, ⟨(Int.tdiv ((0 - ((n14 + 1)))) 2), (v1 + 1), true, (by first | exact ⟨by omega, (fun h => by cases h), gnR_no (gn_out (by omega))⟩ | exact ⟨by omega, (fun h => by cases h), gnR_no (gn_out2 hA (by omega) (by omega) (by omega) (by omega))⟩ | exact ⟨by omega, (fun h => by cases h), gnR_bad (v := Int.tdiv (0 - (n14 + 1)) 2) hlast (by omega) (by omega)⟩ | exact ⟨by omega, (fun h => by cases h), gnR_bad (v := Int.tdiv n14 2) hlast (by omega) (by omega)⟩ | exact ⟨by omega, fun _ => ⟨by omega, by omega, by omega⟩, gnR_yes hlast (by omega)⟩), rfl, rfl⟩, .inl (Ret.mk' [] (by kernel_rfl) (by kernel_rfl) (by kernel_rfl))⟩
      ·replace hb19 := beq_eq_false_iff_ne.1 (hb19)
       refine X.skip ?_
       refine X.seq ?_
       refine X.seq ?_
       refine X.rs 3 hτ hmix (by kernel_rfl) ?_
       rcases Bool.eq_false_or_eq_true (((wr .i64 (x11)) == 0)) with hb32 | hb32
       ·refine CH.alt 54 (sV (.bool (((wr .i64 (x11)) == 0)))) (sV (.bool true)) (by kernel_rfl) (by rw [hb32]) ?_
        refine CH.alt 55 (sV (.bool (((wr .i64 (x11)) == 0)))) (sV (.bool true)) (by kernel_rfl) (by rw [hb32]) ?_
        replace hb32 := eq_of_beq (hb32)
        refine CH.go 4 hτ (by kernel_rfl) ?_
        rcases Bool.eq_false_or_eq_true (decide ((v8 : Int) > 0)) with hb33 | hb33
        ·refine CH.alt 57 (sV (.bool (decide ((v8 : Int) > 0)))) (sV (.bool true)) (by kernel_rfl) (by rw [hb33]) ?_
         refine CH.alt 58 (sV (.bool (decide ((v8 : Int) > 0)))) (sV (.bool true)) (by kernel_rfl) (by rw [hb33]) ?_
         refine CH.alt 59 (sV (.bool (decide ((v8 : Int) > 0)))) (sV (.bool true)) (by kernel_rfl) (by rw [hb33]) ?_
         replace hb33 := of_decide_eq_true (hb33)
         refine CH.go 4 hτ (by kernel_rfl) ?_
         refine CH.endk ⟨[(1, iV (v1 + 1)), (10, iV (Int.tdiv n14 2)), (63, bV true)], [], 960⟩ (by kernel_rfl) (by kernel_rfl) rfl ?_
         refine X.ifT (by kernel_rfl) ?_
         refine X.seq ?_
         refine X.rk ⟨[(4, iV 0), (5, iV 0), (6, bV false)], [], 1008⟩ hτ hmix (by kernel_rfl) (by kernel_rfl) rfl ?_
         refine X.ret ?_
         exact ⟨trivial, _, _, ⟨0, 0, false, (by first | exact ⟨by omega, (fun h => by cases h), gnR_no (gn_out (by omega))⟩ | exact ⟨by omega, (fun h => by cases h), gnR_no (gn_out2 hA (by omega) (by omega) (by omega) (by omega))⟩ | exact ⟨by omega, (fun h => by cases h), gnR_bad (v := Int.tdiv (0 - (n14 + 1)) 2) hlast (by omega) (by omega)⟩ | exact ⟨by omega, (fun h => by cases h), gnR_bad (v := Int.tdiv n14 2) hlast (by omega) (by omega)⟩ | exact ⟨by omega, fun _ => ⟨by omega, by omega, by omega⟩, gnR_yes hlast (by omega)⟩), rfl, rfl⟩, .inl (Ret.mk' [] (by kernel_rfl) (by kernel_rfl) (by kernel_rfl))⟩
        ·refine CH.alt 57 (sV (.bool (decide ((v8 : Int) > 0)))) (sV (.bool false)) (by kernel_rfl) (by rw [hb33]) ?_
         refine CH.alt 58 (sV (.bool (decide ((v8 : Int) > 0)))) (sV (.bool false)) (by kernel_rfl) (by rw [hb33]) ?_
         refine CH.alt 59 (sV (.bool (decide ((v8 : Int) > 0)))) (sV (.bool false)) (by kernel_rfl) (by rw [hb33]) ?_
         replace hb33 := of_decide_eq_false (hb33)
         refine CH.go 1 hτ (by kernel_rfl) ?_
         obtain ⟨r34, hr36, hf35⟩ := i_inRange (Int.tdiv n14 2) (-1000000000) 1000000000
         replace hr36 := hr36.symm; subst hr36
         refine CH.call hf35 Try.func72 ⟨rfl, rfl⟩ [] (by kernel_rfl) (by kernel_rfl) (by kernel_rfl) (by kernel_rfl) ?_
         refine CH.go 2 hτ (by kernel_rfl) ?_
         refine CH.endk ⟨[(1, iV (v1 + 1)), (10, iV (Int.tdiv n14 2)), (63, bV (!(inR (Int.tdiv n14 2) (-1000000000) 1000000000)))], [], 960⟩ (by kernel_rfl) (by kernel_rfl) rfl ?_
         refine X.if_ (b := !(inR (Int.tdiv n14 2) (-1000000000) 1000000000)) (by kernel_rfl) (fun hb38 => ?_) (fun hb38 => ?_)
         ·replace hb38 := inR_no (bnot_yes (hb38))
          refine X.seq ?_
          refine X.rk ⟨[(4, iV 0), (5, iV 0), (6, bV false)], [], 1008⟩ hτ hmix (by kernel_rfl) (by kernel_rfl) rfl ?_
          refine X.ret ?_
          exact ⟨trivial, _, _, ⟨0, 0, false, (by first | exact ⟨by omega, (fun h => by cases h), gnR_no (gn_out (by omega))⟩ | exact ⟨by omega, (fun h => by cases h), gnR_no (gn_out2 hA (by omega) (by omega) (by omega) (by omega))⟩ | exact ⟨by omega, (fun h => by cases h), gnR_bad (v := Int.tdiv (0 - (n14 + 1)) 2) hlast (by omega) (by omega)⟩ | exact ⟨by omega, (fun h => by cases h), gnR_bad (v := Int.tdiv n14 2) hlast (by omega) (by omega)⟩ | exact ⟨by omega, fun _ => ⟨by omega, by omega, by omega⟩, gnR_yes hlast (by omega)⟩), rfl, rfl⟩, .inl (Ret.mk' [] (by kernel_rfl) (by kernel_rfl) (by kernel_rfl))⟩
         ·replace hb38 := inR_yes (bnot_no (hb38))
          refine X.skip ?_
          refine X.seq ?_
          refine X.rk ⟨[(4, iV (Int.tdiv n14 2)), (5, iV (v1 + 1)), (6, bV true)], [], 1040⟩ hτ hmix (by kernel_rfl) (by kernel_rfl) rfl ?_
          refine X.ret ?_
          exact ⟨trivial, _, _, ⟨(Int.tdiv n14 2), (v1 + 1), true, (by first | exact ⟨by omega, (fun h => by cases h), gnR_no (gn_out (by omega))⟩ | exact ⟨by omega, (fun h => by cases h), gnR_no (gn_out2 hA (by omega) (by omega) (by omega) (by omega))⟩ | exact ⟨by omega, (fun h => by cases h), gnR_bad (v := Int.tdiv (0 - (n14 + 1)) 2) hlast (by omega) (by omega)⟩ | exact ⟨by omega, (fun h => by cases h), gnR_bad (v := Int.tdiv n14 2) hlast (by omega) (by omega)⟩ | exact ⟨by omega, fun _ => ⟨by omega, by omega, by omega⟩, gnR_yes hlast (by omega)⟩), rfl, rfl⟩, .inl (Ret.mk' [] (by kernel_rfl) (by kernel_rfl) (by kernel_rfl))⟩
       ·refine CH.alt 54 (sV (.bool (((wr .i64 (x11)) == 0)))) (sV (.bool false)) (by kernel_rfl) (by rw [hb32]) ?_
        refine CH.alt 55 (sV (.bool (((wr .i64 (x11)) == 0)))) (sV (.bool false)) (by kernel_rfl) (by rw [hb32]) ?_
        replace hb32 := beq_eq_false_iff_ne.1 (hb32)
        refine CH.go 5 hτ (by kernel_rfl) ?_
        obtain ⟨r39, hr41, hf40⟩ := i_inRange (Int.tdiv n14 2) (-1000000000) 1000000000
        replace hr41 := hr41.symm; subst hr41
        refine CH.call hf40 Try.func72 ⟨rfl, rfl⟩ [] (by kernel_rfl) (by kernel_rfl) (by kernel_rfl) (by kernel_rfl) ?_
        refine CH.go 2 hτ (by kernel_rfl) ?_
        refine CH.endk ⟨[(1, iV (v1 + 1)), (10, iV (Int.tdiv n14 2)), (63, bV (!(inR (Int.tdiv n14 2) (-1000000000) 1000000000)))], [], 960⟩ (by kernel_rfl) (by kernel_rfl) rfl ?_
        refine X.if_ (b := !(inR (Int.tdiv n14 2) (-1000000000) 1000000000)) (by kernel_rfl) (fun hb43 => ?_) (fun hb43 => ?_)
        ·replace hb43 := inR_no (bnot_yes (hb43))
         refine X.seq ?_
         refine X.rk ⟨[(4, iV 0), (5, iV 0), (6, bV false)], [], 1008⟩ hτ hmix (by kernel_rfl) (by kernel_rfl) rfl ?_
         refine X.ret ?_
         exact ⟨trivial, _, _, ⟨0, 0, false, (by first | exact ⟨by omega, (fun h => by cases h), gnR_no (gn_out (by omega))⟩ | exact ⟨by omega, (fun h => by cases h), gnR_no (gn_out2 hA (by omega) (by omega) (by omega) (by omega))⟩ | exact ⟨by omega, (fun h => by cases h), gnR_bad (v := Int.tdiv (0 - (n14 + 1)) 2) hlast (by omega) (by omega)⟩ | exact ⟨by omega, (fun h => by cases h), gnR_bad (v := Int.tdiv n14 2) hlast (by omega) (by omega)⟩ | exact ⟨by omega, fun _ => ⟨by omega, by omega, by omega⟩, gnR_yes hlast (by omega)⟩), rfl, rfl⟩, .inl (Ret.mk' [] (by kernel_rfl) (by kernel_rfl) (by kernel_rfl))⟩
        ·replace hb43 := inR_yes (bnot_no (hb43))
         refine X.skip ?_
         refine X.seq ?_
         refine X.rk ⟨[(4, iV (Int.tdiv n14 2)), (5, iV (v1 + 1)), (6, bV true)], [], 1040⟩ hτ hmix (by kernel_rfl) (by kernel_rfl) rfl ?_
         refine X.ret ?_
         exact ⟨trivial, _, _, ⟨(Int.tdiv n14 2), (v1 + 1), true, (by first | exact ⟨by omega, (fun h => by cases h), gnR_no (gn_out (by omega))⟩ | exact ⟨by omega, (fun h => by cases h), gnR_no (gn_out2 hA (by omega) (by omega) (by omega) (by omega))⟩ | exact ⟨by omega, (fun h => by cases h), gnR_bad (v := Int.tdiv (0 - (n14 + 1)) 2) hlast (by omega) (by omega)⟩ | exact ⟨by omega, (fun h => by cases h), gnR_bad (v := Int.tdiv n14 2) hlast (by omega) (by omega)⟩ | exact ⟨by omega, fun _ => ⟨by omega, by omega, by omega⟩, gnR_yes hlast (by omega)⟩), rfl, rfl⟩, .inl (Ret.mk' [] (by kernel_rfl) (by kernel_rfl) (by kernel_rfl))⟩
    ·replace hb10 := of_decide_eq_false (hb10)
     refine X.exit ?_
     refine X.seq ?_
     refine X.rk ⟨[(4, iV 0), (5, iV 0), (6, bV false)], [], 416⟩ hτ hmix (by kernel_rfl) (by kernel_rfl) rfl ?_
     refine X.ret ?_
     exact ⟨trivial, _, _, ⟨0, 0, false, (by first | exact ⟨by omega, (fun h => by cases h), gnR_no (gn_out (by omega))⟩ | exact ⟨by omega, (fun h => by cases h), gnR_no (gn_out2 hA (by omega) (by omega) (by omega) (by omega))⟩ | exact ⟨by omega, (fun h => by cases h), gnR_bad (v := Int.tdiv (0 - (n14 + 1)) 2) hlast (by omega) (by omega)⟩ | exact ⟨by omega, (fun h => by cases h), gnR_bad (v := Int.tdiv n14 2) hlast (by omega) (by omega)⟩ | exact ⟨by omega, fun _ => ⟨by omega, by omega, by omega⟩, gnR_yes hlast (by omega)⟩), rfl, rfl⟩, .inl (Ret.mk' [] (by kernel_rfl) (by kernel_rfl) (by kernel_rfl))⟩
   ·refine CH.alt 18 (sV (.bool (decide ((v8 : Int) < 5)))) (sV (.bool false)) (by kernel_rfl) (by rw [hb9]) ?_
    refine CH.alt 19 (sV (.bool (decide ((v8 : Int) < 5)))) (sV (.bool false)) (by kernel_rfl) (by rw [hb9]) ?_
    replace hb9 := of_decide_eq_false (hb9)
    refine CH.go 5 hτ (by kernel_rfl) ?_
    refine CH.endk ⟨[(0, lV (l.map dB)), (1, iV v1), (7, iV v7), (8, iV v8), (24, bV false)], [], 368⟩ (by kernel_rfl) (by kernel_rfl) rfl ?_
    refine X.ifF (by kernel_rfl) ?_
    refine X.exit ?_
    refine X.seq ?_
    refine X.rk ⟨[(4, iV 0), (5, iV 0), (6, bV false)], [], 416⟩ hτ hmix (by kernel_rfl) (by kernel_rfl) rfl ?_
    refine X.ret ?_
    exact ⟨trivial, _, _, ⟨0, 0, false, (by first | exact ⟨by omega, (fun h => by cases h), gnR_no (gn_out (by omega))⟩ | exact ⟨by omega, (fun h => by cases h), gnR_no (gn_out2 hA (by omega) (by omega) (by omega) (by omega))⟩ | exact ⟨by omega, (fun h => by cases h), gnR_bad (v := Int.tdiv (0 - (n14 + 1)) 2) hlast (by omega) (by omega)⟩ | exact ⟨by omega, (fun h => by cases h), gnR_bad (v := Int.tdiv n14 2) hlast (by omega) (by omega)⟩ | exact ⟨by omega, fun _ => ⟨by omega, by omega, by omega⟩, gnR_yes hlast (by omega)⟩), rfl, rfl⟩, .inl (Ret.mk' [] (by kernel_rfl) (by kernel_rfl) (by kernel_rfl))⟩
 obtain ⟨_, _, ⟨r0, r1, r2, h1_, rfl, rfl⟩, hf⟩ := key
 exact ⟨r0, r1, r2, h1_, hf⟩

theorem i_GetText (l : List Int) (a : Int) (hl : l.length ≤ 2000000) : ∃ r0 : ByteArray, ∃ r1 : Int, ∃ r2 : Bool, (SmS r0 ∧ (r2 = true → 0 ≤ a ∧ a < r1 ∧ r1 ≤ l.length) ∧ gtR l a r0 r1 r2 ∧ (0 ≤ r1 ∧ r1 ≤ l.length)) ∧ Fn Try.prog 182 [lV (l.map dB), iV a] (lookH []) (.tup [.c (.d (.v (.string r0))), .c (.d (.v (.int .i64 r1))), .c (.d (.v (.bool r2)))]) (lookH []) := by
 have key : ∃ x' h', ((fun x' h' => ∃ r0 : ByteArray, ∃ r1 : Int, ∃ r2 : Bool, (SmS r0 ∧ (r2 = true → 0 ≤ a ∧ a < r1 ∧ r1 ≤ l.length) ∧ gtR l a r0 r1 r2 ∧ (0 ≤ r1 ∧ r1 ≤ l.length)) ∧ x' = .tup [.c (.d (.v (.string r0))), .c (.d (.v (.int .i64 r1))), .c (.d (.v (.bool r2)))] ∧ h' = [])) x' h' ∧ Fn Try.prog 182 [lV (l.map dB), iV a] (lookH []) x' (lookH h') := by
  refine Fn.bodyX (N := 41) hτ Try.func182 rfl rfl rfl rfl ?_
  refine X.seq ?_
  refine X.rk ⟨[(0, lV (l.map dB)), (1, iV a)], [], 112⟩ hτ hmix (by kernel_rfl) (by kernel_rfl) rfl ?_
  refine X.seq ?_
  refine X.rs 2 hτ hmix (by kernel_rfl) ?_
  obtain ⟨r1, r2, r3, hr5, hf4⟩ := i_GetNum l a (by first | omega | assumption)
  obtain ⟨hgn0, hgn1, hgn2⟩ := hr5
  refine CH.call hf4 Try.func181 ⟨rfl, rfl⟩ [] (by kernel_rfl) (by kernel_rfl) (by kernel_rfl) (by kernel_rfl) ?_
  refine CH.go 7 hτ (by kernel_rfl) ?_
  refine CH.endk ⟨[(0, lV (l.map dB)), (7, iV r1), (8, iV r2), (9, bV r3)], [], 272⟩ (by kernel_rfl) (by kernel_rfl) rfl ?_
  refine X.seq ?_
  refine X.seq ?_
  refine X.rs 3 hτ hmix (by kernel_rfl) ?_
  rcases Bool.eq_false_or_eq_true (!r3) with hb6 | hb6
  ·refine CH.alt 18 (sV (.bool (!r3))) (sV (.bool true)) (by kernel_rfl) (by rw [hb6]) ?_
   refine CH.alt 19 (sV (.bool (!r3))) (sV (.bool true)) (by kernel_rfl) (by rw [hb6]) ?_
   replace hb6 := bnot_yes (hb6)
   refine CH.go 11 hτ (by kernel_rfl) ?_
   refine CH.endk ⟨[(0, lV (l.map dB)), (7, iV r1), (8, iV r2), (30, bV true)], [], 496⟩ (by kernel_rfl) (by kernel_rfl) rfl ?_
   refine X.ifT (by kernel_rfl) ?_
   refine X.seq ?_
   refine X.rk ⟨[(4, .e (.c (.d (.v (.string (⟨#[]⟩ : ByteArray)))))), (5, iV 0), (6, bV false)], [], 544⟩ hτ hmix (by kernel_rfl) (by kernel_rfl) rfl ?_
   refine X.ret ?_
   exact ⟨trivial, _, _, ⟨(⟨#[]⟩ : ByteArray), 0, false, (by first | exact ⟨(by show (0 : Nat) ≤ 2000000; omega), (fun h => by cases h), gtR_bad hgn2 hgn1 (.inl ‹_›), by omega⟩ | exact ⟨(by show (0 : Nat) ≤ 2000000; omega), (fun h => by cases h), gtR_bad hgn2 hgn1 (by omega), by omega⟩ | exact ⟨Nat.le_trans (hsz _ _) (by omega), fun _ => ⟨by omega, by omega, by omega⟩, gtR_yes hgn2 (by omega) (by omega), by omega⟩), rfl, rfl⟩, .inl (Ret.mk' [] (by kernel_rfl) (by kernel_rfl) (by kernel_rfl))⟩
  ·refine CH.alt 18 (sV (.bool (!r3))) (sV (.bool false)) (by kernel_rfl) (by rw [hb6]) ?_
   refine CH.alt 19 (sV (.bool (!r3))) (sV (.bool false)) (by kernel_rfl) (by rw [hb6]) ?_
   replace hb6 := bnot_no (hb6)
   refine CH.go 4 hτ (by kernel_rfl) ?_
   rcases Bool.eq_false_or_eq_true (decide ((r1 : Int) < 0)) with hb7 | hb7
   ·refine CH.alt 21 (sV (.bool (decide ((r1 : Int) < 0)))) (sV (.bool true)) (by kernel_rfl) (by rw [hb7]) ?_
    refine CH.alt 22 (sV (.bool (decide ((r1 : Int) < 0)))) (sV (.bool true)) (by kernel_rfl) (by rw [hb7]) ?_
    refine CH.alt 23 (sV (.bool (decide ((r1 : Int) < 0)))) (sV (.bool true)) (by kernel_rfl) (by rw [hb7]) ?_
    replace hb7 := of_decide_eq_true (hb7)
    refine CH.go 7 hτ (by kernel_rfl) ?_
    refine CH.endk ⟨[(0, lV (l.map dB)), (7, iV r1), (8, iV r2), (30, bV true)], [], 496⟩ (by kernel_rfl) (by kernel_rfl) rfl ?_
    refine X.ifT (by kernel_rfl) ?_
    refine X.seq ?_
    refine X.rk ⟨[(4, .e (.c (.d (.v (.string (⟨#[]⟩ : ByteArray)))))), (5, iV 0), (6, bV false)], [], 544⟩ hτ hmix (by kernel_rfl) (by kernel_rfl) rfl ?_
    refine X.ret ?_
    exact ⟨trivial, _, _, ⟨(⟨#[]⟩ : ByteArray), 0, false, (by first | exact ⟨(by show (0 : Nat) ≤ 2000000; omega), (fun h => by cases h), gtR_bad hgn2 hgn1 (.inl ‹_›), by omega⟩ | exact ⟨(by show (0 : Nat) ≤ 2000000; omega), (fun h => by cases h), gtR_bad hgn2 hgn1 (by omega), by omega⟩ | exact ⟨Nat.le_trans (hsz _ _) (by omega), fun _ => ⟨by omega, by omega, by omega⟩, gtR_yes hgn2 (by omega) (by omega), by omega⟩), rfl, rfl⟩, .inl (Ret.mk' [] (by kernel_rfl) (by kernel_rfl) (by kernel_rfl))⟩
   ·refine CH.alt 21 (sV (.bool (decide ((r1 : Int) < 0)))) (sV (.bool false)) (by kernel_rfl) (by rw [hb7]) ?_
    refine CH.alt 22 (sV (.bool (decide ((r1 : Int) < 0)))) (sV (.bool false)) (by kernel_rfl) (by rw [hb7]) ?_
    refine CH.alt 23 (sV (.bool (decide ((r1 : Int) < 0)))) (sV (.bool false)) (by kernel_rfl) (by rw [hb7]) ?_
    replace hb7 := of_decide_eq_false (hb7)
    refine CH.go 7 hτ (by kernel_rfl) ?_
    have el8 : (l.map dB).length = l.length := List.length_map ..
    refine CH.endk ⟨[(0, lV (l.map dB)), (7, iV r1), (8, iV r2), (30, bV (decide ((r1 : Int) > (wrap64 (((l.map dB).length : Int) - r2)))))], [], 496⟩ (by kernel_rfl) (by kernel_rfl) (s2 := ⟨[(0, lV (l.map dB)), (7, iV r1), (8, iV r2), (30, bV (decide ((r1 : Int) > ((((l.map dB).length : Int) - r2)))))], [], 496⟩) (congrArg (fun z : Bool => (⟨[(0, lV (l.map dB)), (7, iV r1), (8, iV r2), (30, bV z)], [], 496⟩ : St)) (show (decide ((r1 : Int) > (wrap64 (((l.map dB).length : Int) - r2)))) = (decide ((r1 : Int) > ((((l.map dB).length : Int) - r2)))) by rw [w64 (n := (((l.map dB).length : Int) - r2)) (by omega) (by omega)])) ?_
    refine X.if_ (b := decide ((r1 : Int) > ((((l.map dB).length : Int) - r2)))) (by kernel_rfl) (fun hb9 => ?_) (fun hb9 => ?_)
    ·replace hb9 := of_decide_eq_true (hb9)
     refine X.seq ?_
     refine X.rk ⟨[(4, .e (.c (.d (.v (.string (⟨#[]⟩ : ByteArray)))))), (5, iV 0), (6, bV false)], [], 544⟩ hτ hmix (by kernel_rfl) (by kernel_rfl) rfl ?_
     refine X.ret ?_
     exact ⟨trivial, _, _, ⟨(⟨#[]⟩ : ByteArray), 0, false, (by first | exact ⟨(by show (0 : Nat) ≤ 2000000; omega), (fun h => by cases h), gtR_bad hgn2 hgn1 (.inl ‹_›), by omega⟩ | exact ⟨(by show (0 : Nat) ≤ 2000000; omega), (fun h => by cases h), gtR_bad hgn2 hgn1 (by omega), by omega⟩ | exact ⟨Nat.le_trans (hsz _ _) (by omega), fun _ => ⟨by omega, by omega, by omega⟩, gtR_yes hgn2 (by omega) (by omega), by omega⟩), rfl, rfl⟩, .inl (Ret.mk' [] (by kernel_rfl) (by kernel_rfl) (by kernel_rfl))⟩
    ·replace hb9 := of_decide_eq_false (hb9)
     refine X.skip ?_
     refine X.seq ?_
     have hgo := hgn1 ‹_›
     have hsz : ∀ n m : Nat, (strOf ((l.drop n).take m)).size ≤ l.length := fun n m => by rw [strOf_size, List.length_take, List.length_drop]; omega
     refine X.rs 5 hτ hmix (by kernel_rfl) ?_
     refine CH.alt 35 (sV (.int .i64 (wrap64 (r2 + r1)))) (sV (.int .i64 ((r2 + r1)))) (by kernel_rfl) (by rw [w64 (n := (r2 + r1)) (by omega) (by omega)]) ?_
     refine CH.cut hτ (cc := .d (.sl (l.map dB))) (rows := (l.map dB)) (sz := 1) (l := r2) (h := (r2 + r1)) (by kernel_rfl) (by kernel_rfl) (by first | omega | (simp; done) | (simp; omega)) (by first | omega | (simp; done) | (simp; omega)) (by first | omega | (simp only [List.length_map]; omega)) (flat_ok (f := dB) (fun x => rfl)) ?_
     refine CH.alt 36 (.e (.c (.d (.sl (((l.map dB).drop (Int.toNat r2)).take (Int.toNat (r2 + r1) - Int.toNat r2)))))) (.e (.c (.d (.sl (((l.drop (Int.toNat r2)).take (Int.toNat (r2 + r1) - Int.toNat r2)).map dB))))) (by kernel_rfl) (by rw [List.map_take, List.map_drop]) ?_
     refine CH.b2s hτ (cc := .d (.sl (((l.drop (Int.toNat r2)).take (Int.toNat (r2 + r1) - Int.toNat r2)).map dB))) (ns := ((l.drop (Int.toNat r2)).take (Int.toNat (r2 + r1) - Int.toNat r2))) (el := 5) (by kernel_rfl) (by kernel_rfl) Try.underlying5 ?_
     refine CH.go 6 hτ (by kernel_rfl) ?_
     refine CH.endk ⟨[(4, .e (.c (.d (.v (.string (strOf ((l.drop (Int.toNat r2)).take (Int.toNat (r2 + r1) - Int.toNat r2)))))))), (5, iV (wrap64 (r2 + r1))), (6, bV true)], [], 704⟩ (by kernel_rfl) (by kernel_rfl) (s2 := ⟨[(4, .e (.c (.d (.v (.string (strOf ((l.drop (Int.toNat r2)).take (Int.toNat (r2 + r1) - Int.toNat r2)))))))), (5, iV (r2 + r1)), (6, bV true)], [], 704⟩) (congrArg (fun z : Int => (⟨[(4, .e (.c (.d (.v (.string (strOf ((l.drop (Int.toNat r2)).take (Int.toNat (r2 + r1) - Int.toNat r2)))))))), (5, iV z), (6, bV true)], [], 704⟩ : St)) (show wrap64 (r2 + r1) = (r2 + r1) by rw [w64 (n := (r2 + r1)) (by omega) (by omega)])) ?_
     refine X.ret ?_
     exact ⟨trivial, _, _, ⟨(strOf ((l.drop (Int.toNat r2)).take (Int.toNat (r2 + r1) - Int.toNat r2))), (r2 + r1), true, (by first | exact ⟨(by show (0 : Nat) ≤ 2000000; omega), (fun h => by cases h), gtR_bad hgn2 hgn1 (.inl ‹_›), by omega⟩ | exact ⟨(by show (0 : Nat) ≤ 2000000; omega), (fun h => by cases h), gtR_bad hgn2 hgn1 (by omega), by omega⟩ | exact ⟨Nat.le_trans (hsz _ _) (by omega), fun _ => ⟨by omega, by omega, by omega⟩, gtR_yes hgn2 (by omega) (by omega), by omega⟩), rfl, rfl⟩, .inl (Ret.mk' [] (by kernel_rfl) (by kernel_rfl) (by kernel_rfl))⟩
 obtain ⟨_, _, ⟨r0, r1, r2, h1_, rfl, rfl⟩, hf⟩ := key
 exact ⟨r0, r1, r2, h1_, hf⟩

theorem i_gnum (bs : List Int) (i0 : Int) (h0 : Bool) (hl : bs.length ≤ 4611686018427387904) (hi : 0 ≤ i0 ∧ i0 ≤ bs.length)  (hb : bs.length ≤ 2000000) : ∃ r0 : Int, ∃ i1 : Int, ∃ h1 : Bool, ((-1000000000 ≤ r0 ∧ r0 ≤ 1000000000) ∧ ∀ n r, numOk n → RS bs i0 h0 (numB n ++ r) → RS bs i1 h1 r ∧ r0 = n) ∧ (0 ≤ i1 ∧ i1 ≤ bs.length) ∧ Fn Try.prog 134 [.pt 0 0 0] (lookH [(0, some (.box [.k 0 (.sl (bs.map dB)), .k 1 (.v (.int .i64 i0)), .k 2 (.v (.bool h0))]))]) (iV r0) (lookH [(0, some (.box [.k 0 (.sl (bs.map dB)), .d (.v (.int .i64 i1)), .d (.v (.bool h1))]))]) := by
 have key : ∃ x' h', ((fun x' h' => ∃ r0 : Int, ∃ i1 : Int, ∃ h1 : Bool, ((-1000000000 ≤ r0 ∧ r0 ≤ 1000000000) ∧ ∀ n r, numOk n → RS bs i0 h0 (numB n ++ r) → RS bs i1 h1 r ∧ r0 = n) ∧ (0 ≤ i1 ∧ i1 ≤ bs.length) ∧ x' = iV r0 ∧ h' = [(0, some (.box [.k 0 (.sl (bs.map dB)), .d (.v (.int .i64 i1)), .d (.v (.bool h1))]))])) x' h' ∧ Fn Try.prog 134 [.pt 0 0 0] (lookH [(0, some (.box [.k 0 (.sl (bs.map dB)), .k 1 (.v (.int .i64 i0)), .k 2 (.v (.bool h0))]))]) x' (lookH h') := by
  refine Fn.bodyX (N := 35) hτ Try.func134 rfl rfl rfl rfl ?_
  refine X.seq ?_
  refine X.rk ⟨[(0, .pt 0 0 0)], [(0, some (.box [.k 0 (.sl (bs.map dB)), .d (.v (.int .i64 i0)), .d (.v (.bool h0))]))], 80⟩ hτ hmix (by kernel_rfl) (by kernel_rfl) rfl ?_
  refine X.seq ?_
  refine X.rs 8 hτ hmix (by kernel_rfl) ?_
  obtain ⟨r1, r2, r3, hr5, hf4⟩ := i_GetNum bs i0 (by first | omega | assumption)
  obtain ⟨hgn0, hgn1, hgn2⟩ := hr5
  refine CH.call hf4 Try.func181 ⟨rfl, rfl⟩ [] (by kernel_rfl) (by kernel_rfl) (by kernel_rfl) (by kernel_rfl) ?_
  refine CH.go 7 hτ (by kernel_rfl) ?_
  refine CH.endk ⟨[(0, .pt 0 0 0), (3, iV r1), (4, iV r2), (5, bV r3)], [(0, some (.box [.k 0 (.sl (bs.map dB)), .d (.v (.int .i64 i0)), .d (.v (.bool h0))]))], 336⟩ (by kernel_rfl) (by kernel_rfl) rfl ?_
  refine X.seq ?_
  refine X.seq ?_
  refine X.rs 5 hτ hmix (by kernel_rfl) ?_
  rcases Bool.eq_false_or_eq_true (h0) with hb6 | hb6
  ·refine CH.alt 22 (sV (.bool (h0))) (sV (.bool true)) (by kernel_rfl) (by rw [hb6]) ?_
   refine CH.alt 23 (sV (.bool (h0))) (sV (.bool true)) (by kernel_rfl) (by rw [hb6]) ?_
   refine CH.go 3 hτ (by kernel_rfl) ?_
   refine CH.endk ⟨[(0, .pt 0 0 0), (3, iV r1), (4, iV r2), (26, bV true)], [(0, some (.box [.k 0 (.sl (bs.map dB)), .d (.v (.int .i64 i0)), .d (.v (.bool h0))]))], 464⟩ (by kernel_rfl) (by kernel_rfl) rfl ?_
   refine X.ifT (by kernel_rfl) ?_
   refine X.seq ?_
   refine X.rk ⟨[], [(0, some (.box [.k 0 (.sl (bs.map dB)), .d (.v (.int .i64 i0)), .d (.v (.bool true))]))], 528⟩ hτ hmix (by kernel_rfl) (by kernel_rfl) rfl ?_
   refine X.seq ?_
   refine X.rk ⟨[(2, iV 0)], [(0, some (.box [.k 0 (.sl (bs.map dB)), .d (.v (.int .i64 i0)), .d (.v (.bool true))]))], 544⟩ hτ hmix (by kernel_rfl) (by kernel_rfl) rfl ?_
   refine X.ret ?_
   exact ⟨trivial, _, _, ⟨0, i0, true, (by first | exact ⟨by omega, rd_num0 hgn2 hi.1 (.inl ‹_›)⟩ | exact ⟨by omega, rd_num0 hgn2 hi.1 (.inr ‹_›)⟩ | exact ⟨by omega, rd_num1 hgn2 hi.1⟩), (by omega), rfl, rfl⟩, .inl (Ret.mk' [] (by kernel_rfl) (by kernel_rfl) (by kernel_rfl))⟩
  ·refine CH.alt 22 (sV (.bool (h0))) (sV (.bool false)) (by kernel_rfl) (by rw [hb6]) ?_
   refine CH.alt 23 (sV (.bool (h0))) (sV (.bool false)) (by kernel_rfl) (by rw [hb6]) ?_
   refine CH.go 3 hτ (by kernel_rfl) ?_
   refine CH.endk ⟨[(0, .pt 0 0 0), (3, iV r1), (4, iV r2), (26, bV (!r3))], [(0, some (.box [.k 0 (.sl (bs.map dB)), .d (.v (.int .i64 i0)), .d (.v (.bool h0))]))], 464⟩ (by kernel_rfl) (by kernel_rfl) rfl ?_
   refine X.if_ (b := !r3) (by kernel_rfl) (fun hb7 => ?_) (fun hb7 => ?_)
   ·replace hb7 := bnot_yes (hb7)
    refine X.seq ?_
    refine X.rk ⟨[], [(0, some (.box [.k 0 (.sl (bs.map dB)), .d (.v (.int .i64 i0)), .d (.v (.bool true))]))], 528⟩ hτ hmix (by kernel_rfl) (by kernel_rfl) rfl ?_
    refine X.seq ?_
    refine X.rk ⟨[(2, iV 0)], [(0, some (.box [.k 0 (.sl (bs.map dB)), .d (.v (.int .i64 i0)), .d (.v (.bool true))]))], 544⟩ hτ hmix (by kernel_rfl) (by kernel_rfl) rfl ?_
    refine X.ret ?_
    exact ⟨trivial, _, _, ⟨0, i0, true, (by first | exact ⟨by omega, rd_num0 hgn2 hi.1 (.inl ‹_›)⟩ | exact ⟨by omega, rd_num0 hgn2 hi.1 (.inr ‹_›)⟩ | exact ⟨by omega, rd_num1 hgn2 hi.1⟩), (by omega), rfl, rfl⟩, .inl (Ret.mk' [] (by kernel_rfl) (by kernel_rfl) (by kernel_rfl))⟩
   ·replace hb7 := bnot_no (hb7)
    refine X.skip ?_
    refine X.seq ?_
    have hgo := hgn1 ‹_›
    refine X.rk ⟨[(3, iV r1)], [(0, some (.box [.k 0 (.sl (bs.map dB)), .d (.v (.int .i64 r2)), .d (.v (.bool h0))]))], 544⟩ hτ hmix (by kernel_rfl) (by kernel_rfl) rfl ?_
    refine X.seq ?_
    refine X.rk ⟨[(2, iV r1)], [(0, some (.box [.k 0 (.sl (bs.map dB)), .d (.v (.int .i64 r2)), .d (.v (.bool h0))]))], 576⟩ hτ hmix (by kernel_rfl) (by kernel_rfl) rfl ?_
    refine X.ret ?_
    exact ⟨trivial, _, _, ⟨r1, r2, h0, (by first | exact ⟨by omega, rd_num0 hgn2 hi.1 (.inl ‹_›)⟩ | exact ⟨by omega, rd_num0 hgn2 hi.1 (.inr ‹_›)⟩ | exact ⟨by omega, rd_num1 hgn2 hi.1⟩), (by omega), rfl, rfl⟩, .inl (Ret.mk' [] (by kernel_rfl) (by kernel_rfl) (by kernel_rfl))⟩
 obtain ⟨_, _, ⟨r0, i1, h1, h1_, h2_, rfl, rfl⟩, hf⟩ := key
 exact ⟨r0, i1, h1, h1_, h2_, hf⟩

theorem i_gtext (bs : List Int) (i0 : Int) (h0 : Bool) (hl : bs.length ≤ 4611686018427387904) (hi : 0 ≤ i0 ∧ i0 ≤ bs.length)  (hb : bs.length ≤ 2000000) : ∃ r0 : ByteArray, ∃ i1 : Int, ∃ h1 : Bool, (SmS r0 ∧ ∀ n r, n.size ≤ 1000000000 → RS bs i0 h0 (textB n ++ r) → RS bs i1 h1 r ∧ r0 = n) ∧ (0 ≤ i1 ∧ i1 ≤ bs.length) ∧ Fn Try.prog 135 [.pt 0 0 0] (lookH [(0, some (.box [.k 0 (.sl (bs.map dB)), .k 1 (.v (.int .i64 i0)), .k 2 (.v (.bool h0))]))]) (.e (.c (.d (.v (.string r0))))) (lookH [(0, some (.box [.k 0 (.sl (bs.map dB)), .d (.v (.int .i64 i1)), .d (.v (.bool h1))]))]) := by
 have key : ∃ x' h', ((fun x' h' => ∃ r0 : ByteArray, ∃ i1 : Int, ∃ h1 : Bool, (SmS r0 ∧ ∀ n r, n.size ≤ 1000000000 → RS bs i0 h0 (textB n ++ r) → RS bs i1 h1 r ∧ r0 = n) ∧ (0 ≤ i1 ∧ i1 ≤ bs.length) ∧ x' = .e (.c (.d (.v (.string r0)))) ∧ h' = [(0, some (.box [.k 0 (.sl (bs.map dB)), .d (.v (.int .i64 i1)), .d (.v (.bool h1))]))])) x' h' ∧ Fn Try.prog 135 [.pt 0 0 0] (lookH [(0, some (.box [.k 0 (.sl (bs.map dB)), .k 1 (.v (.int .i64 i0)), .k 2 (.v (.bool h0))]))]) x' (lookH h') := by
  refine Fn.bodyX (N := 35) hτ Try.func135 rfl rfl rfl rfl ?_
  refine X.seq ?_
  refine X.rk ⟨[(0, .pt 0 0 0)], [(0, some (.box [.k 0 (.sl (bs.map dB)), .d (.v (.int .i64 i0)), .d (.v (.bool h0))]))], 80⟩ hτ hmix (by kernel_rfl) (by kernel_rfl) rfl ?_
  refine X.seq ?_
  refine X.rs 8 hτ hmix (by kernel_rfl) ?_
  obtain ⟨r1, r2, r3, hr5, hf4⟩ := i_GetText bs i0 (by first | omega | assumption)
  obtain ⟨hgt0, hgt1, hgt2, hgt3⟩ := hr5
  refine CH.call hf4 Try.func182 ⟨rfl, rfl⟩ [] (by kernel_rfl) (by kernel_rfl) (by kernel_rfl) (by kernel_rfl) ?_
  refine CH.go 7 hτ (by kernel_rfl) ?_
  refine CH.endk ⟨[(0, .pt 0 0 0), (3, .e (.c (.d (.v (.string r1))))), (4, iV r2), (5, bV r3)], [(0, some (.box [.k 0 (.sl (bs.map dB)), .d (.v (.int .i64 i0)), .d (.v (.bool h0))]))], 336⟩ (by kernel_rfl) (by kernel_rfl) rfl ?_
  refine X.seq ?_
  refine X.seq ?_
  refine X.rs 5 hτ hmix (by kernel_rfl) ?_
  rcases Bool.eq_false_or_eq_true (h0) with hb6 | hb6
  ·refine CH.alt 22 (sV (.bool (h0))) (sV (.bool true)) (by kernel_rfl) (by rw [hb6]) ?_
   refine CH.alt 23 (sV (.bool (h0))) (sV (.bool true)) (by kernel_rfl) (by rw [hb6]) ?_
   refine CH.go 3 hτ (by kernel_rfl) ?_
   refine CH.endk ⟨[(0, .pt 0 0 0), (3, .e (.c (.d (.v (.string r1))))), (4, iV r2), (26, bV true)], [(0, some (.box [.k 0 (.sl (bs.map dB)), .d (.v (.int .i64 i0)), .d (.v (.bool h0))]))], 464⟩ (by kernel_rfl) (by kernel_rfl) rfl ?_
   refine X.ifT (by kernel_rfl) ?_
   refine X.seq ?_
   refine X.rk ⟨[], [(0, some (.box [.k 0 (.sl (bs.map dB)), .d (.v (.int .i64 i0)), .d (.v (.bool true))]))], 528⟩ hτ hmix (by kernel_rfl) (by kernel_rfl) rfl ?_
   refine X.seq ?_
   refine X.rk ⟨[(2, .e (.c (.d (.v (.string (⟨#[]⟩ : ByteArray))))))], [(0, some (.box [.k 0 (.sl (bs.map dB)), .d (.v (.int .i64 i0)), .d (.v (.bool true))]))], 544⟩ hτ hmix (by kernel_rfl) (by kernel_rfl) rfl ?_
   refine X.ret ?_
   exact ⟨trivial, _, _, ⟨(⟨#[]⟩ : ByteArray), i0, true, (by first | exact ⟨(by show (0 : Nat) ≤ 2000000; omega), rd_txt0 hgt2 hi.1 (.inl ‹_›)⟩ | exact ⟨(by show (0 : Nat) ≤ 2000000; omega), rd_txt0 hgt2 hi.1 (.inr ‹_›)⟩ | exact ⟨hgt0, rd_txt1 hgt2 hi.1⟩), (by omega), rfl, rfl⟩, .inl (Ret.mk' [] (by kernel_rfl) (by kernel_rfl) (by kernel_rfl))⟩
  ·refine CH.alt 22 (sV (.bool (h0))) (sV (.bool false)) (by kernel_rfl) (by rw [hb6]) ?_
   refine CH.alt 23 (sV (.bool (h0))) (sV (.bool false)) (by kernel_rfl) (by rw [hb6]) ?_
   refine CH.go 3 hτ (by kernel_rfl) ?_
   refine CH.endk ⟨[(0, .pt 0 0 0), (3, .e (.c (.d (.v (.string r1))))), (4, iV r2), (26, bV (!r3))], [(0, some (.box [.k 0 (.sl (bs.map dB)), .d (.v (.int .i64 i0)), .d (.v (.bool h0))]))], 464⟩ (by kernel_rfl) (by kernel_rfl) rfl ?_
   refine X.if_ (b := !r3) (by kernel_rfl) (fun hb7 => ?_) (fun hb7 => ?_)
   ·replace hb7 := bnot_yes (hb7)
    refine X.seq ?_
    refine X.rk ⟨[], [(0, some (.box [.k 0 (.sl (bs.map dB)), .d (.v (.int .i64 i0)), .d (.v (.bool true))]))], 528⟩ hτ hmix (by kernel_rfl) (by kernel_rfl) rfl ?_
    refine X.seq ?_
    refine X.rk ⟨[(2, .e (.c (.d (.v (.string (⟨#[]⟩ : ByteArray))))))], [(0, some (.box [.k 0 (.sl (bs.map dB)), .d (.v (.int .i64 i0)), .d (.v (.bool true))]))], 544⟩ hτ hmix (by kernel_rfl) (by kernel_rfl) rfl ?_
    refine X.ret ?_
    exact ⟨trivial, _, _, ⟨(⟨#[]⟩ : ByteArray), i0, true, (by first | exact ⟨(by show (0 : Nat) ≤ 2000000; omega), rd_txt0 hgt2 hi.1 (.inl ‹_›)⟩ | exact ⟨(by show (0 : Nat) ≤ 2000000; omega), rd_txt0 hgt2 hi.1 (.inr ‹_›)⟩ | exact ⟨hgt0, rd_txt1 hgt2 hi.1⟩), (by omega), rfl, rfl⟩, .inl (Ret.mk' [] (by kernel_rfl) (by kernel_rfl) (by kernel_rfl))⟩
   ·replace hb7 := bnot_no (hb7)
    refine X.skip ?_
    refine X.seq ?_
    have hgo := hgt1 ‹_›
    refine X.rk ⟨[(3, .e (.c (.d (.v (.string r1)))))], [(0, some (.box [.k 0 (.sl (bs.map dB)), .d (.v (.int .i64 r2)), .d (.v (.bool h0))]))], 544⟩ hτ hmix (by kernel_rfl) (by kernel_rfl) rfl ?_
    refine X.seq ?_
    refine X.rk ⟨[(2, .e (.c (.d (.v (.string r1)))))], [(0, some (.box [.k 0 (.sl (bs.map dB)), .d (.v (.int .i64 r2)), .d (.v (.bool h0))]))], 576⟩ hτ hmix (by kernel_rfl) (by kernel_rfl) rfl ?_
    refine X.ret ?_
    exact ⟨trivial, _, _, ⟨r1, r2, h0, (by first | exact ⟨(by show (0 : Nat) ≤ 2000000; omega), rd_txt0 hgt2 hi.1 (.inl ‹_›)⟩ | exact ⟨(by show (0 : Nat) ≤ 2000000; omega), rd_txt0 hgt2 hi.1 (.inr ‹_›)⟩ | exact ⟨hgt0, rd_txt1 hgt2 hi.1⟩), (by omega), rfl, rfl⟩, .inl (Ret.mk' [] (by kernel_rfl) (by kernel_rfl) (by kernel_rfl))⟩
 obtain ⟨_, _, ⟨r0, i1, h1, h1_, h2_, rfl, rfl⟩, hf⟩ := key
 exact ⟨r0, i1, h1, h1_, h2_, hf⟩

theorem i_gcount (bs : List Int) (i0 : Int) (h0 : Bool) (hl : bs.length ≤ 4611686018427387904) (hi : 0 ≤ i0 ∧ i0 ≤ bs.length) (most : Int) (hb : bs.length ≤ 2000000) : ∃ r0 : Int, ∃ i1 : Int, ∃ h1 : Bool, ((0 ≤ r0 ∧ (r0 ≤ most ∨ r0 = 0)) ∧ ∀ n r, (0 ≤ n ∧ n ≤ most ∧ n ≤ 1000000000) → RS bs i0 h0 (numB n ++ r) → RS bs i1 h1 r ∧ r0 = n) ∧ (0 ≤ i1 ∧ i1 ≤ bs.length) ∧ Fn Try.prog 137 [.pt 0 0 0, iV most] (lookH [(0, some (.box [.k 0 (.sl (bs.map dB)), .k 1 (.v (.int .i64 i0)), .k 2 (.v (.bool h0))]))]) (iV r0) (lookH [(0, some (.box [.k 0 (.sl (bs.map dB)), .d (.v (.int .i64 i1)), .d (.v (.bool h1))]))]) := by
 have key : ∃ x' h', ((fun x' h' => ∃ r0 : Int, ∃ i1 : Int, ∃ h1 : Bool, ((0 ≤ r0 ∧ (r0 ≤ most ∨ r0 = 0)) ∧ ∀ n r, (0 ≤ n ∧ n ≤ most ∧ n ≤ 1000000000) → RS bs i0 h0 (numB n ++ r) → RS bs i1 h1 r ∧ r0 = n) ∧ (0 ≤ i1 ∧ i1 ≤ bs.length) ∧ x' = iV r0 ∧ h' = [(0, some (.box [.k 0 (.sl (bs.map dB)), .d (.v (.int .i64 i1)), .d (.v (.bool h1))]))])) x' h' ∧ Fn Try.prog 137 [.pt 0 0 0, iV most] (lookH [(0, some (.box [.k 0 (.sl (bs.map dB)), .k 1 (.v (.int .i64 i0)), .k 2 (.v (.bool h0))]))]) x' (lookH h') := by
  refine Fn.bodyX (N := 16) hτ Try.func137 rfl rfl rfl rfl ?_
  refine X.seq ?_
  refine X.rk ⟨[(0, .pt 0 0 0), (1, iV most)], [(0, some (.box [.k 0 (.sl (bs.map dB)), .d (.v (.int .i64 i0)), .d (.v (.bool h0))]))], 80⟩ hτ hmix (by kernel_rfl) (by kernel_rfl) rfl ?_
  refine X.seq ?_
  refine X.rs 1 hτ hmix (by kernel_rfl) ?_
  obtain ⟨r1, i4, h5, hr3, hi6, hf2⟩ := i_gnum bs i0 h0 (by first | assumption | omega) (by omega) (by first | assumption | omega)
  obtain ⟨hrb, hrf⟩ := hr3
  refine CH.call hf2 Try.func134 ⟨rfl, rfl⟩ [(0, 0)] (by kernel_rfl) (by kernel_rfl) (by kernel_rfl) (by kernel_rfl) ?_
  refine CH.go 1 hτ (by kernel_rfl) ?_
  refine CH.endk ⟨[(0, .pt 0 0 0), (1, iV most), (5, iV r1)], [(0, some (.box [.k 0 (.sl (bs.map dB)), .d (.v (.int .i64 i4)), .d (.v (.bool h5))]))], 128⟩ (by kernel_rfl) (by kernel_rfl) rfl ?_
  refine X.seq ?_
  refine X.seq ?_
  refine X.rs 2 hτ hmix (by kernel_rfl) ?_
  obtain ⟨r7, hr9, hf8⟩ := i_inRange r1 0 most
  replace hr9 := hr9.symm; subst hr9
  refine CH.call hf8 Try.func72 ⟨rfl, rfl⟩ [] (by kernel_rfl) (by kernel_rfl) (by kernel_rfl) (by kernel_rfl) ?_
  refine CH.go 1 hτ (by kernel_rfl) ?_
  refine CH.endk ⟨[(0, .pt 0 0 0), (5, iV r1), (11, bV (!(inR r1 0 most)))], [(0, some (.box [.k 0 (.sl (bs.map dB)), .d (.v (.int .i64 i4)), .d (.v (.bool h5))]))], 192⟩ (by kernel_rfl) (by kernel_rfl) rfl ?_
  refine X.if_ (b := !(inR r1 0 most)) (by kernel_rfl) (fun hb11 => ?_) (fun hb11 => ?_)
  ·replace hb11 := inR_no (bnot_yes (hb11))
   refine X.seq ?_
   refine X.rk ⟨[], [(0, some (.box [.k 0 (.sl (bs.map dB)), .d (.v (.int .i64 i4)), .d (.v (.bool true))]))], 256⟩ hτ hmix (by kernel_rfl) (by kernel_rfl) rfl ?_
   refine X.seq ?_
   refine X.rk ⟨[(4, iV 0)], [(0, some (.box [.k 0 (.sl (bs.map dB)), .d (.v (.int .i64 i4)), .d (.v (.bool true))]))], 272⟩ hτ hmix (by kernel_rfl) (by kernel_rfl) rfl ?_
   refine X.ret ?_
   exact ⟨trivial, _, _, ⟨0, i4, true, (by first | exact ⟨by omega, fun n r hn hR => by have hq := hrf n r ⟨by omega, by omega⟩ hR; exfalso; omega⟩ | exact ⟨by omega, fun n r hn hR => hrf n r ⟨by omega, by omega⟩ hR⟩), (by omega), rfl, rfl⟩, .inl (Ret.mk' [] (by kernel_rfl) (by kernel_rfl) (by kernel_rfl))⟩
  ·replace hb11 := inR_yes (bnot_no (hb11))
   refine X.skip ?_
   refine X.seq ?_
   refine X.rk ⟨[(4, iV r1)], [(0, some (.box [.k 0 (.sl (bs.map dB)), .d (.v (.int .i64 i4)), .d (.v (.bool h5))]))], 224⟩ hτ hmix (by kernel_rfl) (by kernel_rfl) rfl ?_
   refine X.ret ?_
   exact ⟨trivial, _, _, ⟨r1, i4, h5, (by first | exact ⟨by omega, fun n r hn hR => by have hq := hrf n r ⟨by omega, by omega⟩ hR; exfalso; omega⟩ | exact ⟨by omega, fun n r hn hR => hrf n r ⟨by omega, by omega⟩ hR⟩), (by omega), rfl, rfl⟩, .inl (Ret.mk' [] (by kernel_rfl) (by kernel_rfl) (by kernel_rfl))⟩
 obtain ⟨_, _, ⟨r0, i1, h1, h1_, h2_, rfl, rfl⟩, hf⟩ := key
 exact ⟨r0, i1, h1, h1_, h2_, hf⟩

theorem i_gtx (bs : List Int) (i0 : Int) (h0 : Bool) (hl : bs.length ≤ 4611686018427387904) (hi : 0 ≤ i0 ∧ i0 ≤ bs.length)  (hb : bs.length ≤ 2000000) : ∃ r0 : S26, ∃ i1 : Int, ∃ h1 : Bool, (Sm26 r0 ∧ ∀ n r, txOk n = true → RS bs i0 h0 (encTx n ++ r) → RS bs i1 h1 r ∧ r0 = n) ∧ (0 ≤ i1 ∧ i1 ≤ bs.length) ∧ Fn Try.prog 138 [.pt 0 0 0] (lookH [(0, some (.box [.k 0 (.sl (bs.map dB)), .k 1 (.v (.int .i64 i0)), .k 2 (.v (.bool h0))]))]) (.e (.agg [.d (.v (.int .i64 r0.f0)), .d (.v (.string r0.f1)), .d (.v (.string r0.f2)), .d (.v (.int .i64 r0.f3)), .d (.v (.int .i64 r0.f4))])) (lookH [(0, some (.box [.k 0 (.sl (bs.map dB)), .d (.v (.int .i64 i1)), .d (.v (.bool h1))]))]) := by
 have key : ∃ x' h', ((fun x' h' => ∃ r0 : S26, ∃ i1 : Int, ∃ h1 : Bool, (Sm26 r0 ∧ ∀ n r, txOk n = true → RS bs i0 h0 (encTx n ++ r) → RS bs i1 h1 r ∧ r0 = n) ∧ (0 ≤ i1 ∧ i1 ≤ bs.length) ∧ x' = .e (.agg [.d (.v (.int .i64 r0.f0)), .d (.v (.string r0.f1)), .d (.v (.string r0.f2)), .d (.v (.int .i64 r0.f3)), .d (.v (.int .i64 r0.f4))]) ∧ h' = [(0, some (.box [.k 0 (.sl (bs.map dB)), .d (.v (.int .i64 i1)), .d (.v (.bool h1))]))])) x' h' ∧ Fn Try.prog 138 [.pt 0 0 0] (lookH [(0, some (.box [.k 0 (.sl (bs.map dB)), .k 1 (.v (.int .i64 i0)), .k 2 (.v (.bool h0))]))]) x' (lookH h') := by
  refine Fn.bodyX (N := 26) hτ Try.func138 rfl rfl rfl rfl ?_
  refine X.seq ?_
  refine X.rk ⟨[(0, .pt 0 0 0), (2, .pt 64 0 0)], [(0, some (.box [.k 0 (.sl (bs.map dB)), .d (.v (.int .i64 i0)), .d (.v (.bool h0))])), (64, some (.box [.d (.v (.int .i64 0)), .d (.v (.string (⟨#[]⟩ : ByteArray))), .d (.v (.string (⟨#[]⟩ : ByteArray))), .d (.v (.int .i64 0)), .d (.v (.int .i64 0))]))], 80⟩ hτ hmix (by kernel_rfl) (by kernel_rfl) rfl ?_
  refine X.seq ?_
  refine X.rs 1 hτ hmix (by kernel_rfl) ?_
  obtain ⟨r1, i4, h5, hr3, hi6, hf2⟩ := i_gnum bs i0 h0 (by first | assumption | omega) (by omega) (by first | assumption | omega)
  obtain ⟨hrb, hrf⟩ := hr3
  refine CH.call hf2 Try.func134 ⟨rfl, rfl⟩ [(0, 0)] (by kernel_rfl) (by kernel_rfl) (by kernel_rfl) (by kernel_rfl) ?_
  refine CH.go 3 hτ (by kernel_rfl) ?_
  refine CH.endk ⟨[(0, .pt 0 0 0), (2, .pt 64 0 0), (3, .pt 128 0 0)], [(0, some (.box [.k 0 (.sl (bs.map dB)), .d (.v (.int .i64 i4)), .d (.v (.bool h5))])), (64, some (.box [.d (.v (.int .i64 0)), .d (.v (.string (⟨#[]⟩ : ByteArray))), .d (.v (.string (⟨#[]⟩ : ByteArray))), .d (.v (.int .i64 0)), .d (.v (.int .i64 0))])), (128, some (.box [.d (.v (.int .i64 r1)), .d (.v (.string (⟨#[]⟩ : ByteArray))), .d (.v (.string (⟨#[]⟩ : ByteArray))), .d (.v (.int .i64 0)), .d (.v (.int .i64 0))]))], 160⟩ (by kernel_rfl) (by kernel_rfl) rfl ?_
  refine X.seq ?_
  have W1 := fun (t : S26) (r : List Int) (ht : txOk t = true) (hR : RS bs i0 h0 (encTx t ++ r)) => hrf t.f0 _ (tx_n0 ht) (tx_r hR)
  refine X.rs 1 hτ hmix (by kernel_rfl) ?_
  obtain ⟨r7, i10, h11, hr9, hi12, hf8⟩ := i_gtext bs i4 h5 (by first | assumption | omega) (by omega) (by first | assumption | omega)
  obtain ⟨hrs, hrf⟩ := hr9
  refine CH.call hf8 Try.func135 ⟨rfl, rfl⟩ [(0, 0)] (by kernel_rfl) (by kernel_rfl) (by kernel_rfl) (by kernel_rfl) ?_
  refine CH.go 2 hτ (by kernel_rfl) ?_
  refine CH.endk ⟨[(0, .pt 0 0 0), (2, .pt 64 0 0), (3, .pt 128 0 0)], [(0, some (.box [.k 0 (.sl (bs.map dB)), .d (.v (.int .i64 i10)), .d (.v (.bool h11))])), (64, some (.box [.d (.v (.int .i64 0)), .d (.v (.string (⟨#[]⟩ : ByteArray))), .d (.v (.string (⟨#[]⟩ : ByteArray))), .d (.v (.int .i64 0)), .d (.v (.int .i64 0))])), (128, some (.box [.d (.v (.int .i64 r1)), .d (.v (.string r7)), .d (.v (.string (⟨#[]⟩ : ByteArray))), .d (.v (.int .i64 0)), .d (.v (.int .i64 0))]))], 224⟩ (by kernel_rfl) (by kernel_rfl) rfl ?_
  refine X.seq ?_
  have hs1 := hrs
  have W2 := fun (t : S26) (r : List Int) (ht : txOk t = true) (hR : RS bs i0 h0 (encTx t ++ r)) => hrf t.f1 _ (tx_s1 ht) (W1 t r ht hR).1
  refine X.rs 1 hτ hmix (by kernel_rfl) ?_
  obtain ⟨r13, i16, h17, hr15, hi18, hf14⟩ := i_gtext bs i10 h11 (by first | assumption | omega) (by omega) (by first | assumption | omega)
  obtain ⟨hrs, hrf⟩ := hr15
  refine CH.call hf14 Try.func135 ⟨rfl, rfl⟩ [(0, 0)] (by kernel_rfl) (by kernel_rfl) (by kernel_rfl) (by kernel_rfl) ?_
  refine CH.go 2 hτ (by kernel_rfl) ?_
  refine CH.endk ⟨[(0, .pt 0 0 0), (2, .pt 64 0 0), (3, .pt 128 0 0)], [(0, some (.box [.k 0 (.sl (bs.map dB)), .d (.v (.int .i64 i16)), .d (.v (.bool h17))])), (64, some (.box [.d (.v (.int .i64 0)), .d (.v (.string (⟨#[]⟩ : ByteArray))), .d (.v (.string (⟨#[]⟩ : ByteArray))), .d (.v (.int .i64 0)), .d (.v (.int .i64 0))])), (128, some (.box [.d (.v (.int .i64 r1)), .d (.v (.string r7)), .d (.v (.string r13)), .d (.v (.int .i64 0)), .d (.v (.int .i64 0))]))], 288⟩ (by kernel_rfl) (by kernel_rfl) rfl ?_
  refine X.seq ?_
  have hs2 := hrs
  have W3 := fun (t : S26) (r : List Int) (ht : txOk t = true) (hR : RS bs i0 h0 (encTx t ++ r)) => hrf t.f2 _ (tx_s2 ht) (W2 t r ht hR).1
  refine X.rs 1 hτ hmix (by kernel_rfl) ?_
  obtain ⟨r19, i22, h23, hr21, hi24, hf20⟩ := i_gnum bs i16 h17 (by first | assumption | omega) (by omega) (by first | assumption | omega)
  obtain ⟨hrb, hrf⟩ := hr21
  refine CH.call hf20 Try.func134 ⟨rfl, rfl⟩ [(0, 0)] (by kernel_rfl) (by kernel_rfl) (by kernel_rfl) (by kernel_rfl) ?_
  refine CH.go 2 hτ (by kernel_rfl) ?_
  refine CH.endk ⟨[(0, .pt 0 0 0), (2, .pt 64 0 0), (3, .pt 128 0 0)], [(0, some (.box [.k 0 (.sl (bs.map dB)), .d (.v (.int .i64 i22)), .d (.v (.bool h23))])), (64, some (.box [.d (.v (.int .i64 0)), .d (.v (.string (⟨#[]⟩ : ByteArray))), .d (.v (.string (⟨#[]⟩ : ByteArray))), .d (.v (.int .i64 0)), .d (.v (.int .i64 0))])), (128, some (.box [.d (.v (.int .i64 r1)), .d (.v (.string r7)), .d (.v (.string r13)), .d (.v (.int .i64 r19)), .d (.v (.int .i64 0))]))], 352⟩ (by kernel_rfl) (by kernel_rfl) rfl ?_
  refine X.seq ?_
  have W4 := fun (t : S26) (r : List Int) (ht : txOk t = true) (hR : RS bs i0 h0 (encTx t ++ r)) => hrf t.f3 _ (tx_n3 ht) (W3 t r ht hR).1
  refine X.rs 1 hτ hmix (by kernel_rfl) ?_
  obtain ⟨r25, i28, h29, hr27, hi30, hf26⟩ := i_gnum bs i22 h23 (by first | assumption | omega) (by omega) (by first | assumption | omega)
  obtain ⟨hrb, hrf⟩ := hr27
  refine CH.call hf26 Try.func134 ⟨rfl, rfl⟩ [(0, 0)] (by kernel_rfl) (by kernel_rfl) (by kernel_rfl) (by kernel_rfl) ?_
  refine CH.go 2 hτ (by kernel_rfl) ?_
  refine CH.endk ⟨[(0, .pt 0 0 0), (2, .pt 64 0 0), (3, .pt 128 0 0)], [(0, some (.box [.k 0 (.sl (bs.map dB)), .d (.v (.int .i64 i28)), .d (.v (.bool h29))])), (64, some (.box [.d (.v (.int .i64 0)), .d (.v (.string (⟨#[]⟩ : ByteArray))), .d (.v (.string (⟨#[]⟩ : ByteArray))), .d (.v (.int .i64 0)), .d (.v (.int .i64 0))])), (128, some (.box [.d (.v (.int .i64 r1)), .d (.v (.string r7)), .d (.v (.string r13)), .d (.v (.int .i64 r19)), .d (.v (.int .i64 r25))]))], 416⟩ (by kernel_rfl) (by kernel_rfl) rfl ?_
  refine X.seq ?_
  refine X.seq ?_
  have W5 := fun (t : S26) (r : List Int) (ht : txOk t = true) (hR : RS bs i0 h0 (encTx t ++ r)) => hrf t.f4 _ (tx_n4 ht) (W4 t r ht hR).1
  refine X.rs 1 hτ hmix (by kernel_rfl) ?_
  obtain ⟨r31, hr33, hf32⟩ := i_TxOk (⟨r1, r7, r13, r19, r25⟩ : S26) (by exact ⟨hs1, hs2⟩)
  replace hr33 := hr33.symm; subst hr33
  refine CH.call hf32 Try.func57 ⟨rfl, rfl⟩ [] (by kernel_rfl) (by kernel_rfl) (by kernel_rfl) (by kernel_rfl) ?_
  refine CH.go 1 hτ (by kernel_rfl) ?_
  refine CH.endk ⟨[(0, .pt 0 0 0), (2, .pt 64 0 0), (3, .pt 128 0 0), (21, bV (!(txOk (⟨r1, r7, r13, r19, r25⟩ : S26))))], [(0, some (.box [.k 0 (.sl (bs.map dB)), .d (.v (.int .i64 i28)), .d (.v (.bool h29))])), (64, some (.box [.d (.v (.int .i64 0)), .d (.v (.string (⟨#[]⟩ : ByteArray))), .d (.v (.string (⟨#[]⟩ : ByteArray))), .d (.v (.int .i64 0)), .d (.v (.int .i64 0))])), (128, some (.box [.d (.v (.int .i64 r1)), .d (.v (.string r7)), .d (.v (.string r13)), .d (.v (.int .i64 r19)), .d (.v (.int .i64 r25))]))], 464⟩ (by kernel_rfl) (by kernel_rfl) rfl ?_
  refine X.if_ (b := !(txOk (⟨r1, r7, r13, r19, r25⟩ : S26))) (by kernel_rfl) (fun hb35 => ?_) (fun hb35 => ?_)
  ·replace hb35 := bnot_yes (hb35)
   refine X.rk ⟨[(2, .pt 64 0 0), (3, .pt 128 0 0)], [(0, some (.box [.k 0 (.sl (bs.map dB)), .d (.v (.int .i64 i28)), .d (.v (.bool true))])), (64, some (.box [.d (.v (.int .i64 0)), .d (.v (.string (⟨#[]⟩ : ByteArray))), .d (.v (.string (⟨#[]⟩ : ByteArray))), .d (.v (.int .i64 0)), .d (.v (.int .i64 0))])), (128, some (.box [.d (.v (.int .i64 r1)), .d (.v (.string r7)), .d (.v (.string r13)), .d (.v (.int .i64 r19)), .d (.v (.int .i64 r25))]))], 528⟩ hτ hmix (by kernel_rfl) (by kernel_rfl) rfl ?_
   refine X.seq ?_
   refine X.rk ⟨[(2, .pt 64 0 0)], [(0, some (.box [.k 0 (.sl (bs.map dB)), .d (.v (.int .i64 i28)), .d (.v (.bool true))])), (64, some (.box [.d (.v (.int .i64 r1)), .d (.v (.string r7)), .d (.v (.string r13)), .d (.v (.int .i64 r19)), .d (.v (.int .i64 r25))]))], 560⟩ hτ hmix (by kernel_rfl) (by kernel_rfl) rfl ?_
   refine X.ret ?_
   exact ⟨trivial, _, _, ⟨(⟨r1, r7, r13, r19, r25⟩ : S26), i28, true, (by first | exact ⟨⟨hs1, hs2⟩, fun t r ht hR => tf ((congrArg txOk (tx_eq (W1 t r ht hR).2 (W2 t r ht hR).2 (W3 t r ht hR).2 (W4 t r ht hR).2 (W5 t r ht hR).2)).trans ht) ‹txOk _ = false›⟩ | exact ⟨⟨hs1, hs2⟩, fun t r ht hR => ⟨(W5 t r ht hR).1, tx_eq (W1 t r ht hR).2 (W2 t r ht hR).2 (W3 t r ht hR).2 (W4 t r ht hR).2 (W5 t r ht hR).2⟩⟩), (by omega), rfl, rfl⟩, .inl (Ret.mk' [] (by kernel_rfl) (by kernel_rfl) (by kernel_rfl))⟩
  ·replace hb35 := bnot_no (hb35)
   refine X.skip ?_
   refine X.seq ?_
   refine X.rk ⟨[(2, .pt 64 0 0)], [(0, some (.box [.k 0 (.sl (bs.map dB)), .d (.v (.int .i64 i28)), .d (.v (.bool h29))])), (64, some (.box [.d (.v (.int .i64 r1)), .d (.v (.string r7)), .d (.v (.string r13)), .d (.v (.int .i64 r19)), .d (.v (.int .i64 r25))]))], 496⟩ hτ hmix (by kernel_rfl) (by kernel_rfl) rfl ?_
   refine X.ret ?_
   exact ⟨trivial, _, _, ⟨(⟨r1, r7, r13, r19, r25⟩ : S26), i28, h29, (by first | exact ⟨⟨hs1, hs2⟩, fun t r ht hR => tf ((congrArg txOk (tx_eq (W1 t r ht hR).2 (W2 t r ht hR).2 (W3 t r ht hR).2 (W4 t r ht hR).2 (W5 t r ht hR).2)).trans ht) ‹txOk _ = false›⟩ | exact ⟨⟨hs1, hs2⟩, fun t r ht hR => ⟨(W5 t r ht hR).1, tx_eq (W1 t r ht hR).2 (W2 t r ht hR).2 (W3 t r ht hR).2 (W4 t r ht hR).2 (W5 t r ht hR).2⟩⟩), (by omega), rfl, rfl⟩, .inl (Ret.mk' [] (by kernel_rfl) (by kernel_rfl) (by kernel_rfl))⟩
 obtain ⟨_, _, ⟨r0, i1, h1, h1_, h2_, rfl, rfl⟩, hf⟩ := key
 exact ⟨r0, i1, h1, h1_, h2_, hf⟩

theorem b_equal (x : List Int) (y : List Int) : ∃ r0 : Bool, (r0 = ((strOf x).toList == (strOf y).toList)) ∧ Fn Try.prog 79 [lV (x.map dB), lV (y.map dB)] (lookH []) (bV r0) (lookH []) := by
 have key : ∃ x' h', ((fun x' h' => ∃ r0 : Bool, (r0 = ((strOf x).toList == (strOf y).toList)) ∧ x' = bV r0 ∧ h' = [])) x' h' ∧ Fn Try.prog 79 [lV (x.map dB), lV (y.map dB)] (lookH []) x' (lookH h') := by
  refine Fn.bodyX (N := 10) hτ Try.func79 rfl rfl rfl rfl ?_
  refine X.seq ?_
  refine X.rk ⟨[(0, lV (x.map dB)), (1, lV (y.map dB))], [], 80⟩ hτ hmix (by kernel_rfl) (by kernel_rfl) rfl ?_
  refine X.seq ?_
  refine X.rs 1 hτ hmix (by kernel_rfl) ?_
  refine CH.b2s hτ (cc := .d (.sl (x.map dB))) (ns := x) (el := 5) (by kernel_rfl) (by kernel_rfl) Try.underlying5 ?_
  refine CH.go 1 hτ (by kernel_rfl) ?_
  refine CH.b2s hτ (cc := .d (.sl (y.map dB))) (ns := y) (el := 5) (by kernel_rfl) (by kernel_rfl) Try.underlying5 ?_
  refine CH.go 2 hτ (by kernel_rfl) ?_
  refine CH.endk ⟨[(4, bV ((strOf x).toList == (strOf y).toList))], [], 176⟩ (by kernel_rfl) (by kernel_rfl) rfl ?_
  refine X.ret ?_
  exact ⟨trivial, _, _, ⟨((strOf x).toList == (strOf y).toList), rfl, rfl, rfl⟩, .inl (Ret.mk' [] (by kernel_rfl) (by kernel_rfl) (by kernel_rfl))⟩
 obtain ⟨_, _, ⟨r0, h1_, rfl, rfl⟩, hf⟩ := key
 exact ⟨r0, h1_, hf⟩

end Go.Proofs.Ytnieghbgcjbnhaa.Av
