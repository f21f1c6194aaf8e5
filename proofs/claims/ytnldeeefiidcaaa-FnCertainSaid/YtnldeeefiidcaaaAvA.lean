/-
What functions of the program come to, walked one by one.
Conditions: none beside those that each theorem names.
-/
import Derived.Test.YtnldeeefiidcaaaAv22
import Derived.Test.YtnldeeefiidcaaaAvT
set_option linter.unusedVariables false
set_option linter.unusedSimpArgs false
namespace Go.Proofs.Ytnldeeefiidcaaa.Av
open Go.RowKit
set_option maxRecDepth 20000
set_option maxHeartbeats 4000000
def SmS (s : ByteArray) : Prop := s.size ≤ 100000
def SmN (l : List ByteArray) : Prop := l.length ≤ 100000 ∧ ∀ s, s ∈ l → SmS s
def Sm31 (q : S31) : Prop := SmN q.f2
def Sm55 (q : S55) : Prop := SmN q.f1 ∧ q.f2.length ≤ 100000
def Sm120 (q : S120) : Prop := SmS q.f1 ∧ SmS q.f2
def Sm122 (q : S122) : Prop := SmS q.f0
def SmT (l : List S120) : Prop := l.length ≤ 100000 ∧ ∀ x, x ∈ l → Sm120 x
def SmV (l : List S122) : Prop := l.length ≤ 100000 ∧ ∀ x, x ∈ l → Sm122 x
def Sm59 (q : S59) : Prop := SmS q.f3 ∧ Sm31 q.f4 ∧ Sm55 q.f5 ∧ SmT q.f6 ∧ SmV q.f8 ∧ SmS q.f9 ∧ -1 ≤ q.f0 ∧ q.f0 ≤ 300000
def SmL (l : List S59) : Prop := l.length ≤ 100000 ∧ ∀ x, x ∈ l → Sm59 x
theorem all_at {α : Type} {p : α → Prop} {l : List α} (h : ∀ x, x ∈ l → p x) {i : Nat} {x : α} (hx : l[i]? = some x) : p x := h x (List.mem_of_getElem? hx)
theorem all_app {α : Type} {p : α → Prop} {l l' : List α} (h : ∀ x, x ∈ l → p x) (h' : ∀ x, x ∈ l' → p x) : ∀ x, x ∈ l ++ l' → p x := fun x hx => (List.mem_append.1 hx).elim (h x) (h' x)
theorem all_one {α : Type} {p : α → Prop} {x : α} (h : p x) : ∀ y, y ∈ [x] → p y := fun y hy => by rw [List.mem_singleton.1 hy]; exact h
theorem all_two {α : Type} {p : α → Prop} {x y : α} (h : p x) (h' : p y) : ∀ z, z ∈ [x, y] → p z := fun z hz => (List.mem_cons.1 hz).elim (fun e => e ▸ h) (fun e => all_one h' z e)
theorem all_set {α : Type} {p : α → Prop} {l : List α} (h : ∀ x, x ∈ l → p x) {i : Nat} {y : α} (hy : p y) : ∀ x, x ∈ l.set i y → p x := fun x hx => (List.mem_or_eq_of_mem_set hx).elim (h x) (fun e => e ▸ hy)
theorem all_nil {α : Type} {p : α → Prop} : ∀ y : α, y ∈ ([] : List α) → p y := fun y hy => by cases hy
theorem mem_small {r : ByteArray} {l : List ByteArray} (h : r ∈ l) (hl : (l.all fun s => Nat.ble s.size 100000) = true) : SmS r := Nat.le_of_ble_eq_true (List.all_eq_true.1 hl r h)
theorem SmL.at {l : List S59} (h : SmL l) {i : Nat} {x : S59} (hx : l[i]? = some x) : Sm59 x := all_at h.2 hx
theorem take_succ {α : Type} {l : List α} {i : Int} {x : α} (h0 : 0 ≤ i) (hx : l[i.toNat]? = some x) : l.take i.toNat ++ [x] = l.take (i + 1).toNat := by
  rw [show (i + 1).toNat = i.toNat + 1 by omega, List.take_add_one, hx]; rfl
theorem take_all {α : Type} {l : List α} {i : Int} (h : ¬ i < (l.length : Int)) : l.take i.toNat = l := List.take_of_length_le (by omega)
theorem add_next {l r : List S59} {b : S59} {n m : Int} (hA : ∀ x, x ∈ l → Sm59 x ∧ 0 ≤ x.f0 ∧ x.f0 + n ≤ 90001) (has : ∀ x, x ∈ r → Sm59 x ∧ (x ∈ l ∨ x = b)) (h1 : 0 ≤ b.f0) (h2 : b.f0 + m ≤ 90001) (hm : m ≤ n) : ∀ x, x ∈ r → Sm59 x ∧ 0 ≤ x.f0 ∧ x.f0 + m ≤ 90001 := fun x hx => by
  obtain ⟨q1, q2 | rfl⟩ := has x hx
  · have := hA x q2
    exact ⟨q1, this.2.1, by omega⟩
  · exact ⟨q1, h1, h2⟩
theorem add_less {l : List S59} {n m : Int} (hA : ∀ x, x ∈ l → Sm59 x ∧ 0 ≤ x.f0 ∧ x.f0 + n ≤ 90001) (hm : m ≤ n) : ∀ x, x ∈ l → Sm59 x ∧ 0 ≤ x.f0 ∧ x.f0 + m ≤ 90001 := fun x hx => by
  have := hA x hx
  exact ⟨this.1, this.2.1, by omega⟩
def idAt (l : List S59) (id : Int) : Int := match l.findIdx? (fun b => b.f0 == id) with
  | some i => i
  | none => -1
theorem idAt_yes {l : List S59} {id i : Int} {x : S59} (h0 : 0 ≤ i) (hx : l[i.toNat]? = some x) (h : x.f0 = id) (hn : ∀ (j : Nat) (y : S59), j < i.toNat → l[j]? = some y → y.f0 ≠ id) : idAt l id = i := by
  have : l.findIdx? (fun b => b.f0 == id) = some i.toNat := by
    rw [List.findIdx?_eq_some_iff_getElem]
    obtain ⟨hl, he⟩ := List.getElem?_eq_some_iff.1 hx
    refine ⟨hl, by rw [he]; simpa using h, fun j hj => ?_⟩
    have := hn j _ hj (List.getElem?_eq_getElem (by omega))
    simpa using this
  unfold idAt
  rw [this]
  show ((i.toNat : Nat) : Int) = i
  omega
theorem idAt_no {l : List S59} {id : Int} (hn : ∀ (j : Nat) (y : S59), l[j]? = some y → y.f0 ≠ id) : idAt l id = -1 := by
  have : l.findIdx? (fun b => b.f0 == id) = none := by
    rw [List.findIdx?_eq_none_iff]
    intro x hx
    obtain ⟨j, hj⟩ := List.mem_iff_getElem?.1 hx
    simpa using hn j x hj
  unfold idAt
  rw [this]
theorem strOf_size (ns : List Int) : (strOf ns).size = ns.length := by
  have : ∀ (ns : List Int) (s : ByteArray), (ns.foldl (fun r n => r.push (UInt8.ofNat n.toNat)) s).size = s.size + ns.length := by
    intro ns
    induction ns with
    | nil => intro s; simp
    | cons n ns ih => intro s; rw [List.foldl_cons, ih, ByteArray.size_push]; simp; omega
  have h := this ns ByteArray.empty
  simpa [strOf] using h
theorem idAt_bd (l : List S59) (id : Int) : -1 ≤ idAt l id ∧ idAt l id < (l.length : Int) := by
  unfold idAt
  split
  · rename_i i h
    have := (List.findIdx?_eq_some_iff_getElem.1 h).1
    omega
  · omega
theorem before_succ {l : List S59} {id i : Int} {x : S59} (h0 : 0 ≤ i) (hx : l[i.toNat]? = some x) (h : x.f0 ≠ id) (hn : ∀ (j : Nat) (y : S59), j < i.toNat → l[j]? = some y → y.f0 ≠ id) : ∀ (j : Nat) (y : S59), j < (i + 1).toNat → l[j]? = some y → y.f0 ≠ id := fun j y hj hy => by
  by_cases he : j = i.toNat
  · subst he; rw [hx] at hy; cases hy; exact h
  · exact hn j y (by omega) hy
theorem s_l1New (code : List Int) (hl : code.length ≤ 4611686018427387904) : ∃ i1 h1 : Int, (i1 = 0) ∧ Fn Try.prog 91 [.e (.c (.k 0 (.sl (code.map dB))))] (lookH []) (.pt 64 0 0) (lookH [(64, some (.box [.k 0 (.sl (code.map dB)), .d (.v (.int .i64 i1)), .d (.v (.int .i64 h1))]))]) := by
  have key : ∃ x' h', ((fun x' h' => ∃ i1 h1 : Int, (i1 = 0) ∧ x' = .pt 64 0 0 ∧ h' = [(64, some (.box [.k 0 (.sl (code.map dB)), .d (.v (.int .i64 i1)), .d (.v (.int .i64 h1))]))])) x' h' ∧ Fn Try.prog 91 [.e (.c (.k 0 (.sl (code.map dB))))] (lookH []) x' (lookH h') := by
    refine Fn.bodyX (N := 32) hτ Try.func91 rfl rfl rfl rfl ?_
    refine X.seq ?_
    refine X.rk ⟨[(0, .e (.c (.k 0 (.sl (code.map dB)))))], [], 80⟩ hτ hmix (by kernel_rfl) (by kernel_rfl) rfl ?_
    refine X.seq ?_
    have el1 : (code.map dB).length = code.length := List.length_map ..
    refine X.rk ⟨[(0, .e (.c (.k 0 (.sl (code.map dB))))), (3, .e (.c (.d (.v (.int .i64 (wr .i64 (366366 + ((code.map dB).length : Int))))))))], [], 144⟩ hτ hmix (by kernel_rfl) (by kernel_rfl) rfl ?_
    refine X.seq ?_
    refine X.seq ?_
    refine X.rk ⟨[(0, .e (.c (.k 0 (.sl (code.map dB))))), (3, .e (.c (.d (.v (.int .i64 (wr .i64 (366366 + ((code.map dB).length : Int)))))))), (4, .e (.c (.d (.v (.int .i64 0)))))], [], 160⟩ hτ hmix (by kernel_rfl) (by kernel_rfl) rfl ?_
    refine X.block ?_
    -- 3: v3 : Int, v4 : Int
    refine X.loop (σ := { g : Int × Int // (fun (v3 : Int) (v4 : Int) => 0 ≤ v4 ∧ v4 ≤ code.length) g.1 g.2 }) (fun g => (fun (v3 : Int) (v4 : Int) => ⟨[(0, .e (.c (.k 0 (.sl (code.map dB))))), (3, .e (.c (.d (.v (.int .i64 v3))))), (4, .e (.c (.d (.v (.int .i64 v4)))))], [], 160⟩) g.1.1 g.1.2) (fun g => (fun (v3 : Int) (v4 : Int) => (code.length - v4).toNat) g.1.1 g.1.2) ⟨(wr .i64 (366366 + ((code.map dB).length : Int)), 0), by first | exact rfl | omega | (dsimp only; omega) | (simp only [List.length_append, List.length_cons, List.length_nil, List.length_set]; omega) | (simp; done) | (simp; omega)⟩ (Wk.less (by kernel_rfl)) (fun g => ?_)
    obtain ⟨⟨v3, v4⟩, hg3⟩ := g
    have hg3 : 0 ≤ v4 ∧ v4 ≤ code.length := hg3
    refine X.seq ?_
    refine X.seq ?_
    refine X.rs 5 hτ hmix (by kernel_rfl) ?_
    rcases Bool.eq_false_or_eq_true (decide ((v4 : Int) < ((code.map dB).length : Int))) with hb4 | hb4
    · refine CH.alt 11 (sV (.bool (decide ((v4 : Int) < ((code.map dB).length : Int))))) (sV (.bool true)) (by kernel_rfl) (by rw [hb4]) ?_
      refine CH.alt 12 (sV (.bool (decide ((v4 : Int) < ((code.map dB).length : Int))))) (sV (.bool true)) (by kernel_rfl) (by rw [hb4]) ?_
      replace hb4 := of_decide_eq_true hb4
      refine CH.go 3 hτ (by kernel_rfl) ?_
      refine CH.endk ⟨[(0, .e (.c (.k 0 (.sl (code.map dB))))), (3, .e (.c (.d (.v (.int .i64 v3))))), (4, .e (.c (.d (.v (.int .i64 v4))))), (15, .e (.c (.d (.v (.bool (decide ((v4 : Int) < 4000)))))))], [], 288⟩ (by kernel_rfl) (by kernel_rfl) rfl ?_
      refine X.if_ (b := decide ((v4 : Int) < 4000)) (by kernel_rfl) (fun hb5 => ?_) (fun hb5 => ?_)
      · replace hb5 := of_decide_eq_true hb5
        refine X.skip ?_
        refine X.seq ?_
        refine X.block ?_
        refine X.rs 4 hτ hmix (by kernel_rfl) ?_
        obtain ⟨x6, hx6⟩ : ∃ x, code[Int.toNat v4]? = some x := ⟨_, List.getElem?_eq_getElem (by first | omega | (simp; done) | (simp; omega))⟩
        refine CH.idx hτ (dB x6) (rows := (code.map dB)) (n := v4) (sz := 1) (by kernel_rfl) (by kernel_rfl) (by first | omega | (simp; done) | (simp; omega)) (by rw [List.getElem?_map, hx6]; rfl) (by kernel_rfl) ?_
        refine CH.go 6 hτ (by kernel_rfl) ?_
        have fa7 := and_le (wr .i64 ((wr .i64 ((wr .i64 (v3 * 137)) + (wr .i64 (x6)))) + 11)) 1073741823 30 rfl (by decide)
        refine CH.endk ⟨[(0, .e (.c (.k 0 (.sl (code.map dB))))), (3, .e (.c (.d (.v (.int .i64 (wr .i64 ((BitVec.ofInt 64 (wr .i64 ((wr .i64 ((wr .i64 (v3 * 137)) + (wr .i64 (x6)))) + 11)) &&& BitVec.ofInt 64 1073741823).toNat))))))), (4, .e (.c (.d (.v (.int .i64 v4)))))], [], 464⟩ (by kernel_rfl) (by kernel_rfl) rfl ?_
        refine X.gen (fun n8 : Int => ⟨[(0, .e (.c (.k 0 (.sl (code.map dB))))), (3, .e (.c (.d (.v (.int .i64 n8))))), (4, .e (.c (.d (.v (.int .i64 v4)))))], [], 464⟩) (wr .i64 ((BitVec.ofInt 64 (wr .i64 ((wr .i64 ((wr .i64 (v3 * 137)) + (wr .i64 (x6)))) + 11)) &&& BitVec.ofInt 64 1073741823).toNat)) (fun n8 hn8 => ?_)
        refine X.rk ⟨[(0, .e (.c (.k 0 (.sl (code.map dB))))), (3, .e (.c (.d (.v (.int .i64 n8))))), (4, .e (.c (.d (.v (.int .i64 (wrap64 (v4 + 1)))))))], [], 512⟩ hτ hmix (by kernel_rfl) (by kernel_rfl) (s2 := ⟨[(0, .e (.c (.k 0 (.sl (code.map dB))))), (3, .e (.c (.d (.v (.int .i64 n8))))), (4, .e (.c (.d (.v (.int .i64 (v4 + 1))))))], [], 512⟩) (congrArg (fun z : Int => (⟨[(0, .e (.c (.k 0 (.sl (code.map dB))))), (3, .e (.c (.d (.v (.int .i64 n8))))), (4, .e (.c (.d (.v (.int .i64 z)))))], [], 512⟩ : St)) (show wrap64 (v4 + 1) = (v4 + 1) by rw [w64 (n := (v4 + 1)) (by omega) (by omega)])) ?_
        refine ⟨⟨(n8, (v4 + 1)), by first | exact rfl | omega | (dsimp only; omega) | (simp only [List.length_append, List.length_cons, List.length_nil, List.length_set]; omega) | (simp; done) | (simp; omega)⟩, by first | exact rfl | omega | (dsimp only; omega) | (simp only [List.length_append, List.length_cons, List.length_nil, List.length_set]; omega) | (simp; done) | (simp; omega), Wk.mk' [] (by kernel_rfl) (by kernel_rfl) (by kernel_rfl)⟩
      · replace hb5 := of_decide_eq_false hb5
        refine X.exit ?_
        refine X.seq ?_
        refine X.rk ⟨[(2, .pt 336 0 0)], [(336, some (.box [.k 0 (.sl (code.map dB)), .d (.v (.int .i64 0)), .d (.v (.int .i64 v3))]))], 368⟩ hτ hmix (by kernel_rfl) (by kernel_rfl) rfl ?_
        refine X.ret ?_
        exact ⟨trivial, _, _, ⟨0, v3, by first | exact rfl | omega | (dsimp only; omega) | (simp only [List.length_append, List.length_cons, List.length_nil, List.length_set]; omega) | (simp; done) | (simp; omega), rfl, rfl⟩, .inl (Ret.mk' [(64, 336)] (by kernel_rfl) (by kernel_rfl) (by kernel_rfl))⟩
    · refine CH.alt 11 (sV (.bool (decide ((v4 : Int) < ((code.map dB).length : Int))))) (sV (.bool false)) (by kernel_rfl) (by rw [hb4]) ?_
      refine CH.alt 12 (sV (.bool (decide ((v4 : Int) < ((code.map dB).length : Int))))) (sV (.bool false)) (by kernel_rfl) (by rw [hb4]) ?_
      replace hb4 := of_decide_eq_false hb4
      refine CH.go 3 hτ (by kernel_rfl) ?_
      refine CH.endk ⟨[(0, .e (.c (.k 0 (.sl (code.map dB))))), (3, .e (.c (.d (.v (.int .i64 v3))))), (4, .e (.c (.d (.v (.int .i64 v4))))), (15, .e (.c (.d (.v (.bool false)))))], [], 288⟩ (by kernel_rfl) (by kernel_rfl) rfl ?_
      refine X.ifF (by kernel_rfl) ?_
      refine X.exit ?_
      refine X.seq ?_
      refine X.rk ⟨[(2, .pt 336 0 0)], [(336, some (.box [.k 0 (.sl (code.map dB)), .d (.v (.int .i64 0)), .d (.v (.int .i64 v3))]))], 368⟩ hτ hmix (by kernel_rfl) (by kernel_rfl) rfl ?_
      refine X.ret ?_
      exact ⟨trivial, _, _, ⟨0, v3, by first | exact rfl | omega | (dsimp only; omega) | (simp only [List.length_append, List.length_cons, List.length_nil, List.length_set]; omega) | (simp; done) | (simp; omega), rfl, rfl⟩, .inl (Ret.mk' [(64, 336)] (by kernel_rfl) (by kernel_rfl) (by kernel_rfl))⟩
  obtain ⟨_, _, ⟨i1, h1, q1, rfl, rfl⟩, hf⟩ := key
  exact ⟨i1, h1, q1, hf⟩

theorem s_l1Byte (bs : List Int) (i0 h0 : Int) (hl : bs.length ≤ 4611686018427387904) (hi : 0 ≤ i0 ∧ i0 ≤ bs.length)  : ∃ r0 : Int, ∃ i1 h1 : Int, (0 ≤ r0 ∧ r0 ≤ 255) ∧ (0 ≤ i1 ∧ i1 ≤ bs.length) ∧ Fn Try.prog 155 [.pt 0 0 0] (lookH [(0, some (.box [.k 0 (.sl (bs.map dB)), .k 1 (.v (.int .i64 i0)), .k 2 (.v (.int .i64 h0))]))]) (.e (.c (.d (.v (.int .i64 r0))))) (lookH [(0, some (.box [.k 0 (.sl (bs.map dB)), .d (.v (.int .i64 i1)), .d (.v (.int .i64 h1))]))]) := by
  have key : ∃ x' h', ((fun x' h' => ∃ r0 : Int, ∃ i1 h1 : Int, (0 ≤ r0 ∧ r0 ≤ 255) ∧ (0 ≤ i1 ∧ i1 ≤ bs.length) ∧ x' = .e (.c (.d (.v (.int .i64 r0)))) ∧ h' = [(0, some (.box [.k 0 (.sl (bs.map dB)), .d (.v (.int .i64 i1)), .d (.v (.int .i64 h1))]))])) x' h' ∧ Fn Try.prog 155 [.pt 0 0 0] (lookH [(0, some (.box [.k 0 (.sl (bs.map dB)), .k 1 (.v (.int .i64 i0)), .k 2 (.v (.int .i64 h0))]))]) x' (lookH h') := by
    refine Fn.bodyX (N := 58) hτ Try.func155 rfl rfl rfl rfl ?_
    refine X.seq ?_
    refine X.rk ⟨[(0, .pt 0 0 0)], [(0, some (.box [.k 0 (.sl (bs.map dB)), .d (.v (.int .i64 i0)), .d (.v (.int .i64 h0))]))], 80⟩ hτ hmix (by kernel_rfl) (by kernel_rfl) rfl ?_
    refine X.seq ?_
    refine X.rk ⟨[(0, .pt 0 0 0)], [(0, some (.box [.k 0 (.sl (bs.map dB)), .d (.v (.int .i64 i0)), .d (.v (.int .i64 (wr .i64 ((wr .i64 (h0 * 6364136223846793005)) + 1442695040888963407))))]))], 240⟩ hτ hmix (by kernel_rfl) (by kernel_rfl) rfl ?_
    refine X.gen (fun n1 : Int => ⟨[(0, .pt 0 0 0)], [(0, some (.box [.k 0 (.sl (bs.map dB)), .d (.v (.int .i64 i0)), .d (.v (.int .i64 n1))]))], 240⟩) (wr .i64 ((wr .i64 (h0 * 6364136223846793005)) + 1442695040888963407)) (fun n1 hn1 => ?_)
    refine X.seq ?_
    have fa2 := and_le (wr .i64 ((BitVec.ofInt 64 (n1 / 2 ^ min (Int.toNat 33) 64) ^^^ BitVec.ofInt 64 (n1 / 2 ^ min (Int.toNat 47) 64)).toNat)) 255 8 rfl (by decide)
    refine X.rk ⟨[(0, .pt 0 0 0), (3, .e (.c (.d (.v (.int .i64 (wr .i64 ((BitVec.ofInt 64 (wr .i64 ((BitVec.ofInt 64 (n1 / 2 ^ min (Int.toNat 33) 64) ^^^ BitVec.ofInt 64 (n1 / 2 ^ min (Int.toNat 47) 64)).toNat)) &&& BitVec.ofInt 64 255).toNat)))))))], [(0, some (.box [.k 0 (.sl (bs.map dB)), .d (.v (.int .i64 i0)), .d (.v (.int .i64 n1))]))], 448⟩ hτ hmix (by kernel_rfl) (by kernel_rfl) rfl ?_
    refine X.gen (fun n3 : Int => ⟨[(0, .pt 0 0 0), (3, .e (.c (.d (.v (.int .i64 n3)))))], [(0, some (.box [.k 0 (.sl (bs.map dB)), .d (.v (.int .i64 i0)), .d (.v (.int .i64 n1))]))], 448⟩) (wr .i64 ((BitVec.ofInt 64 (wr .i64 ((BitVec.ofInt 64 (n1 / 2 ^ min (Int.toNat 33) 64) ^^^ BitVec.ofInt 64 (n1 / 2 ^ min (Int.toNat 47) 64)).toNat)) &&& BitVec.ofInt 64 255).toNat)) (fun n3 hn3 => ?_)
    refine X.seq ?_
    refine X.seq ?_
    have el4 : (bs.map dB).length = bs.length := List.length_map ..
    refine X.rk ⟨[(0, .pt 0 0 0), (3, .e (.c (.d (.v (.int .i64 n3))))), (34, .e (.c (.d (.v (.bool (decide ((i0 : Int) < ((bs.map dB).length : Int))))))))], [(0, some (.box [.k 0 (.sl (bs.map dB)), .d (.v (.int .i64 i0)), .d (.v (.int .i64 n1))]))], 608⟩ hτ hmix (by kernel_rfl) (by kernel_rfl) rfl ?_
    refine X.if_ (b := decide ((i0 : Int) < ((bs.map dB).length : Int))) (by kernel_rfl) (fun hb5 => ?_) (fun hb5 => ?_)
    · replace hb5 := of_decide_eq_true hb5
      refine X.seq ?_
      refine X.rs 9 hτ hmix (by kernel_rfl) ?_
      obtain ⟨x6, hx6⟩ : ∃ x, bs[Int.toNat i0]? = some x := ⟨_, List.getElem?_eq_getElem (by first | omega | (simp; done) | (simp; omega))⟩
      refine CH.idx hτ (dB x6) (rows := (bs.map dB)) (n := i0) (sz := 1) (by kernel_rfl) (by kernel_rfl) (by first | omega | (simp; done) | (simp; omega)) (by rw [List.getElem?_map, hx6]; rfl) (by kernel_rfl) ?_
      refine CH.go 5 hτ (by kernel_rfl) ?_
      have fa7 := and_le (wr .i64 (n3 + (wr .i64 (x6)))) 255 8 rfl (by decide)
      refine CH.endk ⟨[(0, .pt 0 0 0), (3, .e (.c (.d (.v (.int .i64 (wr .i64 ((BitVec.ofInt 64 (wr .i64 (n3 + (wr .i64 (x6)))) &&& BitVec.ofInt 64 255).toNat)))))))], [(0, some (.box [.k 0 (.sl (bs.map dB)), .d (.v (.int .i64 i0)), .d (.v (.int .i64 n1))]))], 848⟩ (by kernel_rfl) (by kernel_rfl) rfl ?_
      refine X.gen (fun n8 : Int => ⟨[(0, .pt 0 0 0), (3, .e (.c (.d (.v (.int .i64 n8)))))], [(0, some (.box [.k 0 (.sl (bs.map dB)), .d (.v (.int .i64 i0)), .d (.v (.int .i64 n1))]))], 848⟩) (wr .i64 ((BitVec.ofInt 64 (wr .i64 (n3 + (wr .i64 (x6)))) &&& BitVec.ofInt 64 255).toNat)) (fun n8 hn8 => ?_)
      refine X.rk ⟨[(3, .e (.c (.d (.v (.int .i64 n8)))))], [(0, some (.box [.k 0 (.sl (bs.map dB)), .d (.v (.int .i64 (wrap64 (i0 + 1)))), .d (.v (.int .i64 n1))]))], 992⟩ hτ hmix (by kernel_rfl) (by kernel_rfl) (s2 := ⟨[(3, .e (.c (.d (.v (.int .i64 n8)))))], [(0, some (.box [.k 0 (.sl (bs.map dB)), .d (.v (.int .i64 (i0 + 1))), .d (.v (.int .i64 n1))]))], 992⟩) (congrArg (fun z : Int => (⟨[(3, .e (.c (.d (.v (.int .i64 n8)))))], [(0, some (.box [.k 0 (.sl (bs.map dB)), .d (.v (.int .i64 z)), .d (.v (.int .i64 n1))]))], 992⟩ : St)) (show wrap64 (i0 + 1) = (i0 + 1) by rw [w64 (n := (i0 + 1)) (by omega) (by omega)])) ?_
      refine X.seq ?_
      refine X.rk ⟨[(2, .e (.c (.d (.v (.int .i64 n8)))))], [(0, some (.box [.k 0 (.sl (bs.map dB)), .d (.v (.int .i64 (i0 + 1))), .d (.v (.int .i64 n1))]))], 1024⟩ hτ hmix (by kernel_rfl) (by kernel_rfl) rfl ?_
      refine X.ret ?_
      exact ⟨trivial, _, _, ⟨n8, (i0 + 1), n1, by first | exact rfl | omega | (dsimp only; omega) | (simp only [List.length_append, List.length_cons, List.length_nil, List.length_set]; omega) | (simp; done) | (simp; omega), (by omega), rfl, rfl⟩, .inl (Ret.mk' [] (by kernel_rfl) (by kernel_rfl) (by kernel_rfl))⟩
    · replace hb5 := of_decide_eq_false hb5
      refine X.skip ?_
      refine X.seq ?_
      refine X.rk ⟨[(2, .e (.c (.d (.v (.int .i64 n3)))))], [(0, some (.box [.k 0 (.sl (bs.map dB)), .d (.v (.int .i64 i0)), .d (.v (.int .i64 n1))]))], 640⟩ hτ hmix (by kernel_rfl) (by kernel_rfl) rfl ?_
      refine X.ret ?_
      exact ⟨trivial, _, _, ⟨n3, i0, n1, by first | exact rfl | omega | (dsimp only; omega) | (simp only [List.length_append, List.length_cons, List.length_nil, List.length_set]; omega) | (simp; done) | (simp; omega), (by omega), rfl, rfl⟩, .inl (Ret.mk' [] (by kernel_rfl) (by kernel_rfl) (by kernel_rfl))⟩
  obtain ⟨_, _, ⟨r0, i1, h1, q1, q2, rfl, rfl⟩, hf⟩ := key
  exact ⟨r0, i1, h1, q1, q2, hf⟩

theorem s_l1Below (bs : List Int) (i0 h0 : Int) (hl : bs.length ≤ 4611686018427387904) (hi : 0 ≤ i0 ∧ i0 ≤ bs.length) (n : Int) : ∃ r0 : Int, ∃ i1 h1 : Int, (0 ≤ r0 ∧ (r0 < n ∨ n ≤ 0 ∧ r0 = 0)) ∧ (0 ≤ i1 ∧ i1 ≤ bs.length) ∧ Fn Try.prog 97 [.pt 0 0 0, .e (.c (.d (.v (.int .i64 n))))] (lookH [(0, some (.box [.k 0 (.sl (bs.map dB)), .k 1 (.v (.int .i64 i0)), .k 2 (.v (.int .i64 h0))]))]) (.e (.c (.d (.v (.int .i64 r0))))) (lookH [(0, some (.box [.k 0 (.sl (bs.map dB)), .d (.v (.int .i64 i1)), .d (.v (.int .i64 h1))]))]) := by
  have key : ∃ x' h', ((fun x' h' => ∃ r0 : Int, ∃ i1 h1 : Int, (0 ≤ r0 ∧ (r0 < n ∨ n ≤ 0 ∧ r0 = 0)) ∧ (0 ≤ i1 ∧ i1 ≤ bs.length) ∧ x' = .e (.c (.d (.v (.int .i64 r0)))) ∧ h' = [(0, some (.box [.k 0 (.sl (bs.map dB)), .d (.v (.int .i64 i1)), .d (.v (.int .i64 h1))]))])) x' h' ∧ Fn Try.prog 97 [.pt 0 0 0, .e (.c (.d (.v (.int .i64 n))))] (lookH [(0, some (.box [.k 0 (.sl (bs.map dB)), .k 1 (.v (.int .i64 i0)), .k 2 (.v (.int .i64 h0))]))]) x' (lookH h') := by
    refine Fn.bodyX (N := 31) hτ Try.func97 rfl rfl rfl rfl ?_
    refine X.seq ?_
    refine X.rk ⟨[(0, .pt 0 0 0), (1, .e (.c (.d (.v (.int .i64 n)))))], [(0, some (.box [.k 0 (.sl (bs.map dB)), .d (.v (.int .i64 i0)), .d (.v (.int .i64 h0))]))], 80⟩ hτ hmix (by kernel_rfl) (by kernel_rfl) rfl ?_
    refine X.seq ?_
    refine X.seq ?_
    refine X.rk ⟨[(0, .pt 0 0 0), (1, .e (.c (.d (.v (.int .i64 n))))), (9, .e (.c (.d (.v (.bool (decide ((n : Int) ≤ 0)))))))], [(0, some (.box [.k 0 (.sl (bs.map dB)), .d (.v (.int .i64 i0)), .d (.v (.int .i64 h0))]))], 112⟩ hτ hmix (by kernel_rfl) (by kernel_rfl) rfl ?_
    refine X.if_ (b := decide ((n : Int) ≤ 0)) (by kernel_rfl) (fun hb1 => ?_) (fun hb1 => ?_)
    · replace hb1 := of_decide_eq_true hb1
      refine X.seq ?_
      refine X.rk ⟨[(4, .e (.c (.d (.v (.int .i64 0)))))], [(0, some (.box [.k 0 (.sl (bs.map dB)), .d (.v (.int .i64 i0)), .d (.v (.int .i64 h0))]))], 128⟩ hτ hmix (by kernel_rfl) (by kernel_rfl) rfl ?_
      refine X.ret ?_
      exact ⟨trivial, _, _, ⟨0, i0, h0, by first | exact rfl | omega | (dsimp only; omega) | (simp only [List.length_append, List.length_cons, List.length_nil, List.length_set]; omega) | (simp; done) | (simp; omega), (by omega), rfl, rfl⟩, .inl (Ret.mk' [] (by kernel_rfl) (by kernel_rfl) (by kernel_rfl))⟩
    · replace hb1 := of_decide_eq_false hb1
      refine X.skip ?_
      refine X.seq ?_
      refine X.seq ?_
      refine X.rk ⟨[(0, .pt 0 0 0), (1, .e (.c (.d (.v (.int .i64 n))))), (11, .e (.c (.d (.v (.bool (decide ((n : Int) ≤ 256)))))))], [(0, some (.box [.k 0 (.sl (bs.map dB)), .d (.v (.int .i64 i0)), .d (.v (.int .i64 h0))]))], 144⟩ hτ hmix (by kernel_rfl) (by kernel_rfl) rfl ?_
      refine X.if_ (b := decide ((n : Int) ≤ 256)) (by kernel_rfl) (fun hb2 => ?_) (fun hb2 => ?_)
      · replace hb2 := of_decide_eq_true hb2
        refine X.seq ?_
        refine X.rs 1 hτ hmix (by kernel_rfl) ?_
        obtain ⟨r3, i6, h7, hr5, hi8, hf4⟩ := s_l1Byte bs i0 h0 (by first | assumption | omega) (by omega)
        obtain ⟨_, _⟩ := hr5
        refine CH.call hf4 Try.func155 ⟨rfl, rfl⟩ [(0, 0)] (by kernel_rfl) (by kernel_rfl) (by kernel_rfl) (by kernel_rfl) ?_
        refine CH.go 1 hτ (by kernel_rfl) ?_
        obtain ⟨m9, hm9⟩ := ofN (n := n) (by first | omega | (simp; done) | (simp; omega))
        have ft10 := tmod_lt r3 n (by first | omega | (simp; done) | (simp; omega)) (by omega)
        rw [hm9] at ft10
        refine CH.alt 14 (sV (.int .i64 n)) (sV (.int .i64 (Int.ofNat (m9 + 1)))) (by kernel_rfl) (by rw [hm9]) ?_
        refine CH.go 2 hτ (by kernel_rfl) ?_
        refine CH.endk ⟨[(4, .e (.c (.d (.v (.int .i64 (Int.tmod r3 (Int.ofNat (m9 + 1))))))))], [(0, some (.box [.k 0 (.sl (bs.map dB)), .d (.v (.int .i64 i6)), .d (.v (.int .i64 h7))]))], 224⟩ (by kernel_rfl) (by kernel_rfl) rfl ?_
        refine X.ret ?_
        exact ⟨trivial, _, _, ⟨Int.tmod r3 (Int.ofNat (m9 + 1)), i6, h7, by first | exact rfl | omega | (dsimp only; omega) | (simp only [List.length_append, List.length_cons, List.length_nil, List.length_set]; omega) | (simp; done) | (simp; omega), (by omega), rfl, rfl⟩, .inl (Ret.mk' [] (by kernel_rfl) (by kernel_rfl) (by kernel_rfl))⟩
      · replace hb2 := of_decide_eq_false hb2
        refine X.skip ?_
        refine X.seq ?_
        refine X.rs 1 hτ hmix (by kernel_rfl) ?_
        obtain ⟨r11, i14, h15, hr13, hi16, hf12⟩ := s_l1Byte bs i0 h0 (by first | assumption | omega) (by omega)
        obtain ⟨_, _⟩ := hr13
        refine CH.call hf12 Try.func155 ⟨rfl, rfl⟩ [(0, 0)] (by kernel_rfl) (by kernel_rfl) (by kernel_rfl) (by kernel_rfl) ?_
        refine CH.go 1 hτ (by kernel_rfl) ?_
        refine CH.endk ⟨[(0, .pt 0 0 0), (1, .e (.c (.d (.v (.int .i64 n))))), (5, .e (.c (.d (.v (.int .i64 r11)))))], [(0, some (.box [.k 0 (.sl (bs.map dB)), .d (.v (.int .i64 i14)), .d (.v (.int .i64 h15))]))], 192⟩ (by kernel_rfl) (by kernel_rfl) rfl ?_
        refine X.seq ?_
        refine X.rs 1 hτ hmix (by kernel_rfl) ?_
        obtain ⟨r17, i20, h21, hr19, hi22, hf18⟩ := s_l1Byte bs i14 h15 (by first | assumption | omega) (by omega)
        obtain ⟨_, _⟩ := hr19
        refine CH.call hf18 Try.func155 ⟨rfl, rfl⟩ [(0, 0)] (by kernel_rfl) (by kernel_rfl) (by kernel_rfl) (by kernel_rfl) ?_
        refine CH.go 1 hτ (by kernel_rfl) ?_
        refine CH.endk ⟨[(0, .pt 0 0 0), (1, .e (.c (.d (.v (.int .i64 n))))), (5, .e (.c (.d (.v (.int .i64 r11))))), (6, .e (.c (.d (.v (.int .i64 r17)))))], [(0, some (.box [.k 0 (.sl (bs.map dB)), .d (.v (.int .i64 i20)), .d (.v (.int .i64 h21))]))], 240⟩ (by kernel_rfl) (by kernel_rfl) rfl ?_
        refine X.seq ?_
        refine X.rs 1 hτ hmix (by kernel_rfl) ?_
        obtain ⟨r23, i26, h27, hr25, hi28, hf24⟩ := s_l1Byte bs i20 h21 (by first | assumption | omega) (by omega)
        obtain ⟨_, _⟩ := hr25
        refine CH.call hf24 Try.func155 ⟨rfl, rfl⟩ [(0, 0)] (by kernel_rfl) (by kernel_rfl) (by kernel_rfl) (by kernel_rfl) ?_
        refine CH.go 1 hτ (by kernel_rfl) ?_
        refine CH.endk ⟨[(1, .e (.c (.d (.v (.int .i64 n))))), (5, .e (.c (.d (.v (.int .i64 r11))))), (6, .e (.c (.d (.v (.int .i64 r17))))), (7, .e (.c (.d (.v (.int .i64 r23)))))], [(0, some (.box [.k 0 (.sl (bs.map dB)), .d (.v (.int .i64 i26)), .d (.v (.int .i64 h27))]))], 288⟩ (by kernel_rfl) (by kernel_rfl) rfl ?_
        refine X.seq ?_
        refine X.rs 8 hτ hmix (by kernel_rfl) ?_
        obtain ⟨m29, hm29⟩ := ofN (n := n) (by first | omega | (simp; done) | (simp; omega))
        have ft30 := tmod_lt (((((r11 * 65536)) + ((r17 * 256)))) + r23) n (by first | omega | (simp; done) | (simp; omega)) (by omega)
        rw [hm29] at ft30
        refine CH.alt 29 (sV (.int .i64 n)) (sV (.int .i64 (Int.ofNat (m29 + 1)))) (by kernel_rfl) (by rw [hm29]) ?_
        refine CH.go 2 hτ (by kernel_rfl) ?_
        refine CH.endk ⟨[(4, .e (.c (.d (.v (.int .i64 (Int.tmod (wrap64 ((wrap64 ((wrap64 (r11 * 65536)) + (wrap64 (r17 * 256)))) + r23)) (Int.ofNat (m29 + 1))))))))], [(0, some (.box [.k 0 (.sl (bs.map dB)), .d (.v (.int .i64 i26)), .d (.v (.int .i64 h27))]))], 448⟩ (by kernel_rfl) (by kernel_rfl) (s2 := ⟨[(4, .e (.c (.d (.v (.int .i64 (Int.tmod ((((((r11 * 65536)) + ((r17 * 256)))) + r23)) (Int.ofNat (m29 + 1))))))))], [(0, some (.box [.k 0 (.sl (bs.map dB)), .d (.v (.int .i64 i26)), .d (.v (.int .i64 h27))]))], 448⟩) (congrArg (fun z : Int => (⟨[(4, .e (.c (.d (.v (.int .i64 z)))))], [(0, some (.box [.k 0 (.sl (bs.map dB)), .d (.v (.int .i64 i26)), .d (.v (.int .i64 h27))]))], 448⟩ : St)) (show Int.tmod (wrap64 ((wrap64 ((wrap64 (r11 * 65536)) + (wrap64 (r17 * 256)))) + r23)) (Int.ofNat (m29 + 1)) = Int.tmod ((((((r11 * 65536)) + ((r17 * 256)))) + r23)) (Int.ofNat (m29 + 1)) by rw [w64 (n := (r17 * 256)) (by omega) (by omega), w64 (n := (r11 * 65536)) (by omega) (by omega), w64 (n := (((r11 * 65536)) + ((r17 * 256)))) (by omega) (by omega), w64 (n := (((((r11 * 65536)) + ((r17 * 256)))) + r23)) (by omega) (by omega)])) ?_
        refine X.gen (fun n31 : Int => ⟨[(4, .e (.c (.d (.v (.int .i64 n31)))))], [(0, some (.box [.k 0 (.sl (bs.map dB)), .d (.v (.int .i64 i26)), .d (.v (.int .i64 h27))]))], 448⟩) (Int.tmod ((((((r11 * 65536)) + ((r17 * 256)))) + r23)) (Int.ofNat (m29 + 1))) (fun n31 hn31 => ?_)
        refine X.ret ?_
        exact ⟨trivial, _, _, ⟨n31, i26, h27, by first | exact rfl | omega | (dsimp only; omega) | (simp only [List.length_append, List.length_cons, List.length_nil, List.length_set]; omega) | (simp; done) | (simp; omega), (by omega), rfl, rfl⟩, .inl (Ret.mk' [] (by kernel_rfl) (by kernel_rfl) (by kernel_rfl))⟩
  obtain ⟨_, _, ⟨r0, i1, h1, q1, q2, rfl, rfl⟩, hf⟩ := key
  exact ⟨r0, i1, h1, q1, q2, hf⟩

theorem s_l1Once (bs : List Int) (i0 h0 : Int) (hl : bs.length ≤ 4611686018427387904) (hi : 0 ≤ i0 ∧ i0 ≤ bs.length) (n : Int) : ∃ r0 : Bool, ∃ i1 h1 : Int, (True) ∧ (0 ≤ i1 ∧ i1 ≤ bs.length) ∧ Fn Try.prog 96 [.pt 0 0 0, .e (.c (.d (.v (.int .i64 n))))] (lookH [(0, some (.box [.k 0 (.sl (bs.map dB)), .k 1 (.v (.int .i64 i0)), .k 2 (.v (.int .i64 h0))]))]) (.e (.c (.d (.v (.bool r0))))) (lookH [(0, some (.box [.k 0 (.sl (bs.map dB)), .d (.v (.int .i64 i1)), .d (.v (.int .i64 h1))]))]) := by
  have key : ∃ x' h', ((fun x' h' => ∃ r0 : Bool, ∃ i1 h1 : Int, (True) ∧ (0 ≤ i1 ∧ i1 ≤ bs.length) ∧ x' = .e (.c (.d (.v (.bool r0)))) ∧ h' = [(0, some (.box [.k 0 (.sl (bs.map dB)), .d (.v (.int .i64 i1)), .d (.v (.int .i64 h1))]))])) x' h' ∧ Fn Try.prog 96 [.pt 0 0 0, .e (.c (.d (.v (.int .i64 n))))] (lookH [(0, some (.box [.k 0 (.sl (bs.map dB)), .k 1 (.v (.int .i64 i0)), .k 2 (.v (.int .i64 h0))]))]) x' (lookH h') := by
    refine Fn.bodyX (N := 9) hτ Try.func96 rfl rfl rfl rfl ?_
    refine X.seq ?_
    refine X.rk ⟨[(0, .pt 0 0 0), (1, .e (.c (.d (.v (.int .i64 n)))))], [(0, some (.box [.k 0 (.sl (bs.map dB)), .d (.v (.int .i64 i0)), .d (.v (.int .i64 h0))]))], 80⟩ hτ hmix (by kernel_rfl) (by kernel_rfl) rfl ?_
    refine X.seq ?_
    refine X.rs 2 hτ hmix (by kernel_rfl) ?_
    obtain ⟨r1, i4, h5, hr3, hi6, hf2⟩ := s_l1Below bs i0 h0 (by first | assumption | omega) (by omega) n
    obtain ⟨_, _⟩ := hr3
    refine CH.call hf2 Try.func97 ⟨rfl, rfl⟩ [(0, 0)] (by kernel_rfl) (by kernel_rfl) (by kernel_rfl) (by kernel_rfl) ?_
    refine CH.go 2 hτ (by kernel_rfl) ?_
    refine CH.endk ⟨[(4, .e (.c (.d (.v (.bool (r1 == 0))))))], [(0, some (.box [.k 0 (.sl (bs.map dB)), .d (.v (.int .i64 i4)), .d (.v (.int .i64 h5))]))], 160⟩ (by kernel_rfl) (by kernel_rfl) rfl ?_
    refine X.ret ?_
    exact ⟨trivial, _, _, ⟨(r1 == 0), i4, h5, trivial, (by omega), rfl, rfl⟩, .inl (Ret.mk' [] (by kernel_rfl) (by kernel_rfl) (by kernel_rfl))⟩
  obtain ⟨_, _, ⟨r0, i1, h1, q1, q2, rfl, rfl⟩, hf⟩ := key
  exact ⟨r0, i1, h1, q1, q2, hf⟩

theorem s_l1Int (bs : List Int) (i0 h0 : Int) (hl : bs.length ≤ 4611686018427387904) (hi : 0 ≤ i0 ∧ i0 ≤ bs.length) (l : List Int) (hn : 0 < l.length) : ∃ r0 : Int, ∃ i1 h1 : Int, (r0 ∈ l) ∧ (0 ≤ i1 ∧ i1 ≤ bs.length) ∧ Fn Try.prog 152 [.pt 0 0 0, .e (.c (.d (.sl (l.map dI))))] (lookH [(0, some (.box [.k 0 (.sl (bs.map dB)), .k 1 (.v (.int .i64 i0)), .k 2 (.v (.int .i64 h0))]))]) (.e (.c (.d (.v (.int .i64 r0))))) (lookH [(0, some (.box [.k 0 (.sl (bs.map dB)), .d (.v (.int .i64 i1)), .d (.v (.int .i64 h1))]))]) := by
  have key : ∃ x' h', ((fun x' h' => ∃ r0 : Int, ∃ i1 h1 : Int, (r0 ∈ l) ∧ (0 ≤ i1 ∧ i1 ≤ bs.length) ∧ x' = .e (.c (.d (.v (.int .i64 r0)))) ∧ h' = [(0, some (.box [.k 0 (.sl (bs.map dB)), .d (.v (.int .i64 i1)), .d (.v (.int .i64 h1))]))])) x' h' ∧ Fn Try.prog 152 [.pt 0 0 0, .e (.c (.d (.sl (l.map dI))))] (lookH [(0, some (.box [.k 0 (.sl (bs.map dB)), .k 1 (.v (.int .i64 i0)), .k 2 (.v (.int .i64 h0))]))]) x' (lookH h') := by
    refine Fn.bodyX (N := 12) hτ Try.func152 rfl rfl rfl rfl ?_
    refine X.seq ?_
    refine X.rk ⟨[(0, .pt 0 0 0), (1, .e (.c (.d (.sl (l.map dI)))))], [(0, some (.box [.k 0 (.sl (bs.map dB)), .d (.v (.int .i64 i0)), .d (.v (.int .i64 h0))]))], 80⟩ hτ hmix (by kernel_rfl) (by kernel_rfl) rfl ?_
    refine X.seq ?_
    have el1 : (l.map dI).length = l.length := List.length_map ..
    refine X.rs 4 hτ hmix (by kernel_rfl) ?_
    obtain ⟨r2, i5, h6, hr4, hi7, hf3⟩ := s_l1Below bs i0 h0 (by first | assumption | omega) (by omega) ((l.map dI).length : Int)
    obtain ⟨_, _⟩ := hr4
    refine CH.call hf3 Try.func97 ⟨rfl, rfl⟩ [(0, 0)] (by kernel_rfl) (by kernel_rfl) (by kernel_rfl) (by kernel_rfl) ?_
    obtain ⟨x8, hx8⟩ : ∃ x, l[Int.toNat r2]? = some x := ⟨_, List.getElem?_eq_getElem (by first | omega | (simp; done) | (simp; omega))⟩
    refine CH.idx hτ (dI x8) (rows := (l.map dI)) (n := r2) (sz := 1) (by kernel_rfl) (by kernel_rfl) (by first | omega | (simp; done) | (simp; omega)) (by rw [List.getElem?_map, hx8]; rfl) (by kernel_rfl) ?_
    refine CH.go 2 hτ (by kernel_rfl) ?_
    refine CH.endk ⟨[(4, .e (.c (.d (.v (.int .i64 x8)))))], [(0, some (.box [.k 0 (.sl (bs.map dB)), .d (.v (.int .i64 i5)), .d (.v (.int .i64 h6))]))], 208⟩ (by kernel_rfl) (by kernel_rfl) rfl ?_
    refine X.ret ?_
    exact ⟨trivial, _, _, ⟨x8, i5, h6, List.mem_of_getElem? ‹_›, (by omega), rfl, rfl⟩, .inl (Ret.mk' [] (by kernel_rfl) (by kernel_rfl) (by kernel_rfl))⟩
  obtain ⟨_, _, ⟨r0, i1, h1, q1, q2, rfl, rfl⟩, hf⟩ := key
  exact ⟨r0, i1, h1, q1, q2, hf⟩

theorem s_l1Str (bs : List Int) (i0 h0 : Int) (hl : bs.length ≤ 4611686018427387904) (hi : 0 ≤ i0 ∧ i0 ≤ bs.length) (l : List ByteArray) (hn : 0 < l.length) : ∃ r0 : ByteArray, ∃ i1 h1 : Int, (r0 ∈ l) ∧ (0 ≤ i1 ∧ i1 ≤ bs.length) ∧ Fn Try.prog 170 [.pt 0 0 0, .e (.c (.d (.sl (l.map dS))))] (lookH [(0, some (.box [.k 0 (.sl (bs.map dB)), .k 1 (.v (.int .i64 i0)), .k 2 (.v (.int .i64 h0))]))]) (.e (.c (.d (.v (.string r0))))) (lookH [(0, some (.box [.k 0 (.sl (bs.map dB)), .d (.v (.int .i64 i1)), .d (.v (.int .i64 h1))]))]) := by
  have key : ∃ x' h', ((fun x' h' => ∃ r0 : ByteArray, ∃ i1 h1 : Int, (r0 ∈ l) ∧ (0 ≤ i1 ∧ i1 ≤ bs.length) ∧ x' = .e (.c (.d (.v (.string r0)))) ∧ h' = [(0, some (.box [.k 0 (.sl (bs.map dB)), .d (.v (.int .i64 i1)), .d (.v (.int .i64 h1))]))])) x' h' ∧ Fn Try.prog 170 [.pt 0 0 0, .e (.c (.d (.sl (l.map dS))))] (lookH [(0, some (.box [.k 0 (.sl (bs.map dB)), .k 1 (.v (.int .i64 i0)), .k 2 (.v (.int .i64 h0))]))]) x' (lookH h') := by
    refine Fn.bodyX (N := 12) hτ Try.func170 rfl rfl rfl rfl ?_
    refine X.seq ?_
    refine X.rk ⟨[(0, .pt 0 0 0), (1, .e (.c (.d (.sl (l.map dS)))))], [(0, some (.box [.k 0 (.sl (bs.map dB)), .d (.v (.int .i64 i0)), .d (.v (.int .i64 h0))]))], 80⟩ hτ hmix (by kernel_rfl) (by kernel_rfl) rfl ?_
    refine X.seq ?_
    have el1 : (l.map dS).length = l.length := List.length_map ..
    refine X.rs 4 hτ hmix (by kernel_rfl) ?_
    obtain ⟨r2, i5, h6, hr4, hi7, hf3⟩ := s_l1Below bs i0 h0 (by first | assumption | omega) (by omega) ((l.map dS).length : Int)
    obtain ⟨_, _⟩ := hr4
    refine CH.call hf3 Try.func97 ⟨rfl, rfl⟩ [(0, 0)] (by kernel_rfl) (by kernel_rfl) (by kernel_rfl) (by kernel_rfl) ?_
    obtain ⟨x8, hx8⟩ : ∃ x, l[Int.toNat r2]? = some x := ⟨_, List.getElem?_eq_getElem (by first | omega | (simp; done) | (simp; omega))⟩
    refine CH.idx hτ (dS x8) (rows := (l.map dS)) (n := r2) (sz := 1) (by kernel_rfl) (by kernel_rfl) (by first | omega | (simp; done) | (simp; omega)) (by rw [List.getElem?_map, hx8]; rfl) (by kernel_rfl) ?_
    refine CH.go 2 hτ (by kernel_rfl) ?_
    refine CH.endk ⟨[(4, .e (.c (.d (.v (.string x8)))))], [(0, some (.box [.k 0 (.sl (bs.map dB)), .d (.v (.int .i64 i5)), .d (.v (.int .i64 h6))]))], 208⟩ (by kernel_rfl) (by kernel_rfl) rfl ?_
    refine X.ret ?_
    exact ⟨trivial, _, _, ⟨x8, i5, h6, List.mem_of_getElem? ‹_›, (by omega), rfl, rfl⟩, .inl (Ret.mk' [] (by kernel_rfl) (by kernel_rfl) (by kernel_rfl))⟩
  obtain ⟨_, _, ⟨r0, i1, h1, q1, q2, rfl, rfl⟩, hf⟩ := key
  exact ⟨r0, i1, h1, q1, q2, hf⟩

theorem s_l1Name (bs : List Int) (i0 h0 : Int) (hl : bs.length ≤ 4611686018427387904) (hi : 0 ≤ i0 ∧ i0 ≤ bs.length)  : ∃ r0 : ByteArray, ∃ i1 h1 : Int, (SmS r0) ∧ (0 ≤ i1 ∧ i1 ≤ bs.length) ∧ Fn Try.prog 151 [.pt 0 0 0] (lookH [(0, some (.box [.k 0 (.sl (bs.map dB)), .k 1 (.v (.int .i64 i0)), .k 2 (.v (.int .i64 h0))]))]) (.e (.c (.d (.v (.string r0))))) (lookH [(0, some (.box [.k 0 (.sl (bs.map dB)), .d (.v (.int .i64 i1)), .d (.v (.int .i64 h1))]))]) := by
  have key : ∃ x' h', ((fun x' h' => ∃ r0 : ByteArray, ∃ i1 h1 : Int, (SmS r0) ∧ (0 ≤ i1 ∧ i1 ≤ bs.length) ∧ x' = .e (.c (.d (.v (.string r0)))) ∧ h' = [(0, some (.box [.k 0 (.sl (bs.map dB)), .d (.v (.int .i64 i1)), .d (.v (.int .i64 h1))]))])) x' h' ∧ Fn Try.prog 151 [.pt 0 0 0] (lookH [(0, some (.box [.k 0 (.sl (bs.map dB)), .k 1 (.v (.int .i64 i0)), .k 2 (.v (.int .i64 h0))]))]) x' (lookH h') := by
    refine Fn.bodyX (N := 6) hτ Try.func151 rfl rfl rfl rfl ?_
    refine X.seq ?_
    refine X.rk ⟨[(0, .pt 0 0 0)], [(0, some (.box [.k 0 (.sl (bs.map dB)), .d (.v (.int .i64 i0)), .d (.v (.int .i64 h0))]))], 80⟩ hτ hmix (by kernel_rfl) (by kernel_rfl) rfl ?_
    refine X.seq ?_
    refine X.rs 2 hτ hmix (by kernel_rfl) ?_
    obtain ⟨r1, i4, h5, hr3, hi6, hf2⟩ := s_l1Str bs i0 h0 (by first | assumption | omega) (by omega) ([(⟨#[97]⟩ : ByteArray), (⟨#[98]⟩ : ByteArray), (⟨#[99]⟩ : ByteArray), (⟨#[100]⟩ : ByteArray), (⟨#[101]⟩ : ByteArray), (⟨#[97, 49]⟩ : ByteArray)] : List ByteArray) (by first | omega | (simp; done) | (simp; omega))
    have hm := hr3
    refine CH.call hf2 Try.func170 ⟨rfl, rfl⟩ [(0, 0)] (by kernel_rfl) (by kernel_rfl) (by kernel_rfl) (by kernel_rfl) ?_
    refine CH.go 1 hτ (by kernel_rfl) ?_
    refine CH.endk ⟨[(2, .e (.c (.d (.v (.string r1)))))], [(0, some (.box [.k 0 (.sl (bs.map dB)), .d (.v (.int .i64 i4)), .d (.v (.int .i64 h5))]))], 144⟩ (by kernel_rfl) (by kernel_rfl) rfl ?_
    refine X.ret ?_
    exact ⟨trivial, _, _, ⟨r1, i4, h5, mem_small hm (by kernel_rfl), (by omega), rfl, rfl⟩, .inl (Ret.mk' [] (by kernel_rfl) (by kernel_rfl) (by kernel_rfl))⟩
  obtain ⟨_, _, ⟨r0, i1, h1, q1, q2, rfl, rfl⟩, hf⟩ := key
  exact ⟨r0, i1, h1, q1, q2, hf⟩

theorem s_l1Names (bs : List Int) (i0 h0 : Int) (hl : bs.length ≤ 4611686018427387904) (hi : 0 ≤ i0 ∧ i0 ≤ bs.length)  : ∃ r0 : List ByteArray, ∃ i1 h1 : Int, (r0.length ≤ 5 ∧ ∀ s, s ∈ r0 → SmS s) ∧ (0 ≤ i1 ∧ i1 ≤ bs.length) ∧ Fn Try.prog 104 [.pt 0 0 0] (lookH [(0, some (.box [.k 0 (.sl (bs.map dB)), .k 1 (.v (.int .i64 i0)), .k 2 (.v (.int .i64 h0))]))]) (.e (.c (.ref 64))) (lookH [(0, some (.box [.k 0 (.sl (bs.map dB)), .d (.v (.int .i64 i1)), .d (.v (.int .i64 h1))])), (64, some (.row 1 9 (r0.map dS) false true))]) := by
  have key : ∃ x' h', ((fun x' h' => ∃ r0 : List ByteArray, ∃ i1 h1 : Int, (r0.length ≤ 5 ∧ ∀ s, s ∈ r0 → SmS s) ∧ (0 ≤ i1 ∧ i1 ≤ bs.length) ∧ x' = .e (.c (.ref 64)) ∧ h' = [(0, some (.box [.k 0 (.sl (bs.map dB)), .d (.v (.int .i64 i1)), .d (.v (.int .i64 h1))])), (64, some (.row 1 9 (r0.map dS) false true))])) x' h' ∧ Fn Try.prog 104 [.pt 0 0 0] (lookH [(0, some (.box [.k 0 (.sl (bs.map dB)), .k 1 (.v (.int .i64 i0)), .k 2 (.v (.int .i64 h0))]))]) x' (lookH h') := by
    refine Fn.bodyX (N := 21) hτ Try.func104 rfl rfl rfl rfl ?_
    refine X.seq ?_
    refine X.rk ⟨[(0, .pt 0 0 0)], [(0, some (.box [.k 0 (.sl (bs.map dB)), .d (.v (.int .i64 i0)), .d (.v (.int .i64 h0))]))], 80⟩ hτ hmix (by kernel_rfl) (by kernel_rfl) rfl ?_
    refine X.seq ?_
    refine X.rk ⟨[(0, .pt 0 0 0), (3, .e (.c (.ref 80)))], [(0, some (.box [.k 0 (.sl (bs.map dB)), .d (.v (.int .i64 i0)), .d (.v (.int .i64 h0))])), (80, some (.row 1 9 [] false true))], 112⟩ hτ hmix (by kernel_rfl) (by kernel_rfl) rfl ?_
    refine X.seq ?_
    refine X.seq ?_
    refine X.rk ⟨[(0, .pt 0 0 0), (3, .e (.c (.ref 80))), (4, .e (.c (.d (.v (.int .i64 0)))))], [(0, some (.box [.k 0 (.sl (bs.map dB)), .d (.v (.int .i64 i0)), .d (.v (.int .i64 h0))])), (80, some (.row 1 9 [] false true))], 128⟩ hτ hmix (by kernel_rfl) (by kernel_rfl) rfl ?_
    refine X.block ?_
    -- 3: c0_1 : Int, c0_2 : Int, Lv3 : List ByteArray, v4 : Int
    refine X.loop (σ := { g : Int × Int × (List ByteArray) × Int // (fun (c0_1 : Int) (c0_2 : Int) (Lv3 : List ByteArray) (v4 : Int) => (0 ≤ c0_1 ∧ c0_1 ≤ bs.length) ∧ (0 ≤ v4 ∧ v4 ≤ 5 ∧ Lv3.length ≤ v4 ∧ ∀ s, s ∈ Lv3 → SmS s)) g.1 g.2.1 g.2.2.1 g.2.2.2 }) (fun g => (fun (c0_1 : Int) (c0_2 : Int) (Lv3 : List ByteArray) (v4 : Int) => ⟨[(0, .pt 0 0 0), (3, .e (.c (.ref 80))), (4, .e (.c (.d (.v (.int .i64 v4)))))], [(0, some (.box [.k 0 (.sl (bs.map dB)), .d (.v (.int .i64 c0_1)), .d (.v (.int .i64 c0_2))])), (80, some (.row 1 9 (Lv3.map dS) false true))], 128⟩) g.1.1 g.1.2.1 g.1.2.2.1 g.1.2.2.2) (fun g => (fun (c0_1 : Int) (c0_2 : Int) (Lv3 : List ByteArray) (v4 : Int) => (5 - v4).toNat) g.1.1 g.1.2.1 g.1.2.2.1 g.1.2.2.2) ⟨(i0, h0, [], 0), ⟨by first | omega | (dsimp only; omega), ⟨by first | omega | (dsimp only; omega), by simp, by simp, all_nil⟩⟩⟩ (Wk.less (by kernel_rfl)) (fun g => ?_)
    obtain ⟨⟨c0_1, c0_2, Lv3, v4⟩, hg2⟩ := g
    have hg2 : (0 ≤ c0_1 ∧ c0_1 ≤ bs.length) ∧ (0 ≤ v4 ∧ v4 ≤ 5 ∧ Lv3.length ≤ v4 ∧ ∀ s, s ∈ Lv3 → SmS s) := hg2
    obtain ⟨⟨_, _⟩, ⟨_, _, _, hA⟩⟩ := hg2
    refine X.seq ?_
    refine X.seq ?_
    refine X.rk ⟨[(0, .pt 0 0 0), (3, .e (.c (.ref 80))), (4, .e (.c (.d (.v (.int .i64 v4))))), (7, .e (.c (.d (.v (.bool (decide ((v4 : Int) < 5)))))))], [(0, some (.box [.k 0 (.sl (bs.map dB)), .d (.v (.int .i64 c0_1)), .d (.v (.int .i64 c0_2))])), (80, some (.row 1 9 (Lv3.map dS) false true))], 160⟩ hτ hmix (by kernel_rfl) (by kernel_rfl) rfl ?_
    refine X.if_ (b := decide ((v4 : Int) < 5)) (by kernel_rfl) (fun hb3 => ?_) (fun hb3 => ?_)
    · replace hb3 := of_decide_eq_true hb3
      refine X.skip ?_
      refine X.seq ?_
      refine X.block ?_
      refine X.seq ?_
      refine X.rs 1 hτ hmix (by kernel_rfl) ?_
      obtain ⟨r4, i7, h8, hr6, hi9, hf5⟩ := s_l1Once bs c0_1 c0_2 (by first | assumption | omega) (by omega) 3
      refine CH.call hf5 Try.func96 ⟨rfl, rfl⟩ [(0, 0)] (by kernel_rfl) (by kernel_rfl) (by kernel_rfl) (by kernel_rfl) ?_
      refine CH.go 1 hτ (by kernel_rfl) ?_
      refine CH.endk ⟨[(0, .pt 0 0 0), (3, .e (.c (.ref 80))), (4, .e (.c (.d (.v (.int .i64 v4))))), (12, .e (.c (.d (.v (.bool (!r4))))))], [(0, some (.box [.k 0 (.sl (bs.map dB)), .d (.v (.int .i64 i7)), .d (.v (.int .i64 h8))])), (80, some (.row 1 9 (Lv3.map dS) false true))], 208⟩ (by kernel_rfl) (by kernel_rfl) rfl ?_
      refine X.if_ (b := !r4) (by kernel_rfl) (fun hb10 => ?_) (fun hb10 => ?_)
      · refine X.rs 3 hτ hmix (by kernel_rfl) ?_
        refine CH.idxR hτ (rows := (([(⟨#[97]⟩ : ByteArray), (⟨#[98]⟩ : ByteArray), (⟨#[99]⟩ : ByteArray), (⟨#[100]⟩ : ByteArray), (⟨#[101]⟩ : ByteArray)] : List ByteArray).map dS)) (n := v4) (b := 224) (by kernel_rfl) (by kernel_rfl) (by first | omega | (simp; done) | (simp; omega)) (by simp only [List.length_map]; first | omega | (simp; done) | (simp; omega)) (by kernel_rfl) ?_
        obtain ⟨x11, hx11⟩ : ∃ x, ([(⟨#[97]⟩ : ByteArray), (⟨#[98]⟩ : ByteArray), (⟨#[99]⟩ : ByteArray), (⟨#[100]⟩ : ByteArray), (⟨#[101]⟩ : ByteArray)] : List ByteArray)[Int.toNat v4]? = some x := ⟨_, List.getElem?_eq_getElem (by first | omega | (simp; done) | (simp; omega))⟩
        refine CH.row hτ (dS x11) (by kernel_rfl) (by kernel_rfl) (by rw [List.getElem?_map, hx11]; rfl) (by kernel_rfl) ?_
        refine CH.go 1 hτ (by kernel_rfl) ?_
        have el12 : (Lv3.map dS).length = Lv3.length := List.length_map ..
        have el13 : (([x11] : List ByteArray).map dS).length = ([x11] : List ByteArray).length := List.length_map ..
        have el14 : ([x11] : List ByteArray).length = 1 := rfl
        refine CH.app hτ (rows := (Lv3.map dS)) (rows2 := (([x11] : List ByteArray).map dS)) (sz := 1) (bys := 16) true (by kernel_rfl) (by kernel_rfl) (fun _ => flat_d dS (fun x => rfl)) (flat_ok (f := dS) (fun x => rfl)) (by simp only [List.length_map]; first | omega | (simp; omega)) (by kernel_rfl) ?_
        refine CH.go 1 hτ (by kernel_rfl) ?_
        refine CH.endk ⟨[(0, .pt 0 0 0), (3, .e (.c (.ref 304))), (4, .e (.c (.d (.v (.int .i64 v4)))))], [(0, some (.box [.k 0 (.sl (bs.map dB)), .d (.v (.int .i64 i7)), .d (.v (.int .i64 h8))])), (304, some (.row 1 9 ((Lv3.map dS) ++ (([x11] : List ByteArray).map dS)) false true))], 336⟩ (by kernel_rfl) (by kernel_rfl) (s2 := ⟨[(0, .pt 0 0 0), (3, .e (.c (.ref 304))), (4, .e (.c (.d (.v (.int .i64 v4)))))], [(0, some (.box [.k 0 (.sl (bs.map dB)), .d (.v (.int .i64 i7)), .d (.v (.int .i64 h8))])), (304, some (.row 1 9 ((Lv3 ++ ([x11] : List ByteArray)).map dS) false true))], 336⟩) (congrArg (fun z : List (List D) => (⟨[(0, .pt 0 0 0), (3, .e (.c (.ref 304))), (4, .e (.c (.d (.v (.int .i64 v4)))))], [(0, some (.box [.k 0 (.sl (bs.map dB)), .d (.v (.int .i64 i7)), .d (.v (.int .i64 h8))])), (304, some (.row 1 9 z false true))], 336⟩ : St)) (show (Lv3.map dS) ++ (([x11] : List ByteArray).map dS) = ((Lv3 ++ ([x11] : List ByteArray)).map dS) from List.map_append.symm)) ?_
        refine X.rk ⟨[(0, .pt 0 0 0), (3, .e (.c (.ref 304))), (4, .e (.c (.d (.v (.int .i64 (wrap64 (v4 + 1)))))))], [(0, some (.box [.k 0 (.sl (bs.map dB)), .d (.v (.int .i64 i7)), .d (.v (.int .i64 h8))])), (304, some (.row 1 9 ((Lv3 ++ ([x11] : List ByteArray)).map dS) false true))], 384⟩ hτ hmix (by kernel_rfl) (by kernel_rfl) (s2 := ⟨[(0, .pt 0 0 0), (3, .e (.c (.ref 304))), (4, .e (.c (.d (.v (.int .i64 (v4 + 1))))))], [(0, some (.box [.k 0 (.sl (bs.map dB)), .d (.v (.int .i64 i7)), .d (.v (.int .i64 h8))])), (304, some (.row 1 9 ((Lv3 ++ ([x11] : List ByteArray)).map dS) false true))], 384⟩) (congrArg (fun z : Int => (⟨[(0, .pt 0 0 0), (3, .e (.c (.ref 304))), (4, .e (.c (.d (.v (.int .i64 z)))))], [(0, some (.box [.k 0 (.sl (bs.map dB)), .d (.v (.int .i64 i7)), .d (.v (.int .i64 h8))])), (304, some (.row 1 9 ((Lv3 ++ ([x11] : List ByteArray)).map dS) false true))], 384⟩ : St)) (show wrap64 (v4 + 1) = (v4 + 1) by rw [w64 (n := (v4 + 1)) (by omega) (by omega)])) ?_
        refine ⟨⟨(i7, h8, (Lv3 ++ ([x11] : List ByteArray)), (v4 + 1)), ⟨by first | omega | (dsimp only; omega), ⟨by first | omega | (dsimp only; omega), by first | omega | (dsimp only; omega), by simp only [List.length_append, List.length_cons, List.length_nil]; (first | omega | (dsimp only; omega)), all_app hA (all_one (mem_small (List.mem_of_getElem? ‹_›) (by kernel_rfl)))⟩⟩⟩, by first | exact rfl | omega | (dsimp only; omega) | (simp only [List.length_append, List.length_cons, List.length_nil, List.length_set]; omega) | (simp; done) | (simp; omega), Wk.mk' [(80, 304)] (by kernel_rfl) (by kernel_rfl) (by kernel_rfl)⟩
      · refine X.skip ?_
        refine X.rk ⟨[(0, .pt 0 0 0), (3, .e (.c (.ref 80))), (4, .e (.c (.d (.v (.int .i64 (wrap64 (v4 + 1)))))))], [(0, some (.box [.k 0 (.sl (bs.map dB)), .d (.v (.int .i64 i7)), .d (.v (.int .i64 h8))])), (80, some (.row 1 9 (Lv3.map dS) false true))], 256⟩ hτ hmix (by kernel_rfl) (by kernel_rfl) (s2 := ⟨[(0, .pt 0 0 0), (3, .e (.c (.ref 80))), (4, .e (.c (.d (.v (.int .i64 (v4 + 1))))))], [(0, some (.box [.k 0 (.sl (bs.map dB)), .d (.v (.int .i64 i7)), .d (.v (.int .i64 h8))])), (80, some (.row 1 9 (Lv3.map dS) false true))], 256⟩) (congrArg (fun z : Int => (⟨[(0, .pt 0 0 0), (3, .e (.c (.ref 80))), (4, .e (.c (.d (.v (.int .i64 z)))))], [(0, some (.box [.k 0 (.sl (bs.map dB)), .d (.v (.int .i64 i7)), .d (.v (.int .i64 h8))])), (80, some (.row 1 9 (Lv3.map dS) false true))], 256⟩ : St)) (show wrap64 (v4 + 1) = (v4 + 1) by rw [w64 (n := (v4 + 1)) (by omega) (by omega)])) ?_
        refine ⟨⟨(i7, h8, Lv3, (v4 + 1)), ⟨by first | omega | (dsimp only; omega), ⟨by first | omega | (dsimp only; omega), by first | omega | (dsimp only; omega), by first | omega | (dsimp only; omega), hA⟩⟩⟩, by first | exact rfl | omega | (dsimp only; omega) | (simp only [List.length_append, List.length_cons, List.length_nil, List.length_set]; omega) | (simp; done) | (simp; omega), Wk.mk' [(80, 80)] (by kernel_rfl) (by kernel_rfl) (by kernel_rfl)⟩
    · replace hb3 := of_decide_eq_false hb3
      refine X.exit ?_
      refine X.seq ?_
      refine X.rk ⟨[(2, .e (.c (.ref 80)))], [(0, some (.box [.k 0 (.sl (bs.map dB)), .d (.v (.int .i64 c0_1)), .d (.v (.int .i64 c0_2))])), (80, some (.row 1 9 (Lv3.map dS) false true))], 192⟩ hτ hmix (by kernel_rfl) (by kernel_rfl) rfl ?_
      refine X.ret ?_
      exact ⟨trivial, _, _, ⟨Lv3, c0_1, c0_2, ⟨by omega, hA⟩, (by omega), rfl, rfl⟩, .inl (Ret.mk' [(64, 80)] (by kernel_rfl) (by kernel_rfl) (by kernel_rfl))⟩
  obtain ⟨_, _, ⟨r0, i1, h1, q1, q2, rfl, rfl⟩, hf⟩ := key
  exact ⟨r0, i1, h1, q1, q2, hf⟩

theorem s_l5Tx (bs : List Int) (i0 h0 : Int) (hl : bs.length ≤ 4611686018427387904) (hi : 0 ≤ i0 ∧ i0 ≤ bs.length)  : ∃ r0 : S120, ∃ i1 h1 : Int, (Sm120 r0) ∧ (0 ≤ i1 ∧ i1 ≤ bs.length) ∧ Fn Try.prog 171 [.pt 0 0 0] (lookH [(0, some (.box [.k 0 (.sl (bs.map dB)), .k 1 (.v (.int .i64 i0)), .k 2 (.v (.int .i64 h0))]))]) (.e (.agg [.d (.v (.int .i64 r0.f0)), .d (.v (.string r0.f1)), .d (.v (.string r0.f2)), .d (.v (.int .i64 r0.f3)), .d (.v (.int .i64 r0.f4))])) (lookH [(0, some (.box [.k 0 (.sl (bs.map dB)), .d (.v (.int .i64 i1)), .d (.v (.int .i64 h1))]))]) := by
  have key : ∃ x' h', ((fun x' h' => ∃ r0 : S120, ∃ i1 h1 : Int, (Sm120 r0) ∧ (0 ≤ i1 ∧ i1 ≤ bs.length) ∧ x' = .e (.agg [.d (.v (.int .i64 r0.f0)), .d (.v (.string r0.f1)), .d (.v (.string r0.f2)), .d (.v (.int .i64 r0.f3)), .d (.v (.int .i64 r0.f4))]) ∧ h' = [(0, some (.box [.k 0 (.sl (bs.map dB)), .d (.v (.int .i64 i1)), .d (.v (.int .i64 h1))]))])) x' h' ∧ Fn Try.prog 171 [.pt 0 0 0] (lookH [(0, some (.box [.k 0 (.sl (bs.map dB)), .k 1 (.v (.int .i64 i0)), .k 2 (.v (.int .i64 h0))]))]) x' (lookH h') := by
    refine Fn.bodyX (N := 22) hτ Try.func171 rfl rfl rfl rfl ?_
    refine X.seq ?_
    refine X.rk ⟨[(0, .pt 0 0 0), (2, .pt 64 0 0)], [(0, some (.box [.k 0 (.sl (bs.map dB)), .d (.v (.int .i64 i0)), .d (.v (.int .i64 h0))])), (64, some (.box [.d (.v (.int .i64 0)), .d (.v (.string (⟨#[]⟩ : ByteArray))), .d (.v (.string (⟨#[]⟩ : ByteArray))), .d (.v (.int .i64 0)), .d (.v (.int .i64 0))]))], 80⟩ hτ hmix (by kernel_rfl) (by kernel_rfl) rfl ?_
    refine X.seq ?_
    refine X.rs 1 hτ hmix (by kernel_rfl) ?_
    obtain ⟨r1, i4, h5, hr3, hi6, hf2⟩ := s_l1Below bs i0 h0 (by first | assumption | omega) (by omega) 3
    obtain ⟨_, _⟩ := hr3
    refine CH.call hf2 Try.func97 ⟨rfl, rfl⟩ [(0, 0)] (by kernel_rfl) (by kernel_rfl) (by kernel_rfl) (by kernel_rfl) ?_
    refine CH.go 2 hτ (by kernel_rfl) ?_
    obtain ⟨r7, i10, h11, hr9, hi12, hf8⟩ := s_l1Name bs i4 h5 (by first | assumption | omega) (by omega)
    have hs := hr9
    refine CH.call hf8 Try.func151 ⟨rfl, rfl⟩ [(0, 0)] (by kernel_rfl) (by kernel_rfl) (by kernel_rfl) (by kernel_rfl) ?_
    refine CH.go 2 hτ (by kernel_rfl) ?_
    obtain ⟨r13, i16, h17, hr15, hi18, hf14⟩ := s_l1Int bs i10 h11 (by first | assumption | omega) (by omega) ([1, 5, 10, 3, 200] : List Int) (by first | omega | (simp; done) | (simp; omega))
    have hmi := hr15
    refine CH.call hf14 Try.func152 ⟨rfl, rfl⟩ [(0, 0)] (by kernel_rfl) (by kernel_rfl) (by kernel_rfl) (by kernel_rfl) ?_
    refine CH.go 1 hτ (by kernel_rfl) ?_
    obtain ⟨r19, i22, h23, hr21, hi24, hf20⟩ := s_l1Below bs i16 h17 (by first | assumption | omega) (by omega) 4
    obtain ⟨_, _⟩ := hr21
    refine CH.call hf20 Try.func97 ⟨rfl, rfl⟩ [(0, 0)] (by kernel_rfl) (by kernel_rfl) (by kernel_rfl) (by kernel_rfl) ?_
    refine CH.go 3 hτ (by kernel_rfl) ?_
    refine CH.endk ⟨[(0, .pt 0 0 0), (2, .pt 64 0 0), (3, .pt 256 0 0)], [(0, some (.box [.k 0 (.sl (bs.map dB)), .d (.v (.int .i64 i22)), .d (.v (.int .i64 h23))])), (64, some (.box [.d (.v (.int .i64 0)), .d (.v (.string (⟨#[]⟩ : ByteArray))), .d (.v (.string (⟨#[]⟩ : ByteArray))), .d (.v (.int .i64 0)), .d (.v (.int .i64 0))])), (256, some (.box [.d (.v (.int .i64 (wrap64 (1 + r1)))), .d (.v (.string r7)), .d (.v (.string (⟨#[]⟩ : ByteArray))), .d (.v (.int .i64 r13)), .d (.v (.int .i64 r19))]))], 288⟩ (by kernel_rfl) (by kernel_rfl) (s2 := ⟨[(0, .pt 0 0 0), (2, .pt 64 0 0), (3, .pt 256 0 0)], [(0, some (.box [.k 0 (.sl (bs.map dB)), .d (.v (.int .i64 i22)), .d (.v (.int .i64 h23))])), (64, some (.box [.d (.v (.int .i64 0)), .d (.v (.string (⟨#[]⟩ : ByteArray))), .d (.v (.string (⟨#[]⟩ : ByteArray))), .d (.v (.int .i64 0)), .d (.v (.int .i64 0))])), (256, some (.box [.d (.v (.int .i64 (1 + r1))), .d (.v (.string r7)), .d (.v (.string (⟨#[]⟩ : ByteArray))), .d (.v (.int .i64 r13)), .d (.v (.int .i64 r19))]))], 288⟩) (congrArg (fun z : Int => (⟨[(0, .pt 0 0 0), (2, .pt 64 0 0), (3, .pt 256 0 0)], [(0, some (.box [.k 0 (.sl (bs.map dB)), .d (.v (.int .i64 i22)), .d (.v (.int .i64 h23))])), (64, some (.box [.d (.v (.int .i64 0)), .d (.v (.string (⟨#[]⟩ : ByteArray))), .d (.v (.string (⟨#[]⟩ : ByteArray))), .d (.v (.int .i64 0)), .d (.v (.int .i64 0))])), (256, some (.box [.d (.v (.int .i64 z)), .d (.v (.string r7)), .d (.v (.string (⟨#[]⟩ : ByteArray))), .d (.v (.int .i64 r13)), .d (.v (.int .i64 r19))]))], 288⟩ : St)) (show wrap64 (1 + r1) = (1 + r1) by rw [w64 (n := (1 + r1)) (by omega) (by omega)])) ?_
    refine X.seq ?_
    refine X.seq ?_
    have hs1 := hs
    refine X.rk ⟨[(0, .pt 0 0 0), (2, .pt 64 0 0), (3, .pt 256 0 0), (17, .e (.c (.d (.v (.bool ((1 + r1) == 1))))))], [(0, some (.box [.k 0 (.sl (bs.map dB)), .d (.v (.int .i64 i22)), .d (.v (.int .i64 h23))])), (64, some (.box [.d (.v (.int .i64 0)), .d (.v (.string (⟨#[]⟩ : ByteArray))), .d (.v (.string (⟨#[]⟩ : ByteArray))), .d (.v (.int .i64 0)), .d (.v (.int .i64 0))])), (256, some (.box [.d (.v (.int .i64 (1 + r1))), .d (.v (.string r7)), .d (.v (.string (⟨#[]⟩ : ByteArray))), .d (.v (.int .i64 r13)), .d (.v (.int .i64 r19))]))], 336⟩ hτ hmix (by kernel_rfl) (by kernel_rfl) rfl ?_
    refine X.if_ (b := ((1 + r1) == 1)) (by kernel_rfl) (fun hb25 => ?_) (fun hb25 => ?_)
    · replace hb25 := eq_of_beq hb25
      refine X.rs 1 hτ hmix (by kernel_rfl) ?_
      obtain ⟨r26, i29, h30, hr28, hi31, hf27⟩ := s_l1Name bs i22 h23 (by first | assumption | omega) (by omega)
      have hs := hr28
      refine CH.call hf27 Try.func151 ⟨rfl, rfl⟩ [(0, 0)] (by kernel_rfl) (by kernel_rfl) (by kernel_rfl) (by kernel_rfl) ?_
      refine CH.go 2 hτ (by kernel_rfl) ?_
      refine CH.endk ⟨[(2, .pt 64 0 0), (3, .pt 256 0 0)], [(0, some (.box [.k 0 (.sl (bs.map dB)), .d (.v (.int .i64 i29)), .d (.v (.int .i64 h30))])), (64, some (.box [.d (.v (.int .i64 0)), .d (.v (.string (⟨#[]⟩ : ByteArray))), .d (.v (.string (⟨#[]⟩ : ByteArray))), .d (.v (.int .i64 0)), .d (.v (.int .i64 0))])), (256, some (.box [.d (.v (.int .i64 (1 + r1))), .d (.v (.string r7)), .d (.v (.string r26)), .d (.v (.int .i64 r13)), .d (.v (.int .i64 r19))]))], 400⟩ (by kernel_rfl) (by kernel_rfl) rfl ?_
      refine X.seq ?_
      refine X.rk ⟨[(2, .pt 64 0 0)], [(0, some (.box [.k 0 (.sl (bs.map dB)), .d (.v (.int .i64 i29)), .d (.v (.int .i64 h30))])), (64, some (.box [.d (.v (.int .i64 (1 + r1))), .d (.v (.string r7)), .d (.v (.string r26)), .d (.v (.int .i64 r13)), .d (.v (.int .i64 r19))]))], 432⟩ hτ hmix (by kernel_rfl) (by kernel_rfl) rfl ?_
      refine X.ret ?_
      exact ⟨trivial, _, _, ⟨(⟨(1 + r1), r7, r26, r13, r19⟩ : S120), i29, h30, ⟨hs1, hs⟩, (by omega), rfl, rfl⟩, .inl (Ret.mk' [] (by kernel_rfl) (by kernel_rfl) (by kernel_rfl))⟩
    · replace hb25 := beq_eq_false_iff_ne.1 hb25
      refine X.skip ?_
      refine X.seq ?_
      refine X.rk ⟨[(2, .pt 64 0 0)], [(0, some (.box [.k 0 (.sl (bs.map dB)), .d (.v (.int .i64 i22)), .d (.v (.int .i64 h23))])), (64, some (.box [.d (.v (.int .i64 (1 + r1))), .d (.v (.string r7)), .d (.v (.string (⟨#[]⟩ : ByteArray))), .d (.v (.int .i64 r13)), .d (.v (.int .i64 r19))]))], 368⟩ hτ hmix (by kernel_rfl) (by kernel_rfl) rfl ?_
      refine X.ret ?_
      exact ⟨trivial, _, _, ⟨(⟨(1 + r1), r7, (⟨#[]⟩ : ByteArray), r13, r19⟩ : S120), i22, h23, ⟨hs, by show (0 : Nat) ≤ 100000; omega⟩, (by omega), rfl, rfl⟩, .inl (Ret.mk' [] (by kernel_rfl) (by kernel_rfl) (by kernel_rfl))⟩
  obtain ⟨_, _, ⟨r0, i1, h1, q1, q2, rfl, rfl⟩, hf⟩ := key
  exact ⟨r0, i1, h1, q1, q2, hf⟩

theorem s_l7Draw (bs : List Int) (i0 h0 : Int) (hl : bs.length ≤ 4611686018427387904) (hi : 0 ≤ i0 ∧ i0 ≤ bs.length)  : ∃ r0 : List S122, ∃ i1 h1 : Int, (r0.length ≤ 5 ∧ ∀ s, s ∈ r0 → Sm122 s) ∧ (0 ≤ i1 ∧ i1 ≤ bs.length) ∧ Fn Try.prog 172 [.pt 0 0 0] (lookH [(0, some (.box [.k 0 (.sl (bs.map dB)), .k 1 (.v (.int .i64 i0)), .k 2 (.v (.int .i64 h0))]))]) (.e (.c (.ref 64))) (lookH [(0, some (.box [.k 0 (.sl (bs.map dB)), .d (.v (.int .i64 i1)), .d (.v (.int .i64 h1))])), (64, some (.row 2 122 (r0.map d122) false true))]) := by
  have key : ∃ x' h', ((fun x' h' => ∃ r0 : List S122, ∃ i1 h1 : Int, (r0.length ≤ 5 ∧ ∀ s, s ∈ r0 → Sm122 s) ∧ (0 ≤ i1 ∧ i1 ≤ bs.length) ∧ x' = .e (.c (.ref 64)) ∧ h' = [(0, some (.box [.k 0 (.sl (bs.map dB)), .d (.v (.int .i64 i1)), .d (.v (.int .i64 h1))])), (64, some (.row 2 122 (r0.map d122) false true))])) x' h' ∧ Fn Try.prog 172 [.pt 0 0 0] (lookH [(0, some (.box [.k 0 (.sl (bs.map dB)), .k 1 (.v (.int .i64 i0)), .k 2 (.v (.int .i64 h0))]))]) x' (lookH h') := by
    refine Fn.bodyX (N := 32) hτ Try.func172 rfl rfl rfl rfl ?_
    refine X.seq ?_
    refine X.rk ⟨[(0, .pt 0 0 0)], [(0, some (.box [.k 0 (.sl (bs.map dB)), .d (.v (.int .i64 i0)), .d (.v (.int .i64 h0))]))], 80⟩ hτ hmix (by kernel_rfl) (by kernel_rfl) rfl ?_
    refine X.seq ?_
    refine X.rk ⟨[(0, .pt 0 0 0), (3, .e (.c (.ref 80)))], [(0, some (.box [.k 0 (.sl (bs.map dB)), .d (.v (.int .i64 i0)), .d (.v (.int .i64 h0))])), (80, some (.row 2 122 [] false true))], 112⟩ hτ hmix (by kernel_rfl) (by kernel_rfl) rfl ?_
    refine X.seq ?_
    refine X.rs 1 hτ hmix (by kernel_rfl) ?_
    obtain ⟨r1, i4, h5, hr3, hi6, hf2⟩ := s_l1Names bs i0 h0 (by first | assumption | omega) (by omega)
    obtain ⟨hnl, hns⟩ := hr3
    refine CH.call hf2 Try.func104 ⟨rfl, rfl⟩ [(0, 0)] (by kernel_rfl) (by kernel_rfl) (by kernel_rfl) (by kernel_rfl) ?_
    refine CH.go 1 hτ (by kernel_rfl) ?_
    refine CH.endk ⟨[(0, .pt 0 0 0), (3, .e (.c (.ref 80))), (4, .e (.c (.ref 128)))], [(0, some (.box [.k 0 (.sl (bs.map dB)), .d (.v (.int .i64 i4)), .d (.v (.int .i64 h5))])), (80, some (.row 2 122 [] false true)), (128, some (.row 1 9 (r1.map dS) false true))], 160⟩ (by kernel_rfl) (by kernel_rfl) rfl ?_
    refine X.seq ?_
    refine X.seq ?_
    refine X.rk ⟨[(0, .pt 0 0 0), (3, .e (.c (.ref 80))), (4, .e (.c (.ref 128))), (5, .e (.c (.d (.v (.int .i64 0)))))], [(0, some (.box [.k 0 (.sl (bs.map dB)), .d (.v (.int .i64 i4)), .d (.v (.int .i64 h5))])), (80, some (.row 2 122 [] false true)), (128, some (.row 1 9 (r1.map dS) false true))], 176⟩ hτ hmix (by kernel_rfl) (by kernel_rfl) rfl ?_
    refine X.block ?_
    -- 4: c0_1 : Int, c0_2 : Int, Lv3 : List S122, v5 : Int
    refine X.loop (σ := { g : Int × Int × (List S122) × Int // (fun (c0_1 : Int) (c0_2 : Int) (Lv3 : List S122) (v5 : Int) => (0 ≤ c0_1 ∧ c0_1 ≤ bs.length) ∧ (0 ≤ v5 ∧ v5 ≤ r1.length ∧ Lv3.length ≤ v5 ∧ ∀ s, s ∈ Lv3 → Sm122 s)) g.1 g.2.1 g.2.2.1 g.2.2.2 }) (fun g => (fun (c0_1 : Int) (c0_2 : Int) (Lv3 : List S122) (v5 : Int) => ⟨[(0, .pt 0 0 0), (3, .e (.c (.ref 80))), (4, .e (.c (.ref 128))), (5, .e (.c (.d (.v (.int .i64 v5)))))], [(0, some (.box [.k 0 (.sl (bs.map dB)), .d (.v (.int .i64 c0_1)), .d (.v (.int .i64 c0_2))])), (80, some (.row 2 122 (Lv3.map d122) false true)), (128, some (.row 1 9 (r1.map dS) false true))], 176⟩) g.1.1 g.1.2.1 g.1.2.2.1 g.1.2.2.2) (fun g => (fun (c0_1 : Int) (c0_2 : Int) (Lv3 : List S122) (v5 : Int) => (r1.length - v5).toNat) g.1.1 g.1.2.1 g.1.2.2.1 g.1.2.2.2) ⟨(i4, h5, [], 0), ⟨by first | omega | (dsimp only; omega), ⟨by first | omega | (dsimp only; omega), by simp, by simp, all_nil⟩⟩⟩ (Wk.less (by kernel_rfl)) (fun g => ?_)
    obtain ⟨⟨c0_1, c0_2, Lv3, v5⟩, hg8⟩ := g
    have hg8 : (0 ≤ c0_1 ∧ c0_1 ≤ bs.length) ∧ (0 ≤ v5 ∧ v5 ≤ r1.length ∧ Lv3.length ≤ v5 ∧ ∀ s, s ∈ Lv3 → Sm122 s) := hg8
    obtain ⟨⟨_, _⟩, ⟨_, _, _, hA⟩⟩ := hg8
    refine X.seq ?_
    refine X.seq ?_
    have el9 : (r1.map dS).length = r1.length := List.length_map ..
    refine X.rk ⟨[(0, .pt 0 0 0), (3, .e (.c (.ref 80))), (4, .e (.c (.ref 128))), (5, .e (.c (.d (.v (.int .i64 v5))))), (12, .e (.c (.d (.v (.bool (decide ((v5 : Int) < ((r1.map dS).length : Int))))))))], [(0, some (.box [.k 0 (.sl (bs.map dB)), .d (.v (.int .i64 c0_1)), .d (.v (.int .i64 c0_2))])), (80, some (.row 2 122 (Lv3.map d122) false true)), (128, some (.row 1 9 (r1.map dS) false true))], 240⟩ hτ hmix (by kernel_rfl) (by kernel_rfl) rfl ?_
    refine X.if_ (b := decide ((v5 : Int) < ((r1.map dS).length : Int))) (by kernel_rfl) (fun hb10 => ?_) (fun hb10 => ?_)
    · replace hb10 := of_decide_eq_true hb10
      refine X.skip ?_
      refine X.seq ?_
      refine X.block ?_
      refine X.rs 3 hτ hmix (by kernel_rfl) ?_
      refine CH.idxR hτ (rows := (r1.map dS)) (n := v5) (b := 128) (by kernel_rfl) (by kernel_rfl) (by first | omega | (simp; done) | (simp; omega)) (by simp only [List.length_map]; first | omega | (simp; done) | (simp; omega)) (by kernel_rfl) ?_
      obtain ⟨x11, hx11⟩ : ∃ x, r1[Int.toNat v5]? = some x := ⟨_, List.getElem?_eq_getElem (by first | omega | (simp; done) | (simp; omega))⟩
      refine CH.row hτ (dS x11) (by kernel_rfl) (by kernel_rfl) (by rw [List.getElem?_map, hx11]; rfl) (by kernel_rfl) ?_
      refine CH.go 2 hτ (by kernel_rfl) ?_
      obtain ⟨r12, i15, h16, hr14, hi17, hf13⟩ := s_l1Int bs c0_1 c0_2 (by first | assumption | omega) (by omega) ([10, 10, 1, 5, 30] : List Int) (by first | omega | (simp; done) | (simp; omega))
      have hmi := hr14
      refine CH.call hf13 Try.func152 ⟨rfl, rfl⟩ [(0, 0)] (by kernel_rfl) (by kernel_rfl) (by kernel_rfl) (by kernel_rfl) ?_
      refine CH.go 2 hτ (by kernel_rfl) ?_
      have el18 : (Lv3.map d122).length = Lv3.length := List.length_map ..
      have el19 : (([(⟨x11, r12⟩ : S122)] : List S122).map d122).length = ([(⟨x11, r12⟩ : S122)] : List S122).length := List.length_map ..
      have el20 : ([(⟨x11, r12⟩ : S122)] : List S122).length = 1 := rfl
      refine CH.app hτ (rows := (Lv3.map d122)) (rows2 := (([(⟨x11, r12⟩ : S122)] : List S122).map d122)) (sz := 2) (bys := 24) true (by kernel_rfl) (by kernel_rfl) (fun _ => flat_d d122 (fun x => rfl)) (flat_ok (f := d122) (fun x => rfl)) (by simp only [List.length_map]; first | omega | (simp; omega)) (by kernel_rfl) ?_
      refine CH.go 1 hτ (by kernel_rfl) ?_
      refine CH.endk ⟨[(0, .pt 0 0 0), (3, .e (.c (.ref 400))), (4, .e (.c (.ref 128))), (5, .e (.c (.d (.v (.int .i64 v5)))))], [(0, some (.box [.k 0 (.sl (bs.map dB)), .d (.v (.int .i64 i15)), .d (.v (.int .i64 h16))])), (128, some (.row 1 9 (r1.map dS) false true)), (400, some (.row 2 122 ((Lv3.map d122) ++ (([(⟨x11, r12⟩ : S122)] : List S122).map d122)) false true))], 432⟩ (by kernel_rfl) (by kernel_rfl) (s2 := ⟨[(0, .pt 0 0 0), (3, .e (.c (.ref 400))), (4, .e (.c (.ref 128))), (5, .e (.c (.d (.v (.int .i64 v5)))))], [(0, some (.box [.k 0 (.sl (bs.map dB)), .d (.v (.int .i64 i15)), .d (.v (.int .i64 h16))])), (128, some (.row 1 9 (r1.map dS) false true)), (400, some (.row 2 122 ((Lv3 ++ ([(⟨x11, r12⟩ : S122)] : List S122)).map d122) false true))], 432⟩) (congrArg (fun z : List (List D) => (⟨[(0, .pt 0 0 0), (3, .e (.c (.ref 400))), (4, .e (.c (.ref 128))), (5, .e (.c (.d (.v (.int .i64 v5)))))], [(0, some (.box [.k 0 (.sl (bs.map dB)), .d (.v (.int .i64 i15)), .d (.v (.int .i64 h16))])), (128, some (.row 1 9 (r1.map dS) false true)), (400, some (.row 2 122 z false true))], 432⟩ : St)) (show (Lv3.map d122) ++ (([(⟨x11, r12⟩ : S122)] : List S122).map d122) = ((Lv3 ++ ([(⟨x11, r12⟩ : S122)] : List S122)).map d122) from List.map_append.symm)) ?_
      refine X.rk ⟨[(0, .pt 0 0 0), (3, .e (.c (.ref 400))), (4, .e (.c (.ref 128))), (5, .e (.c (.d (.v (.int .i64 (wrap64 (v5 + 1)))))))], [(0, some (.box [.k 0 (.sl (bs.map dB)), .d (.v (.int .i64 i15)), .d (.v (.int .i64 h16))])), (128, some (.row 1 9 (r1.map dS) false true)), (400, some (.row 2 122 ((Lv3 ++ ([(⟨x11, r12⟩ : S122)] : List S122)).map d122) false true))], 480⟩ hτ hmix (by kernel_rfl) (by kernel_rfl) (s2 := ⟨[(0, .pt 0 0 0), (3, .e (.c (.ref 400))), (4, .e (.c (.ref 128))), (5, .e (.c (.d (.v (.int .i64 (v5 + 1))))))], [(0, some (.box [.k 0 (.sl (bs.map dB)), .d (.v (.int .i64 i15)), .d (.v (.int .i64 h16))])), (128, some (.row 1 9 (r1.map dS) false true)), (400, some (.row 2 122 ((Lv3 ++ ([(⟨x11, r12⟩ : S122)] : List S122)).map d122) false true))], 480⟩) (congrArg (fun z : Int => (⟨[(0, .pt 0 0 0), (3, .e (.c (.ref 400))), (4, .e (.c (.ref 128))), (5, .e (.c (.d (.v (.int .i64 z)))))], [(0, some (.box [.k 0 (.sl (bs.map dB)), .d (.v (.int .i64 i15)), .d (.v (.int .i64 h16))])), (128, some (.row 1 9 (r1.map dS) false true)), (400, some (.row 2 122 ((Lv3 ++ ([(⟨x11, r12⟩ : S122)] : List S122)).map d122) false true))], 480⟩ : St)) (show wrap64 (v5 + 1) = (v5 + 1) by rw [w64 (n := (v5 + 1)) (by omega) (by omega)])) ?_
      refine ⟨⟨(i15, h16, (Lv3 ++ ([(⟨x11, r12⟩ : S122)] : List S122)), (v5 + 1)), ⟨by first | omega | (dsimp only; omega), ⟨by first | omega | (dsimp only; omega), by first | omega | (dsimp only; omega), by simp only [List.length_append, List.length_cons, List.length_nil]; (first | omega | (dsimp only; omega)), all_app hA (all_one (all_at hns ‹_›))⟩⟩⟩, by first | exact rfl | omega | (dsimp only; omega) | (simp only [List.length_append, List.length_cons, List.length_nil, List.length_set]; omega) | (simp; done) | (simp; omega), Wk.mk' [(80, 400), (128, 128)] (by kernel_rfl) (by kernel_rfl) (by kernel_rfl)⟩
    · replace hb10 := of_decide_eq_false hb10
      refine X.exit ?_
      refine X.seq ?_
      refine X.seq ?_
      have el21 : (Lv3.map d122).length = Lv3.length := List.length_map ..
      refine X.rk ⟨[(3, .e (.c (.ref 80))), (28, .e (.c (.d (.v (.bool (((Lv3.map d122).length : Int) == 0))))))], [(0, some (.box [.k 0 (.sl (bs.map dB)), .d (.v (.int .i64 c0_1)), .d (.v (.int .i64 c0_2))])), (80, some (.row 2 122 (Lv3.map d122) false true))], 288⟩ hτ hmix (by kernel_rfl) (by kernel_rfl) rfl ?_
      refine X.if_ (b := (((Lv3.map d122).length : Int) == 0)) (by kernel_rfl) (fun hb22 => ?_) (fun hb22 => ?_)
      · replace hb22 := eq_of_beq hb22
        refine X.seq ?_
        refine X.rk ⟨[(2, .e (.c (.ref 304)))], [(0, some (.box [.k 0 (.sl (bs.map dB)), .d (.v (.int .i64 c0_1)), .d (.v (.int .i64 c0_2))])), (304, some (.row 2 122 (([(⟨(⟨#[97]⟩ : ByteArray), 10⟩ : S122)] : List S122).map d122) false true))], 336⟩ hτ hmix (by kernel_rfl) (by kernel_rfl) rfl ?_
        refine X.ret ?_
        exact ⟨trivial, _, _, ⟨([(⟨(⟨#[97]⟩ : ByteArray), 10⟩ : S122)] : List S122), c0_1, c0_2, ⟨by simp, all_one (by show (1 : Nat) ≤ 100000; omega)⟩, (by omega), rfl, rfl⟩, .inl (Ret.mk' [(64, 304)] (by kernel_rfl) (by kernel_rfl) (by kernel_rfl))⟩
      · replace hb22 := beq_eq_false_iff_ne.1 hb22
        refine X.skip ?_
        refine X.seq ?_
        refine X.rk ⟨[(2, .e (.c (.ref 80)))], [(0, some (.box [.k 0 (.sl (bs.map dB)), .d (.v (.int .i64 c0_1)), .d (.v (.int .i64 c0_2))])), (80, some (.row 2 122 (Lv3.map d122) false true))], 320⟩ hτ hmix (by kernel_rfl) (by kernel_rfl) rfl ?_
        refine X.ret ?_
        exact ⟨trivial, _, _, ⟨Lv3, c0_1, c0_2, ⟨by omega, hA⟩, (by omega), rfl, rfl⟩, .inl (Ret.mk' [(64, 80)] (by kernel_rfl) (by kernel_rfl) (by kernel_rfl))⟩
  obtain ⟨_, _, ⟨r0, i1, h1, q1, q2, rfl, rfl⟩, hf⟩ := key
  exact ⟨r0, i1, h1, q1, q2, hf⟩

theorem s_l1NameAny (bs : List Int) (i0 h0 : Int) (hl : bs.length ≤ 4611686018427387904) (hi : 0 ≤ i0 ∧ i0 ≤ bs.length)  : ∃ r0 : ByteArray, ∃ i1 h1 : Int, (SmS r0) ∧ (0 ≤ i1 ∧ i1 ≤ bs.length) ∧ Fn Try.prog 174 [.pt 0 0 0] (lookH [(0, some (.box [.k 0 (.sl (bs.map dB)), .k 1 (.v (.int .i64 i0)), .k 2 (.v (.int .i64 h0))]))]) (.e (.c (.d (.v (.string r0))))) (lookH [(0, some (.box [.k 0 (.sl (bs.map dB)), .d (.v (.int .i64 i1)), .d (.v (.int .i64 h1))]))]) := by
  have key : ∃ x' h', ((fun x' h' => ∃ r0 : ByteArray, ∃ i1 h1 : Int, (SmS r0) ∧ (0 ≤ i1 ∧ i1 ≤ bs.length) ∧ x' = .e (.c (.d (.v (.string r0)))) ∧ h' = [(0, some (.box [.k 0 (.sl (bs.map dB)), .d (.v (.int .i64 i1)), .d (.v (.int .i64 h1))]))])) x' h' ∧ Fn Try.prog 174 [.pt 0 0 0] (lookH [(0, some (.box [.k 0 (.sl (bs.map dB)), .k 1 (.v (.int .i64 i0)), .k 2 (.v (.int .i64 h0))]))]) x' (lookH h') := by
    refine Fn.bodyX (N := 10) hτ Try.func174 rfl rfl rfl rfl ?_
    refine X.seq ?_
    refine X.rk ⟨[(0, .pt 0 0 0)], [(0, some (.box [.k 0 (.sl (bs.map dB)), .d (.v (.int .i64 i0)), .d (.v (.int .i64 h0))]))], 80⟩ hτ hmix (by kernel_rfl) (by kernel_rfl) rfl ?_
    refine X.seq ?_
    refine X.seq ?_
    refine X.rs 1 hτ hmix (by kernel_rfl) ?_
    obtain ⟨r1, i4, h5, hr3, hi6, hf2⟩ := s_l1Once bs i0 h0 (by first | assumption | omega) (by omega) 10
    refine CH.call hf2 Try.func96 ⟨rfl, rfl⟩ [(0, 0)] (by kernel_rfl) (by kernel_rfl) (by kernel_rfl) (by kernel_rfl) ?_
    refine CH.endk ⟨[(0, .pt 0 0 0), (4, .e (.c (.d (.v (.bool r1)))))], [(0, some (.box [.k 0 (.sl (bs.map dB)), .d (.v (.int .i64 i4)), .d (.v (.int .i64 h5))]))], 112⟩ (by kernel_rfl) (by kernel_rfl) rfl ?_
    refine X.if_ (b := r1) (by kernel_rfl) (fun hb7 => ?_) (fun hb7 => ?_)
    · refine X.seq ?_
      refine X.rs 2 hτ hmix (by kernel_rfl) ?_
      obtain ⟨r8, i11, h12, hr10, hi13, hf9⟩ := s_l1Str bs i4 h5 (by first | assumption | omega) (by omega) ([(⟨#[]⟩ : ByteArray), (⟨#[65]⟩ : ByteArray), (⟨#[116, 111, 111, 108, 111, 110, 103, 57, 57]⟩ : ByteArray), (⟨#[97, 32, 98]⟩ : ByteArray), (⟨#[101, 105, 103, 104, 116, 108, 101, 116]⟩ : ByteArray)] : List ByteArray) (by first | omega | (simp; done) | (simp; omega))
      have hm := hr10
      refine CH.call hf9 Try.func170 ⟨rfl, rfl⟩ [(0, 0)] (by kernel_rfl) (by kernel_rfl) (by kernel_rfl) (by kernel_rfl) ?_
      refine CH.go 1 hτ (by kernel_rfl) ?_
      refine CH.endk ⟨[(2, .e (.c (.d (.v (.string r8)))))], [(0, some (.box [.k 0 (.sl (bs.map dB)), .d (.v (.int .i64 i11)), .d (.v (.int .i64 h12))]))], 176⟩ (by kernel_rfl) (by kernel_rfl) rfl ?_
      refine X.ret ?_
      exact ⟨trivial, _, _, ⟨r8, i11, h12, mem_small hm (by kernel_rfl), (by omega), rfl, rfl⟩, .inl (Ret.mk' [] (by kernel_rfl) (by kernel_rfl) (by kernel_rfl))⟩
    · refine X.skip ?_
      refine X.seq ?_
      refine X.rs 1 hτ hmix (by kernel_rfl) ?_
      obtain ⟨r14, i17, h18, hr16, hi19, hf15⟩ := s_l1Name bs i4 h5 (by first | assumption | omega) (by omega)
      have hs := hr16
      refine CH.call hf15 Try.func151 ⟨rfl, rfl⟩ [(0, 0)] (by kernel_rfl) (by kernel_rfl) (by kernel_rfl) (by kernel_rfl) ?_
      refine CH.go 1 hτ (by kernel_rfl) ?_
      refine CH.endk ⟨[(2, .e (.c (.d (.v (.string r14)))))], [(0, some (.box [.k 0 (.sl (bs.map dB)), .d (.v (.int .i64 i17)), .d (.v (.int .i64 h18))]))], 160⟩ (by kernel_rfl) (by kernel_rfl) rfl ?_
      refine X.ret ?_
      exact ⟨trivial, _, _, ⟨r14, i17, h18, hs, (by omega), rfl, rfl⟩, .inl (Ret.mk' [] (by kernel_rfl) (by kernel_rfl) (by kernel_rfl))⟩
  obtain ⟨_, _, ⟨r0, i1, h1, q1, q2, rfl, rfl⟩, hf⟩ := key
  exact ⟨r0, i1, h1, q1, q2, hf⟩

theorem s_l7Who (bs : List Int) (i0 h0 : Int) (hl : bs.length ≤ 4611686018427387904) (hi : 0 ≤ i0 ∧ i0 ≤ bs.length)  : ∃ r0 : List ByteArray, ∃ i1 h1 : Int, (r0.length ≤ 7 ∧ ∀ s, s ∈ r0 → SmS s) ∧ (0 ≤ i1 ∧ i1 ≤ bs.length) ∧ Fn Try.prog 158 [.pt 0 0 0] (lookH [(0, some (.box [.k 0 (.sl (bs.map dB)), .k 1 (.v (.int .i64 i0)), .k 2 (.v (.int .i64 h0))]))]) (.e (.c (.ref 64))) (lookH [(0, some (.box [.k 0 (.sl (bs.map dB)), .d (.v (.int .i64 i1)), .d (.v (.int .i64 h1))])), (64, some (.row 1 9 (r0.map dS) false true))]) := by
  have key : ∃ x' h', ((fun x' h' => ∃ r0 : List ByteArray, ∃ i1 h1 : Int, (r0.length ≤ 7 ∧ ∀ s, s ∈ r0 → SmS s) ∧ (0 ≤ i1 ∧ i1 ≤ bs.length) ∧ x' = .e (.c (.ref 64)) ∧ h' = [(0, some (.box [.k 0 (.sl (bs.map dB)), .d (.v (.int .i64 i1)), .d (.v (.int .i64 h1))])), (64, some (.row 1 9 (r0.map dS) false true))])) x' h' ∧ Fn Try.prog 158 [.pt 0 0 0] (lookH [(0, some (.box [.k 0 (.sl (bs.map dB)), .k 1 (.v (.int .i64 i0)), .k 2 (.v (.int .i64 h0))]))]) x' (lookH h') := by
    refine Fn.bodyX (N := 16) hτ Try.func158 rfl rfl rfl rfl ?_
    refine X.seq ?_
    refine X.rk ⟨[(0, .pt 0 0 0)], [(0, some (.box [.k 0 (.sl (bs.map dB)), .d (.v (.int .i64 i0)), .d (.v (.int .i64 h0))]))], 80⟩ hτ hmix (by kernel_rfl) (by kernel_rfl) rfl ?_
    refine X.seq ?_
    refine X.rs 1 hτ hmix (by kernel_rfl) ?_
    obtain ⟨r1, i4, h5, hr3, hi6, hf2⟩ := s_l1Names bs i0 h0 (by first | assumption | omega) (by omega)
    obtain ⟨hnl, hns⟩ := hr3
    refine CH.call hf2 Try.func104 ⟨rfl, rfl⟩ [(0, 0)] (by kernel_rfl) (by kernel_rfl) (by kernel_rfl) (by kernel_rfl) ?_
    refine CH.go 1 hτ (by kernel_rfl) ?_
    refine CH.endk ⟨[(0, .pt 0 0 0), (3, .e (.c (.ref 96)))], [(0, some (.box [.k 0 (.sl (bs.map dB)), .d (.v (.int .i64 i4)), .d (.v (.int .i64 h5))])), (96, some (.row 1 9 (r1.map dS) false true))], 128⟩ (by kernel_rfl) (by kernel_rfl) rfl ?_
    refine X.seq ?_
    refine X.seq ?_
    refine X.rs 1 hτ hmix (by kernel_rfl) ?_
    obtain ⟨r7, i10, h11, hr9, hi12, hf8⟩ := s_l1Once bs i4 h5 (by first | assumption | omega) (by omega) 5
    refine CH.call hf8 Try.func96 ⟨rfl, rfl⟩ [(0, 0)] (by kernel_rfl) (by kernel_rfl) (by kernel_rfl) (by kernel_rfl) ?_
    refine CH.endk ⟨[(0, .pt 0 0 0), (3, .e (.c (.ref 96))), (7, .e (.c (.d (.v (.bool r7)))))], [(0, some (.box [.k 0 (.sl (bs.map dB)), .d (.v (.int .i64 i10)), .d (.v (.int .i64 h11))])), (96, some (.row 1 9 (r1.map dS) false true))], 160⟩ (by kernel_rfl) (by kernel_rfl) rfl ?_
    refine X.if_ (b := r7) (by kernel_rfl) (fun hb13 => ?_) (fun hb13 => ?_)
    · have hs0 : True := trivial
      refine X.rs 2 hτ hmix (by kernel_rfl) ?_
      obtain ⟨r14, i17, h18, hr16, hi19, hf15⟩ := s_l1NameAny bs i10 h11 (by first | assumption | omega) (by omega)
      have hs := hr16
      refine CH.call hf15 Try.func174 ⟨rfl, rfl⟩ [(0, 0)] (by kernel_rfl) (by kernel_rfl) (by kernel_rfl) (by kernel_rfl) ?_
      refine CH.go 1 hτ (by kernel_rfl) ?_
      obtain ⟨r20, i23, h24, hr22, hi25, hf21⟩ := s_l1Name bs i17 h18 (by first | assumption | omega) (by omega)
      have hs := hr22
      refine CH.call hf21 Try.func151 ⟨rfl, rfl⟩ [(0, 0)] (by kernel_rfl) (by kernel_rfl) (by kernel_rfl) (by kernel_rfl) ?_
      refine CH.go 1 hτ (by kernel_rfl) ?_
      have el26 : (r1.map dS).length = r1.length := List.length_map ..
      have el27 : (([r14, r20] : List ByteArray).map dS).length = ([r14, r20] : List ByteArray).length := List.length_map ..
      have el28 : ([r14, r20] : List ByteArray).length = 2 := rfl
      refine CH.app hτ (rows := (r1.map dS)) (rows2 := (([r14, r20] : List ByteArray).map dS)) (sz := 1) (bys := 16) true (by kernel_rfl) (by kernel_rfl) (fun _ => flat_d dS (fun x => rfl)) (flat_ok (f := dS) (fun x => rfl)) (by simp only [List.length_map]; first | omega | (simp; omega)) (by kernel_rfl) ?_
      refine CH.go 1 hτ (by kernel_rfl) ?_
      refine CH.endk ⟨[(3, .e (.c (.ref 256)))], [(0, some (.box [.k 0 (.sl (bs.map dB)), .d (.v (.int .i64 i23)), .d (.v (.int .i64 h24))])), (256, some (.row 1 9 ((r1.map dS) ++ (([r14, r20] : List ByteArray).map dS)) false true))], 288⟩ (by kernel_rfl) (by kernel_rfl) (s2 := ⟨[(3, .e (.c (.ref 256)))], [(0, some (.box [.k 0 (.sl (bs.map dB)), .d (.v (.int .i64 i23)), .d (.v (.int .i64 h24))])), (256, some (.row 1 9 ((r1 ++ ([r14, r20] : List ByteArray)).map dS) false true))], 288⟩) (congrArg (fun z : List (List D) => (⟨[(3, .e (.c (.ref 256)))], [(0, some (.box [.k 0 (.sl (bs.map dB)), .d (.v (.int .i64 i23)), .d (.v (.int .i64 h24))])), (256, some (.row 1 9 z false true))], 288⟩ : St)) (show (r1.map dS) ++ (([r14, r20] : List ByteArray).map dS) = ((r1 ++ ([r14, r20] : List ByteArray)).map dS) from List.map_append.symm)) ?_
      refine X.seq ?_
      refine X.rk ⟨[(2, .e (.c (.ref 256)))], [(0, some (.box [.k 0 (.sl (bs.map dB)), .d (.v (.int .i64 i23)), .d (.v (.int .i64 h24))])), (256, some (.row 1 9 ((r1 ++ ([r14, r20] : List ByteArray)).map dS) false true))], 320⟩ hτ hmix (by kernel_rfl) (by kernel_rfl) rfl ?_
      refine X.ret ?_
      exact ⟨trivial, _, _, ⟨(r1 ++ ([r14, r20] : List ByteArray)), i23, h24, ⟨by simp only [List.length_append, List.length_cons, List.length_nil]; omega, all_app hns (all_two (by assumption) (by assumption))⟩, (by omega), rfl, rfl⟩, .inl (Ret.mk' [(64, 256)] (by kernel_rfl) (by kernel_rfl) (by kernel_rfl))⟩
    · refine X.skip ?_
      refine X.seq ?_
      refine X.rk ⟨[(2, .e (.c (.ref 96)))], [(0, some (.box [.k 0 (.sl (bs.map dB)), .d (.v (.int .i64 i10)), .d (.v (.int .i64 h11))])), (96, some (.row 1 9 (r1.map dS) false true))], 192⟩ hτ hmix (by kernel_rfl) (by kernel_rfl) rfl ?_
      refine X.ret ?_
      exact ⟨trivial, _, _, ⟨r1, i10, h11, ⟨by omega, hns⟩, (by omega), rfl, rfl⟩, .inl (Ret.mk' [(64, 96)] (by kernel_rfl) (by kernel_rfl) (by kernel_rfl))⟩
  obtain ⟨_, _, ⟨r0, i1, h1, q1, q2, rfl, rfl⟩, hf⟩ := key
  exact ⟨r0, i1, h1, q1, q2, hf⟩

theorem s_l8Qc (bs : List Int) (i0 h0 : Int) (hl : bs.length ≤ 4611686018427387904) (hi : 0 ≤ i0 ∧ i0 ≤ bs.length)  : ∃ r0 : S31, ∃ i1 h1 : Int, (Sm31 r0) ∧ (0 ≤ i1 ∧ i1 ≤ bs.length) ∧ Fn Try.prog 102 [.pt 0 0 0] (lookH [(0, some (.box [.k 0 (.sl (bs.map dB)), .k 1 (.v (.int .i64 i0)), .k 2 (.v (.int .i64 h0))]))]) (.e (.agg [.d (.v (.int .i64 r0.f0)), .d (.v (.int .i64 r0.f1)), .f (.sl (r0.f2.map dS))])) (lookH [(0, some (.box [.k 0 (.sl (bs.map dB)), .d (.v (.int .i64 i1)), .d (.v (.int .i64 h1))]))]) := by
  have key : ∃ x' h', ((fun x' h' => ∃ r0 : S31, ∃ i1 h1 : Int, (Sm31 r0) ∧ (0 ≤ i1 ∧ i1 ≤ bs.length) ∧ x' = .e (.agg [.d (.v (.int .i64 r0.f0)), .d (.v (.int .i64 r0.f1)), .f (.sl (r0.f2.map dS))]) ∧ h' = [(0, some (.box [.k 0 (.sl (bs.map dB)), .d (.v (.int .i64 i1)), .d (.v (.int .i64 h1))]))])) x' h' ∧ Fn Try.prog 102 [.pt 0 0 0] (lookH [(0, some (.box [.k 0 (.sl (bs.map dB)), .k 1 (.v (.int .i64 i0)), .k 2 (.v (.int .i64 h0))]))]) x' (lookH h') := by
    refine Fn.bodyX (N := 15) hτ Try.func102 rfl rfl rfl rfl ?_
    refine X.seq ?_
    refine X.rk ⟨[(0, .pt 0 0 0), (2, .pt 64 0 0)], [(0, some (.box [.k 0 (.sl (bs.map dB)), .d (.v (.int .i64 i0)), .d (.v (.int .i64 h0))])), (64, some (.box [.d (.v (.int .i64 0)), .d (.v (.int .i64 0)), .nil]))], 80⟩ hτ hmix (by kernel_rfl) (by kernel_rfl) rfl ?_
    refine X.seq ?_
    refine X.seq ?_
    refine X.rs 1 hτ hmix (by kernel_rfl) ?_
    obtain ⟨r1, i4, h5, hr3, hi6, hf2⟩ := s_l1Once bs i0 h0 (by first | assumption | omega) (by omega) 4
    refine CH.call hf2 Try.func96 ⟨rfl, rfl⟩ [(0, 0)] (by kernel_rfl) (by kernel_rfl) (by kernel_rfl) (by kernel_rfl) ?_
    refine CH.endk ⟨[(0, .pt 0 0 0), (2, .pt 64 0 0), (4, .e (.c (.d (.v (.bool r1)))))], [(0, some (.box [.k 0 (.sl (bs.map dB)), .d (.v (.int .i64 i4)), .d (.v (.int .i64 h5))])), (64, some (.box [.d (.v (.int .i64 0)), .d (.v (.int .i64 0)), .nil]))], 112⟩ (by kernel_rfl) (by kernel_rfl) rfl ?_
    refine X.if_ (b := r1) (by kernel_rfl) (fun hb7 => ?_) (fun hb7 => ?_)
    · refine X.seq ?_
      refine X.rk ⟨[(2, .pt 64 0 0)], [(0, some (.box [.k 0 (.sl (bs.map dB)), .d (.v (.int .i64 i4)), .d (.v (.int .i64 h5))])), (64, some (.box [.d (.v (.int .i64 0)), .d (.v (.int .i64 (-1))), .nil]))], 144⟩ hτ hmix (by kernel_rfl) (by kernel_rfl) rfl ?_
      refine X.ret ?_
      exact ⟨trivial, _, _, ⟨(⟨0, (-1), []⟩ : S31), i4, h5, ⟨by simp, all_nil⟩, (by omega), rfl, rfl⟩, .inr ⟨⟨[(2, .pt 64 0 0)], [(0, some (.box [.k 0 (.sl (bs.map dB)), .d (.v (.int .i64 i4)), .d (.v (.int .i64 h5))])), (64, some (.box [.d (.v (.int .i64 0)), .d (.v (.int .i64 (-1))), .f (.sl [])]))], 144⟩, Wk.less (by kernel_rfl), Ret.mk' [] (by kernel_rfl) (by kernel_rfl) (by kernel_rfl)⟩⟩
    · refine X.skip ?_
      refine X.seq ?_
      refine X.rs 2 hτ hmix (by kernel_rfl) ?_
      obtain ⟨r8, i11, h12, hr10, hi13, hf9⟩ := s_l1Int bs i4 h5 (by first | assumption | omega) (by omega) ([1, 2, 3, 0, 10001] : List Int) (by first | omega | (simp; done) | (simp; omega))
      have hmi := hr10
      refine CH.call hf9 Try.func152 ⟨rfl, rfl⟩ [(0, 0)] (by kernel_rfl) (by kernel_rfl) (by kernel_rfl) (by kernel_rfl) ?_
      refine CH.go 2 hτ (by kernel_rfl) ?_
      obtain ⟨r14, i17, h18, hr16, hi19, hf15⟩ := s_l1Int bs i11 h12 (by first | assumption | omega) (by omega) ([0, 1, 5, (-1)] : List Int) (by first | omega | (simp; done) | (simp; omega))
      have hmi := hr16
      refine CH.call hf15 Try.func152 ⟨rfl, rfl⟩ [(0, 0)] (by kernel_rfl) (by kernel_rfl) (by kernel_rfl) (by kernel_rfl) ?_
      refine CH.go 1 hτ (by kernel_rfl) ?_
      obtain ⟨r20, i23, h24, hr22, hi25, hf21⟩ := s_l7Who bs i17 h18 (by first | assumption | omega) (by omega)
      obtain ⟨hnl, hns⟩ := hr22
      refine CH.call hf21 Try.func158 ⟨rfl, rfl⟩ [(0, 0)] (by kernel_rfl) (by kernel_rfl) (by kernel_rfl) (by kernel_rfl) ?_
      refine CH.go 2 hτ (by kernel_rfl) ?_
      refine CH.endk ⟨[(2, .pt 64 0 0)], [(0, some (.box [.k 0 (.sl (bs.map dB)), .d (.v (.int .i64 i23)), .d (.v (.int .i64 h24))])), (64, some (.box [.d (.v (.int .i64 r8)), .d (.v (.int .i64 r14)), .ref 224])), (224, some (.row 1 9 (r20.map dS) false true))], 272⟩ (by kernel_rfl) (by kernel_rfl) rfl ?_
      refine X.ret ?_
      exact ⟨trivial, _, _, ⟨(⟨r8, r14, r20⟩ : S31), i23, h24, ⟨by dsimp only; omega, hns⟩, (by omega), rfl, rfl⟩, .inr ⟨⟨[(2, .pt 64 0 0)], [(0, some (.box [.k 0 (.sl (bs.map dB)), .d (.v (.int .i64 i23)), .d (.v (.int .i64 h24))])), (64, some (.box [.d (.v (.int .i64 r8)), .d (.v (.int .i64 r14)), .f (.sl (r20.map dS))])), (224, some (.row 1 9 (r20.map dS) true true))], 272⟩, Wk.less (by kernel_rfl), Ret.mk' [] (by kernel_rfl) (by kernel_rfl) (by kernel_rfl)⟩⟩
  obtain ⟨_, _, ⟨r0, i1, h1, q1, q2, rfl, rfl⟩, hf⟩ := key
  exact ⟨r0, i1, h1, q1, q2, hf⟩

theorem s_l8Tc (bs : List Int) (i0 h0 : Int) (hl : bs.length ≤ 4611686018427387904) (hi : 0 ≤ i0 ∧ i0 ≤ bs.length)  : ∃ r0 : S55, ∃ i1 h1 : Int, (Sm55 r0) ∧ (0 ≤ i1 ∧ i1 ≤ bs.length) ∧ Fn Try.prog 159 [.pt 0 0 0] (lookH [(0, some (.box [.k 0 (.sl (bs.map dB)), .k 1 (.v (.int .i64 i0)), .k 2 (.v (.int .i64 h0))]))]) (.e (.agg [.d (.v (.int .i64 r0.f0)), .f (.sl (r0.f1.map dS)), .f (.sl (r0.f2.map dI))])) (lookH [(0, some (.box [.k 0 (.sl (bs.map dB)), .d (.v (.int .i64 i1)), .d (.v (.int .i64 h1))]))]) := by
  have key : ∃ x' h', ((fun x' h' => ∃ r0 : S55, ∃ i1 h1 : Int, (Sm55 r0) ∧ (0 ≤ i1 ∧ i1 ≤ bs.length) ∧ x' = .e (.agg [.d (.v (.int .i64 r0.f0)), .f (.sl (r0.f1.map dS)), .f (.sl (r0.f2.map dI))]) ∧ h' = [(0, some (.box [.k 0 (.sl (bs.map dB)), .d (.v (.int .i64 i1)), .d (.v (.int .i64 h1))]))])) x' h' ∧ Fn Try.prog 159 [.pt 0 0 0] (lookH [(0, some (.box [.k 0 (.sl (bs.map dB)), .k 1 (.v (.int .i64 i0)), .k 2 (.v (.int .i64 h0))]))]) x' (lookH h') := by
    refine Fn.bodyX (N := 37) hτ Try.func159 rfl rfl rfl rfl ?_
    refine X.seq ?_
    refine X.rk ⟨[(0, .pt 0 0 0), (2, .pt 64 0 0)], [(0, some (.box [.k 0 (.sl (bs.map dB)), .d (.v (.int .i64 i0)), .d (.v (.int .i64 h0))])), (64, some (.box [.d (.v (.int .i64 0)), .nil, .nil]))], 80⟩ hτ hmix (by kernel_rfl) (by kernel_rfl) rfl ?_
    refine X.seq ?_
    refine X.seq ?_
    refine X.rs 1 hτ hmix (by kernel_rfl) ?_
    obtain ⟨r1, i4, h5, hr3, hi6, hf2⟩ := s_l1Once bs i0 h0 (by first | assumption | omega) (by omega) 4
    refine CH.call hf2 Try.func96 ⟨rfl, rfl⟩ [(0, 0)] (by kernel_rfl) (by kernel_rfl) (by kernel_rfl) (by kernel_rfl) ?_
    refine CH.endk ⟨[(0, .pt 0 0 0), (2, .pt 64 0 0), (6, .e (.c (.d (.v (.bool r1)))))], [(0, some (.box [.k 0 (.sl (bs.map dB)), .d (.v (.int .i64 i4)), .d (.v (.int .i64 h5))])), (64, some (.box [.d (.v (.int .i64 0)), .nil, .nil]))], 112⟩ (by kernel_rfl) (by kernel_rfl) rfl ?_
    refine X.if_ (b := r1) (by kernel_rfl) (fun hb7 => ?_) (fun hb7 => ?_)
    · refine X.seq ?_
      refine X.rk ⟨[(2, .pt 64 0 0)], [(0, some (.box [.k 0 (.sl (bs.map dB)), .d (.v (.int .i64 i4)), .d (.v (.int .i64 h5))])), (64, some (.box [.d (.v (.int .i64 0)), .nil, .nil]))], 144⟩ hτ hmix (by kernel_rfl) (by kernel_rfl) rfl ?_
      refine X.ret ?_
      exact ⟨trivial, _, _, ⟨(⟨0, [], []⟩ : S55), i4, h5, ⟨⟨by simp, all_nil⟩, by simp⟩, (by omega), rfl, rfl⟩, .inr ⟨⟨[(2, .pt 64 0 0)], [(0, some (.box [.k 0 (.sl (bs.map dB)), .d (.v (.int .i64 i4)), .d (.v (.int .i64 h5))])), (64, some (.box [.d (.v (.int .i64 0)), .f (.sl []), .f (.sl [])]))], 144⟩, Wk.less (by kernel_rfl), Ret.mk' [] (by kernel_rfl) (by kernel_rfl) (by kernel_rfl)⟩⟩
    · refine X.skip ?_
      refine X.seq ?_
      refine X.rs 2 hτ hmix (by kernel_rfl) ?_
      obtain ⟨r8, i11, h12, hr10, hi13, hf9⟩ := s_l1Int bs i4 h5 (by first | assumption | omega) (by omega) ([2, 3, 1, 0] : List Int) (by first | omega | (simp; done) | (simp; omega))
      have hmi := hr10
      refine CH.call hf9 Try.func152 ⟨rfl, rfl⟩ [(0, 0)] (by kernel_rfl) (by kernel_rfl) (by kernel_rfl) (by kernel_rfl) ?_
      refine CH.go 1 hτ (by kernel_rfl) ?_
      obtain ⟨r14, i17, h18, hr16, hi19, hf15⟩ := s_l7Who bs i11 h12 (by first | assumption | omega) (by omega)
      obtain ⟨hnl, hns⟩ := hr16
      refine CH.call hf15 Try.func158 ⟨rfl, rfl⟩ [(0, 0)] (by kernel_rfl) (by kernel_rfl) (by kernel_rfl) (by kernel_rfl) ?_
      refine CH.go 3 hτ (by kernel_rfl) ?_
      refine CH.endk ⟨[(0, .pt 0 0 0), (2, .pt 64 0 0), (3, .pt 208 0 0)], [(0, some (.box [.k 0 (.sl (bs.map dB)), .d (.v (.int .i64 i17)), .d (.v (.int .i64 h18))])), (64, some (.box [.d (.v (.int .i64 0)), .nil, .nil])), (176, some (.row 1 9 (r14.map dS) false true)), (208, some (.box [.d (.v (.int .i64 r8)), .ref 176, .nil]))], 240⟩ (by kernel_rfl) (by kernel_rfl) rfl ?_
      refine X.seq ?_
      refine X.seq ?_
      refine X.rk ⟨[(0, .pt 0 0 0), (2, .pt 64 0 0), (3, .pt 208 0 0), (4, .e (.c (.d (.v (.int .i64 0)))))], [(0, some (.box [.k 0 (.sl (bs.map dB)), .d (.v (.int .i64 i17)), .d (.v (.int .i64 h18))])), (64, some (.box [.d (.v (.int .i64 0)), .nil, .nil])), (176, some (.row 1 9 (r14.map dS) false true)), (208, some (.box [.d (.v (.int .i64 r8)), .ref 176, .nil]))], 256⟩ hτ hmix (by kernel_rfl) (by kernel_rfl) rfl ?_
      refine X.block ?_
      refine X.weak (Wk.ownB 208 [.d (.v (.int .i64 r8)), .ref 176, .nil] 2 1 3 (by kernel_rfl) rfl (by kernel_rfl) (by kernel_rfl)) ?_
      -- 5: c0_1 : Int, c0_2 : Int, Lc208_2 : List Int, v4 : Int
      refine X.loop (σ := { g : Int × Int × (List Int) × Int // (fun (c0_1 : Int) (c0_2 : Int) (Lc208_2 : List Int) (v4 : Int) => (0 ≤ c0_1 ∧ c0_1 ≤ bs.length) ∧ (0 ≤ v4 ∧ v4 ≤ r14.length ∧ Lc208_2.length ≤ v4 ∧ r14.length ≤ 7 ∧ ∀ s, s ∈ r14 → SmS s)) g.1 g.2.1 g.2.2.1 g.2.2.2 }) (fun g => (fun (c0_1 : Int) (c0_2 : Int) (Lc208_2 : List Int) (v4 : Int) => ⟨[(0, .pt 0 0 0), (2, .pt 64 0 0), (3, .pt 208 0 0), (4, .e (.c (.d (.v (.int .i64 v4)))))], [(0, some (.box [.k 0 (.sl (bs.map dB)), .d (.v (.int .i64 c0_1)), .d (.v (.int .i64 c0_2))])), (64, some (.box [.d (.v (.int .i64 0)), .nil, .nil])), (176, some (.row 1 9 (r14.map dS) false true)), (208, some (.box [.d (.v (.int .i64 r8)), .ref 176, .ref 256])), (256, some (.row 1 3 (Lc208_2.map dI) false true))], 272⟩) g.1.1 g.1.2.1 g.1.2.2.1 g.1.2.2.2) (fun g => (fun (c0_1 : Int) (c0_2 : Int) (Lc208_2 : List Int) (v4 : Int) => (r14.length - v4).toNat) g.1.1 g.1.2.1 g.1.2.2.1 g.1.2.2.2) ⟨(i17, h18, [], 0), ⟨by first | omega | (dsimp only; omega), ⟨by first | omega | (dsimp only; omega), by simp, by simp, by first | omega | (dsimp only; omega), hns⟩⟩⟩ (Wk.less (by kernel_rfl)) (fun g => ?_)
      obtain ⟨⟨c0_1, c0_2, Lc208_2, v4⟩, hg21⟩ := g
      have hg21 : (0 ≤ c0_1 ∧ c0_1 ≤ bs.length) ∧ (0 ≤ v4 ∧ v4 ≤ r14.length ∧ Lc208_2.length ≤ v4 ∧ r14.length ≤ 7 ∧ ∀ s, s ∈ r14 → SmS s) := hg21
      obtain ⟨⟨_, _⟩, ⟨_, _, _, _, hA⟩⟩ := hg21
      refine X.seq ?_
      refine X.seq ?_
      have el22 : (r14.map dS).length = r14.length := List.length_map ..
      refine X.rk ⟨[(0, .pt 0 0 0), (2, .pt 64 0 0), (3, .pt 208 0 0), (4, .e (.c (.d (.v (.int .i64 v4))))), (18, .e (.c (.d (.v (.bool (decide ((v4 : Int) < ((r14.map dS).length : Int))))))))], [(0, some (.box [.k 0 (.sl (bs.map dB)), .d (.v (.int .i64 c0_1)), .d (.v (.int .i64 c0_2))])), (64, some (.box [.d (.v (.int .i64 0)), .nil, .nil])), (176, some (.row 1 9 (r14.map dS) false true)), (208, some (.box [.d (.v (.int .i64 r8)), .ref 176, .ref 256])), (256, some (.row 1 3 (Lc208_2.map dI) false true))], 352⟩ hτ hmix (by kernel_rfl) (by kernel_rfl) rfl ?_
      refine X.if_ (b := decide ((v4 : Int) < ((r14.map dS).length : Int))) (by kernel_rfl) (fun hb23 => ?_) (fun hb23 => ?_)
      · replace hb23 := of_decide_eq_true hb23
        refine X.skip ?_
        refine X.seq ?_
        refine X.block ?_
        refine X.rs 4 hτ hmix (by kernel_rfl) ?_
        obtain ⟨r24, i27, h28, hr26, hi29, hf25⟩ := s_l1Int bs c0_1 c0_2 (by first | assumption | omega) (by omega) ([0, 1, 0, 2] : List Int) (by first | omega | (simp; done) | (simp; omega))
        have hmi := hr26
        refine CH.call hf25 Try.func152 ⟨rfl, rfl⟩ [(0, 0)] (by kernel_rfl) (by kernel_rfl) (by kernel_rfl) (by kernel_rfl) ?_
        refine CH.go 1 hτ (by kernel_rfl) ?_
        have el30 : (Lc208_2.map dI).length = Lc208_2.length := List.length_map ..
        have el31 : (([r24] : List Int).map dI).length = ([r24] : List Int).length := List.length_map ..
        have el32 : ([r24] : List Int).length = 1 := rfl
        refine CH.app hτ (rows := (Lc208_2.map dI)) (rows2 := (([r24] : List Int).map dI)) (sz := 1) (bys := 8) true (by kernel_rfl) (by kernel_rfl) (fun _ => flat_d dI (fun x => rfl)) (flat_ok (f := dI) (fun x => rfl)) (by simp only [List.length_map]; first | omega | (simp; omega)) (by kernel_rfl) ?_
        refine CH.go 2 hτ (by kernel_rfl) ?_
        refine CH.endk ⟨[(0, .pt 0 0 0), (2, .pt 64 0 0), (3, .pt 208 0 0), (4, .e (.c (.d (.v (.int .i64 v4)))))], [(0, some (.box [.k 0 (.sl (bs.map dB)), .d (.v (.int .i64 i27)), .d (.v (.int .i64 h28))])), (64, some (.box [.d (.v (.int .i64 0)), .nil, .nil])), (176, some (.row 1 9 (r14.map dS) false true)), (208, some (.box [.d (.v (.int .i64 r8)), .ref 176, .ref 448])), (448, some (.row 1 3 ((Lc208_2.map dI) ++ (([r24] : List Int).map dI)) false true))], 496⟩ (by kernel_rfl) (by kernel_rfl) (s2 := ⟨[(0, .pt 0 0 0), (2, .pt 64 0 0), (3, .pt 208 0 0), (4, .e (.c (.d (.v (.int .i64 v4)))))], [(0, some (.box [.k 0 (.sl (bs.map dB)), .d (.v (.int .i64 i27)), .d (.v (.int .i64 h28))])), (64, some (.box [.d (.v (.int .i64 0)), .nil, .nil])), (176, some (.row 1 9 (r14.map dS) false true)), (208, some (.box [.d (.v (.int .i64 r8)), .ref 176, .ref 448])), (448, some (.row 1 3 ((Lc208_2 ++ ([r24] : List Int)).map dI) false true))], 496⟩) (congrArg (fun z : List (List D) => (⟨[(0, .pt 0 0 0), (2, .pt 64 0 0), (3, .pt 208 0 0), (4, .e (.c (.d (.v (.int .i64 v4)))))], [(0, some (.box [.k 0 (.sl (bs.map dB)), .d (.v (.int .i64 i27)), .d (.v (.int .i64 h28))])), (64, some (.box [.d (.v (.int .i64 0)), .nil, .nil])), (176, some (.row 1 9 (r14.map dS) false true)), (208, some (.box [.d (.v (.int .i64 r8)), .ref 176, .ref 448])), (448, some (.row 1 3 z false true))], 496⟩ : St)) (show (Lc208_2.map dI) ++ (([r24] : List Int).map dI) = ((Lc208_2 ++ ([r24] : List Int)).map dI) from List.map_append.symm)) ?_
        refine X.rk ⟨[(0, .pt 0 0 0), (2, .pt 64 0 0), (3, .pt 208 0 0), (4, .e (.c (.d (.v (.int .i64 (wrap64 (v4 + 1)))))))], [(0, some (.box [.k 0 (.sl (bs.map dB)), .d (.v (.int .i64 i27)), .d (.v (.int .i64 h28))])), (64, some (.box [.d (.v (.int .i64 0)), .nil, .nil])), (176, some (.row 1 9 (r14.map dS) false true)), (208, some (.box [.d (.v (.int .i64 r8)), .ref 176, .ref 448])), (448, some (.row 1 3 ((Lc208_2 ++ ([r24] : List Int)).map dI) false true))], 544⟩ hτ hmix (by kernel_rfl) (by kernel_rfl) (s2 := ⟨[(0, .pt 0 0 0), (2, .pt 64 0 0), (3, .pt 208 0 0), (4, .e (.c (.d (.v (.int .i64 (v4 + 1))))))], [(0, some (.box [.k 0 (.sl (bs.map dB)), .d (.v (.int .i64 i27)), .d (.v (.int .i64 h28))])), (64, some (.box [.d (.v (.int .i64 0)), .nil, .nil])), (176, some (.row 1 9 (r14.map dS) false true)), (208, some (.box [.d (.v (.int .i64 r8)), .ref 176, .ref 448])), (448, some (.row 1 3 ((Lc208_2 ++ ([r24] : List Int)).map dI) false true))], 544⟩) (congrArg (fun z : Int => (⟨[(0, .pt 0 0 0), (2, .pt 64 0 0), (3, .pt 208 0 0), (4, .e (.c (.d (.v (.int .i64 z)))))], [(0, some (.box [.k 0 (.sl (bs.map dB)), .d (.v (.int .i64 i27)), .d (.v (.int .i64 h28))])), (64, some (.box [.d (.v (.int .i64 0)), .nil, .nil])), (176, some (.row 1 9 (r14.map dS) false true)), (208, some (.box [.d (.v (.int .i64 r8)), .ref 176, .ref 448])), (448, some (.row 1 3 ((Lc208_2 ++ ([r24] : List Int)).map dI) false true))], 544⟩ : St)) (show wrap64 (v4 + 1) = (v4 + 1) by rw [w64 (n := (v4 + 1)) (by omega) (by omega)])) ?_
        refine ⟨⟨(i27, h28, (Lc208_2 ++ ([r24] : List Int)), (v4 + 1)), ⟨by first | omega | (dsimp only; omega), ⟨by first | omega | (dsimp only; omega), by first | omega | (dsimp only; omega), by simp only [List.length_append, List.length_cons, List.length_nil]; (first | omega | (dsimp only; omega)), by first | omega | (dsimp only; omega), hA⟩⟩⟩, by first | exact rfl | omega | (dsimp only; omega) | (simp only [List.length_append, List.length_cons, List.length_nil, List.length_set]; omega) | (simp; done) | (simp; omega), Wk.mk' [(64, 64), (176, 176), (208, 208), (256, 448)] (by kernel_rfl) (by kernel_rfl) (by kernel_rfl)⟩
      · replace hb23 := of_decide_eq_false hb23
        refine X.exit ?_
        refine X.seq ?_
        refine X.seq ?_
        refine X.rs 1 hτ hmix (by kernel_rfl) ?_
        obtain ⟨r33, i36, h37, hr35, hi38, hf34⟩ := s_l1Once bs c0_1 c0_2 (by first | assumption | omega) (by omega) 8
        refine CH.call hf34 Try.func96 ⟨rfl, rfl⟩ [(0, 0)] (by kernel_rfl) (by kernel_rfl) (by kernel_rfl) (by kernel_rfl) ?_
        refine CH.endk ⟨[(2, .pt 64 0 0), (3, .pt 208 0 0), (30, .e (.c (.d (.v (.bool r33)))))], [(0, some (.box [.k 0 (.sl (bs.map dB)), .d (.v (.int .i64 i36)), .d (.v (.int .i64 h37))])), (64, some (.box [.d (.v (.int .i64 0)), .nil, .nil])), (176, some (.row 1 9 (r14.map dS) false true)), (208, some (.box [.d (.v (.int .i64 r8)), .ref 176, .ref 256])), (256, some (.row 1 3 (Lc208_2.map dI) false true))], 384⟩ (by kernel_rfl) (by kernel_rfl) rfl ?_
        refine X.if_ (b := r33) (by kernel_rfl) (fun hb39 => ?_) (fun hb39 => ?_)
        · refine X.rs 3 hτ hmix (by kernel_rfl) ?_
          have el40 : (Lc208_2.map dI).length = Lc208_2.length := List.length_map ..
          have el41 : (([0] : List Int).map dI).length = ([0] : List Int).length := List.length_map ..
          have el42 : ([0] : List Int).length = 1 := rfl
          refine CH.app hτ (rows := (Lc208_2.map dI)) (rows2 := (([0] : List Int).map dI)) (sz := 1) (bys := 8) true (by kernel_rfl) (by kernel_rfl) (fun _ => flat_d dI (fun x => rfl)) (flat_ok (f := dI) (fun x => rfl)) (by simp only [List.length_map]; first | omega | (simp; omega)) (by kernel_rfl) ?_
          refine CH.go 2 hτ (by kernel_rfl) ?_
          refine CH.endk ⟨[(2, .pt 64 0 0), (3, .pt 208 0 0)], [(0, some (.box [.k 0 (.sl (bs.map dB)), .d (.v (.int .i64 i36)), .d (.v (.int .i64 h37))])), (64, some (.box [.d (.v (.int .i64 0)), .nil, .nil])), (176, some (.row 1 9 (r14.map dS) false true)), (208, some (.box [.d (.v (.int .i64 r8)), .ref 176, .ref 432])), (432, some (.row 1 3 ((Lc208_2.map dI) ++ (([0] : List Int).map dI)) false true))], 480⟩ (by kernel_rfl) (by kernel_rfl) (s2 := ⟨[(2, .pt 64 0 0), (3, .pt 208 0 0)], [(0, some (.box [.k 0 (.sl (bs.map dB)), .d (.v (.int .i64 i36)), .d (.v (.int .i64 h37))])), (64, some (.box [.d (.v (.int .i64 0)), .nil, .nil])), (176, some (.row 1 9 (r14.map dS) false true)), (208, some (.box [.d (.v (.int .i64 r8)), .ref 176, .ref 432])), (432, some (.row 1 3 ((Lc208_2 ++ ([0] : List Int)).map dI) false true))], 480⟩) (congrArg (fun z : List (List D) => (⟨[(2, .pt 64 0 0), (3, .pt 208 0 0)], [(0, some (.box [.k 0 (.sl (bs.map dB)), .d (.v (.int .i64 i36)), .d (.v (.int .i64 h37))])), (64, some (.box [.d (.v (.int .i64 0)), .nil, .nil])), (176, some (.row 1 9 (r14.map dS) false true)), (208, some (.box [.d (.v (.int .i64 r8)), .ref 176, .ref 432])), (432, some (.row 1 3 z false true))], 480⟩ : St)) (show (Lc208_2.map dI) ++ (([0] : List Int).map dI) = ((Lc208_2 ++ ([0] : List Int)).map dI) from List.map_append.symm)) ?_
          refine X.seq ?_
          refine X.rk ⟨[(2, .pt 64 0 0)], [(0, some (.box [.k 0 (.sl (bs.map dB)), .d (.v (.int .i64 i36)), .d (.v (.int .i64 h37))])), (64, some (.box [.d (.v (.int .i64 r8)), .ref 176, .ref 432])), (176, some (.row 1 9 (r14.map dS) false true)), (432, some (.row 1 3 ((Lc208_2 ++ ([0] : List Int)).map dI) false true))], 512⟩ hτ hmix (by kernel_rfl) (by kernel_rfl) rfl ?_
          refine X.ret ?_
          exact ⟨trivial, _, _, ⟨(⟨r8, r14, (Lc208_2 ++ ([0] : List Int))⟩ : S55), i36, h37, ⟨⟨by first | omega | (dsimp only; omega), hA⟩, by first | (dsimp only; omega) | (simp; omega)⟩, (by omega), rfl, rfl⟩, .inr ⟨⟨[(2, .pt 64 0 0)], [(0, some (.box [.k 0 (.sl (bs.map dB)), .d (.v (.int .i64 i36)), .d (.v (.int .i64 h37))])), (64, some (.box [.d (.v (.int .i64 r8)), .f (.sl (r14.map dS)), .f (.sl ((Lc208_2 ++ ([0] : List Int)).map dI))])), (176, some (.row 1 9 (r14.map dS) true true)), (432, some (.row 1 3 ((Lc208_2 ++ ([0] : List Int)).map dI) true true))], 512⟩, Wk.less (by kernel_rfl), Ret.mk' [] (by kernel_rfl) (by kernel_rfl) (by kernel_rfl)⟩⟩
        · refine X.skip ?_
          refine X.seq ?_
          refine X.rk ⟨[(2, .pt 64 0 0)], [(0, some (.box [.k 0 (.sl (bs.map dB)), .d (.v (.int .i64 i36)), .d (.v (.int .i64 h37))])), (64, some (.box [.d (.v (.int .i64 r8)), .ref 176, .ref 256])), (176, some (.row 1 9 (r14.map dS) false true)), (256, some (.row 1 3 (Lc208_2.map dI) false true))], 416⟩ hτ hmix (by kernel_rfl) (by kernel_rfl) rfl ?_
          refine X.ret ?_
          exact ⟨trivial, _, _, ⟨(⟨r8, r14, Lc208_2⟩ : S55), i36, h37, ⟨⟨by first | omega | (dsimp only; omega), hA⟩, by first | (dsimp only; omega) | (simp; omega)⟩, (by omega), rfl, rfl⟩, .inr ⟨⟨[(2, .pt 64 0 0)], [(0, some (.box [.k 0 (.sl (bs.map dB)), .d (.v (.int .i64 i36)), .d (.v (.int .i64 h37))])), (64, some (.box [.d (.v (.int .i64 r8)), .f (.sl (r14.map dS)), .f (.sl (Lc208_2.map dI))])), (176, some (.row 1 9 (r14.map dS) true true)), (256, some (.row 1 3 (Lc208_2.map dI) true true))], 416⟩, Wk.less (by kernel_rfl), Ret.mk' [] (by kernel_rfl) (by kernel_rfl) (by kernel_rfl)⟩⟩
  obtain ⟨_, _, ⟨r0, i1, h1, q1, q2, rfl, rfl⟩, hf⟩ := key
  exact ⟨r0, i1, h1, q1, q2, hf⟩

theorem s_l8CopyQc (q : S31) (hq : Sm31 q) : ∃ r0 : S31, (r0 = q) ∧ Fn Try.prog 136 [.e (.agg [.d (.v (.int .i64 q.f0)), .d (.v (.int .i64 q.f1)), .d (.sl (q.f2.map dS))])] (lookH []) (.e (.agg [.d (.v (.int .i64 r0.f0)), .d (.v (.int .i64 r0.f1)), .ref 64])) (lookH [(64, some (.row 1 9 (r0.f2.map dS) false true))]) := by
  have key : ∃ x' h', ((fun x' h' => ∃ r0 : S31, (r0 = q) ∧ x' = .e (.agg [.d (.v (.int .i64 r0.f0)), .d (.v (.int .i64 r0.f1)), .ref 64]) ∧ h' = [(64, some (.row 1 9 (r0.f2.map dS) false true))])) x' h' ∧ Fn Try.prog 136 [.e (.agg [.d (.v (.int .i64 q.f0)), .d (.v (.int .i64 q.f1)), .d (.sl (q.f2.map dS))])] (lookH []) x' (lookH h') := by
    refine Fn.bodyX (N := 9) hτ Try.func136 rfl rfl rfl rfl ?_
    refine X.seq ?_
    refine X.rk ⟨[(1, .pt 64 0 0), (2, .pt 80 0 0)], [(64, some (.box [.d (.v (.int .i64 q.f0)), .d (.v (.int .i64 q.f1)), .d (.sl (q.f2.map dS))])), (80, some (.box [.d (.v (.int .i64 0)), .d (.v (.int .i64 0)), .nil]))], 96⟩ hτ hmix (by kernel_rfl) (by kernel_rfl) rfl ?_
    refine X.seq ?_
    have hq2 := hq
    simp only [Sm31, Sm55, Sm59, SmN, SmT, SmV] at hq2
    refine X.rs 3 hτ hmix (by kernel_rfl) ?_
    have el1 : (q.f2.map dS).length = q.f2.length := List.length_map ..
    refine CH.app hτ (rows := []) (rows2 := (q.f2.map dS)) (sz := 1) (bys := 16) true (by kernel_rfl) (by kernel_rfl) (fun _ => flat_d dS (fun x => rfl)) (flat_ok (f := dS) (fun x => rfl)) (by simp only [List.length_map]; first | omega | (simp; omega)) (by kernel_rfl) ?_
    refine CH.go 2 hτ (by kernel_rfl) ?_
    refine CH.endk ⟨[(1, .pt 64 0 0), (2, .pt 80 0 0)], [(64, some (.box [.d (.v (.int .i64 q.f0)), .d (.v (.int .i64 q.f1)), .ref 144])), (80, some (.box [.d (.v (.int .i64 0)), .d (.v (.int .i64 0)), .nil])), (144, some (.row 1 9 (q.f2.map dS) false true))], 192⟩ (by kernel_rfl) (by kernel_rfl) rfl ?_
    refine X.seq ?_
    refine X.rk ⟨[(2, .pt 80 0 0)], [(80, some (.box [.d (.v (.int .i64 q.f0)), .d (.v (.int .i64 q.f1)), .ref 144])), (144, some (.row 1 9 (q.f2.map dS) false true))], 224⟩ hτ hmix (by kernel_rfl) (by kernel_rfl) rfl ?_
    refine X.ret ?_
    exact ⟨trivial, _, _, ⟨q, by first | exact rfl | omega | (dsimp only; omega) | (simp only [List.length_append, List.length_cons, List.length_nil, List.length_set]; omega) | (simp; done) | (simp; omega), rfl, rfl⟩, .inl (Ret.mk' [(64, 144)] (by kernel_rfl) (by kernel_rfl) (by kernel_rfl))⟩
  obtain ⟨_, _, ⟨r0, q1, rfl, rfl⟩, hf⟩ := key
  exact ⟨r0, q1, hf⟩

theorem s_l8CopyTc (q : S55) (hq : Sm55 q) : ∃ r0 : S55, (r0 = q) ∧ Fn Try.prog 137 [.e (.agg [.d (.v (.int .i64 q.f0)), .d (.sl (q.f1.map dS)), .d (.sl (q.f2.map dI))])] (lookH []) (.e (.agg [.d (.v (.int .i64 r0.f0)), .ref 64, .ref 65])) (lookH [(64, some (.row 1 9 (r0.f1.map dS) false true)), (65, some (.row 1 3 (r0.f2.map dI) false true))]) := by
  have key : ∃ x' h', ((fun x' h' => ∃ r0 : S55, (r0 = q) ∧ x' = .e (.agg [.d (.v (.int .i64 r0.f0)), .ref 64, .ref 65]) ∧ h' = [(64, some (.row 1 9 (r0.f1.map dS) false true)), (65, some (.row 1 3 (r0.f2.map dI) false true))])) x' h' ∧ Fn Try.prog 137 [.e (.agg [.d (.v (.int .i64 q.f0)), .d (.sl (q.f1.map dS)), .d (.sl (q.f2.map dI))])] (lookH []) x' (lookH h') := by
    refine Fn.bodyX (N := 14) hτ Try.func137 rfl rfl rfl rfl ?_
    refine X.seq ?_
    refine X.rk ⟨[(1, .pt 64 0 0), (2, .pt 80 0 0)], [(64, some (.box [.d (.v (.int .i64 q.f0)), .d (.sl (q.f1.map dS)), .d (.sl (q.f2.map dI))])), (80, some (.box [.d (.v (.int .i64 0)), .nil, .nil]))], 96⟩ hτ hmix (by kernel_rfl) (by kernel_rfl) rfl ?_
    refine X.seq ?_
    have hq2 := hq
    simp only [Sm31, Sm55, Sm59, SmN, SmT, SmV] at hq2
    refine X.rs 3 hτ hmix (by kernel_rfl) ?_
    have el1 : (q.f1.map dS).length = q.f1.length := List.length_map ..
    refine CH.app hτ (rows := []) (rows2 := (q.f1.map dS)) (sz := 1) (bys := 16) true (by kernel_rfl) (by kernel_rfl) (fun _ => flat_d dS (fun x => rfl)) (flat_ok (f := dS) (fun x => rfl)) (by simp only [List.length_map]; first | omega | (simp; omega)) (by kernel_rfl) ?_
    refine CH.go 2 hτ (by kernel_rfl) ?_
    refine CH.endk ⟨[(1, .pt 64 0 0), (2, .pt 80 0 0)], [(64, some (.box [.d (.v (.int .i64 q.f0)), .ref 144, .d (.sl (q.f2.map dI))])), (80, some (.box [.d (.v (.int .i64 0)), .nil, .nil])), (144, some (.row 1 9 (q.f1.map dS) false true))], 192⟩ (by kernel_rfl) (by kernel_rfl) rfl ?_
    refine X.seq ?_
    refine X.rs 3 hτ hmix (by kernel_rfl) ?_
    have el2 : (q.f2.map dI).length = q.f2.length := List.length_map ..
    refine CH.app hτ (rows := []) (rows2 := (q.f2.map dI)) (sz := 1) (bys := 8) true (by kernel_rfl) (by kernel_rfl) (fun _ => flat_d dI (fun x => rfl)) (flat_ok (f := dI) (fun x => rfl)) (by simp only [List.length_map]; first | omega | (simp; omega)) (by kernel_rfl) ?_
    refine CH.go 2 hτ (by kernel_rfl) ?_
    refine CH.endk ⟨[(1, .pt 64 0 0), (2, .pt 80 0 0)], [(64, some (.box [.d (.v (.int .i64 q.f0)), .ref 144, .ref 240])), (80, some (.box [.d (.v (.int .i64 0)), .nil, .nil])), (144, some (.row 1 9 (q.f1.map dS) false true)), (240, some (.row 1 3 (q.f2.map dI) false true))], 288⟩ (by kernel_rfl) (by kernel_rfl) rfl ?_
    refine X.seq ?_
    refine X.rk ⟨[(2, .pt 80 0 0)], [(80, some (.box [.d (.v (.int .i64 q.f0)), .ref 144, .ref 240])), (144, some (.row 1 9 (q.f1.map dS) false true)), (240, some (.row 1 3 (q.f2.map dI) false true))], 320⟩ hτ hmix (by kernel_rfl) (by kernel_rfl) rfl ?_
    refine X.ret ?_
    exact ⟨trivial, _, _, ⟨q, by first | exact rfl | omega | (dsimp only; omega) | (simp only [List.length_append, List.length_cons, List.length_nil, List.length_set]; omega) | (simp; done) | (simp; omega), rfl, rfl⟩, .inl (Ret.mk' [(64, 144), (65, 240)] (by kernel_rfl) (by kernel_rfl) (by kernel_rfl))⟩
  obtain ⟨_, _, ⟨r0, q1, rfl, rfl⟩, hf⟩ := key
  exact ⟨r0, q1, hf⟩

theorem s_l9Copy (q : S59) (hq : Sm59 q) : ∃ r0 : S59, (r0 = q) ∧ Fn Try.prog 74 [.e (.agg [.d (.v (.int .i64 q.f0)), .d (.v (.int .i64 q.f1)), .d (.v (.int .i64 q.f2)), .d (.v (.string q.f3)), .d (.v (.int .i64 q.f4.f0)), .d (.v (.int .i64 q.f4.f1)), .d (.sl (q.f4.f2.map dS)), .d (.v (.int .i64 q.f5.f0)), .d (.sl (q.f5.f1.map dS)), .d (.sl (q.f5.f2.map dI)), .d (.sl (q.f6.map d120)), .d (.v (.bool q.f7)), .d (.sl (q.f8.map d122)), .d (.v (.string q.f9))])] (lookH []) (.e (.agg [.d (.v (.int .i64 r0.f0)), .d (.v (.int .i64 r0.f1)), .d (.v (.int .i64 r0.f2)), .d (.v (.string r0.f3)), .d (.v (.int .i64 r0.f4.f0)), .d (.v (.int .i64 r0.f4.f1)), .ref 64, .d (.v (.int .i64 r0.f5.f0)), .ref 65, .ref 66, .ref 67, .d (.v (.bool r0.f7)), .ref 68, .d (.v (.string r0.f9))])) (lookH [(64, some (.row 1 9 (r0.f4.f2.map dS) false true)), (65, some (.row 1 9 (r0.f5.f1.map dS) false true)), (66, some (.row 1 3 (r0.f5.f2.map dI) false true)), (67, some (.row 5 120 (r0.f6.map d120) false true)), (68, some (.row 2 122 (r0.f8.map d122) false true))]) := by
  have key : ∃ x' h', ((fun x' h' => ∃ r0 : S59, (r0 = q) ∧ x' = .e (.agg [.d (.v (.int .i64 r0.f0)), .d (.v (.int .i64 r0.f1)), .d (.v (.int .i64 r0.f2)), .d (.v (.string r0.f3)), .d (.v (.int .i64 r0.f4.f0)), .d (.v (.int .i64 r0.f4.f1)), .ref 64, .d (.v (.int .i64 r0.f5.f0)), .ref 65, .ref 66, .ref 67, .d (.v (.bool r0.f7)), .ref 68, .d (.v (.string r0.f9))]) ∧ h' = [(64, some (.row 1 9 (r0.f4.f2.map dS) false true)), (65, some (.row 1 9 (r0.f5.f1.map dS) false true)), (66, some (.row 1 3 (r0.f5.f2.map dI) false true)), (67, some (.row 5 120 (r0.f6.map d120) false true)), (68, some (.row 2 122 (r0.f8.map d122) false true))])) x' h' ∧ Fn Try.prog 74 [.e (.agg [.d (.v (.int .i64 q.f0)), .d (.v (.int .i64 q.f1)), .d (.v (.int .i64 q.f2)), .d (.v (.string q.f3)), .d (.v (.int .i64 q.f4.f0)), .d (.v (.int .i64 q.f4.f1)), .d (.sl (q.f4.f2.map dS)), .d (.v (.int .i64 q.f5.f0)), .d (.sl (q.f5.f1.map dS)), .d (.sl (q.f5.f2.map dI)), .d (.sl (q.f6.map d120)), .d (.v (.bool q.f7)), .d (.sl (q.f8.map d122)), .d (.v (.string q.f9))])] (lookH []) x' (lookH h') := by
    refine Fn.bodyX (N := 22) hτ Try.func74 rfl rfl rfl rfl ?_
    refine X.seq ?_
    refine X.rk ⟨[(1, .pt 64 0 0), (2, .pt 80 0 0)], [(64, some (.box [.d (.v (.int .i64 q.f0)), .d (.v (.int .i64 q.f1)), .d (.v (.int .i64 q.f2)), .d (.v (.string q.f3)), .d (.v (.int .i64 q.f4.f0)), .d (.v (.int .i64 q.f4.f1)), .d (.sl (q.f4.f2.map dS)), .d (.v (.int .i64 q.f5.f0)), .d (.sl (q.f5.f1.map dS)), .d (.sl (q.f5.f2.map dI)), .d (.sl (q.f6.map d120)), .d (.v (.bool q.f7)), .d (.sl (q.f8.map d122)), .d (.v (.string q.f9))])), (80, some (.box [.d (.v (.int .i64 0)), .d (.v (.int .i64 0)), .d (.v (.int .i64 0)), .d (.v (.string (⟨#[]⟩ : ByteArray))), .d (.v (.int .i64 0)), .d (.v (.int .i64 0)), .nil, .d (.v (.int .i64 0)), .nil, .nil, .nil, .d (.v (.bool false)), .nil, .d (.v (.string (⟨#[]⟩ : ByteArray)))]))], 96⟩ hτ hmix (by kernel_rfl) (by kernel_rfl) rfl ?_
    refine X.seq ?_
    have hq2 := hq
    simp only [Sm31, Sm55, Sm59, SmN, SmT, SmV] at hq2
    refine X.rs 2 hτ hmix (by kernel_rfl) ?_
    obtain ⟨r1, hr3, hf2⟩ := s_l8CopyQc q.f4 (by exact hq.2.1)
    replace hr3 := hr3.symm; subst hr3
    refine CH.call hf2 Try.func136 ⟨rfl, rfl⟩ [] (by kernel_rfl) (by kernel_rfl) (by kernel_rfl) (by kernel_rfl) ?_
    refine CH.go 2 hτ (by kernel_rfl) ?_
    refine CH.endk ⟨[(1, .pt 64 0 0), (2, .pt 80 0 0)], [(64, some (.box [.d (.v (.int .i64 q.f0)), .d (.v (.int .i64 q.f1)), .d (.v (.int .i64 q.f2)), .d (.v (.string q.f3)), .d (.v (.int .i64 q.f4.f0)), .d (.v (.int .i64 q.f4.f1)), .ref 128, .d (.v (.int .i64 q.f5.f0)), .d (.sl (q.f5.f1.map dS)), .d (.sl (q.f5.f2.map dI)), .d (.sl (q.f6.map d120)), .d (.v (.bool q.f7)), .d (.sl (q.f8.map d122)), .d (.v (.string q.f9))])), (80, some (.box [.d (.v (.int .i64 0)), .d (.v (.int .i64 0)), .d (.v (.int .i64 0)), .d (.v (.string (⟨#[]⟩ : ByteArray))), .d (.v (.int .i64 0)), .d (.v (.int .i64 0)), .nil, .d (.v (.int .i64 0)), .nil, .nil, .nil, .d (.v (.bool false)), .nil, .d (.v (.string (⟨#[]⟩ : ByteArray)))])), (128, some (.row 1 9 (q.f4.f2.map dS) false true))], 176⟩ (by kernel_rfl) (by kernel_rfl) rfl ?_
    refine X.seq ?_
    refine X.rs 2 hτ hmix (by kernel_rfl) ?_
    obtain ⟨r5, hr7, hf6⟩ := s_l8CopyTc q.f5 (by exact hq.2.2.1)
    replace hr7 := hr7.symm; subst hr7
    refine CH.call hf6 Try.func137 ⟨rfl, rfl⟩ [] (by kernel_rfl) (by kernel_rfl) (by kernel_rfl) (by kernel_rfl) ?_
    refine CH.go 2 hτ (by kernel_rfl) ?_
    refine CH.endk ⟨[(1, .pt 64 0 0), (2, .pt 80 0 0)], [(64, some (.box [.d (.v (.int .i64 q.f0)), .d (.v (.int .i64 q.f1)), .d (.v (.int .i64 q.f2)), .d (.v (.string q.f3)), .d (.v (.int .i64 q.f4.f0)), .d (.v (.int .i64 q.f4.f1)), .ref 128, .d (.v (.int .i64 q.f5.f0)), .ref 208, .ref 209, .d (.sl (q.f6.map d120)), .d (.v (.bool q.f7)), .d (.sl (q.f8.map d122)), .d (.v (.string q.f9))])), (80, some (.box [.d (.v (.int .i64 0)), .d (.v (.int .i64 0)), .d (.v (.int .i64 0)), .d (.v (.string (⟨#[]⟩ : ByteArray))), .d (.v (.int .i64 0)), .d (.v (.int .i64 0)), .nil, .d (.v (.int .i64 0)), .nil, .nil, .nil, .d (.v (.bool false)), .nil, .d (.v (.string (⟨#[]⟩ : ByteArray)))])), (128, some (.row 1 9 (q.f4.f2.map dS) false true)), (208, some (.row 1 9 (q.f5.f1.map dS) false true)), (209, some (.row 1 3 (q.f5.f2.map dI) false true))], 256⟩ (by kernel_rfl) (by kernel_rfl) rfl ?_
    refine X.seq ?_
    refine X.rs 3 hτ hmix (by kernel_rfl) ?_
    have el9 : (q.f6.map d120).length = q.f6.length := List.length_map ..
    refine CH.app hτ (rows := []) (rows2 := (q.f6.map d120)) (sz := 5) (bys := 56) true (by kernel_rfl) (by kernel_rfl) (fun _ => flat_d d120 (fun x => rfl)) (flat_ok (f := d120) (fun x => rfl)) (by simp only [List.length_map]; first | omega | (simp; omega)) (by kernel_rfl) ?_
    refine CH.go 2 hτ (by kernel_rfl) ?_
    refine CH.endk ⟨[(1, .pt 64 0 0), (2, .pt 80 0 0)], [(64, some (.box [.d (.v (.int .i64 q.f0)), .d (.v (.int .i64 q.f1)), .d (.v (.int .i64 q.f2)), .d (.v (.string q.f3)), .d (.v (.int .i64 q.f4.f0)), .d (.v (.int .i64 q.f4.f1)), .ref 128, .d (.v (.int .i64 q.f5.f0)), .ref 208, .ref 209, .ref 304, .d (.v (.bool q.f7)), .d (.sl (q.f8.map d122)), .d (.v (.string q.f9))])), (80, some (.box [.d (.v (.int .i64 0)), .d (.v (.int .i64 0)), .d (.v (.int .i64 0)), .d (.v (.string (⟨#[]⟩ : ByteArray))), .d (.v (.int .i64 0)), .d (.v (.int .i64 0)), .nil, .d (.v (.int .i64 0)), .nil, .nil, .nil, .d (.v (.bool false)), .nil, .d (.v (.string (⟨#[]⟩ : ByteArray)))])), (128, some (.row 1 9 (q.f4.f2.map dS) false true)), (208, some (.row 1 9 (q.f5.f1.map dS) false true)), (209, some (.row 1 3 (q.f5.f2.map dI) false true)), (304, some (.row 5 120 (q.f6.map d120) false true))], 352⟩ (by kernel_rfl) (by kernel_rfl) rfl ?_
    refine X.seq ?_
    refine X.rs 3 hτ hmix (by kernel_rfl) ?_
    have el10 : (q.f8.map d122).length = q.f8.length := List.length_map ..
    refine CH.app hτ (rows := []) (rows2 := (q.f8.map d122)) (sz := 2) (bys := 24) true (by kernel_rfl) (by kernel_rfl) (fun _ => flat_d d122 (fun x => rfl)) (flat_ok (f := d122) (fun x => rfl)) (by simp only [List.length_map]; first | omega | (simp; omega)) (by kernel_rfl) ?_
    refine CH.go 2 hτ (by kernel_rfl) ?_
    refine CH.endk ⟨[(1, .pt 64 0 0), (2, .pt 80 0 0)], [(64, some (.box [.d (.v (.int .i64 q.f0)), .d (.v (.int .i64 q.f1)), .d (.v (.int .i64 q.f2)), .d (.v (.string q.f3)), .d (.v (.int .i64 q.f4.f0)), .d (.v (.int .i64 q.f4.f1)), .ref 128, .d (.v (.int .i64 q.f5.f0)), .ref 208, .ref 209, .ref 304, .d (.v (.bool q.f7)), .ref 400, .d (.v (.string q.f9))])), (80, some (.box [.d (.v (.int .i64 0)), .d (.v (.int .i64 0)), .d (.v (.int .i64 0)), .d (.v (.string (⟨#[]⟩ : ByteArray))), .d (.v (.int .i64 0)), .d (.v (.int .i64 0)), .nil, .d (.v (.int .i64 0)), .nil, .nil, .nil, .d (.v (.bool false)), .nil, .d (.v (.string (⟨#[]⟩ : ByteArray)))])), (128, some (.row 1 9 (q.f4.f2.map dS) false true)), (208, some (.row 1 9 (q.f5.f1.map dS) false true)), (209, some (.row 1 3 (q.f5.f2.map dI) false true)), (304, some (.row 5 120 (q.f6.map d120) false true)), (400, some (.row 2 122 (q.f8.map d122) false true))], 448⟩ (by kernel_rfl) (by kernel_rfl) rfl ?_
    refine X.seq ?_
    refine X.rk ⟨[(2, .pt 80 0 0)], [(80, some (.box [.d (.v (.int .i64 q.f0)), .d (.v (.int .i64 q.f1)), .d (.v (.int .i64 q.f2)), .d (.v (.string q.f3)), .d (.v (.int .i64 q.f4.f0)), .d (.v (.int .i64 q.f4.f1)), .ref 128, .d (.v (.int .i64 q.f5.f0)), .ref 208, .ref 209, .ref 304, .d (.v (.bool q.f7)), .ref 400, .d (.v (.string q.f9))])), (128, some (.row 1 9 (q.f4.f2.map dS) false true)), (208, some (.row 1 9 (q.f5.f1.map dS) false true)), (209, some (.row 1 3 (q.f5.f2.map dI) false true)), (304, some (.row 5 120 (q.f6.map d120) false true)), (400, some (.row 2 122 (q.f8.map d122) false true))], 480⟩ hτ hmix (by kernel_rfl) (by kernel_rfl) rfl ?_
    refine X.ret ?_
    exact ⟨trivial, _, _, ⟨q, by first | exact rfl | omega | (dsimp only; omega) | (simp only [List.length_append, List.length_cons, List.length_nil, List.length_set]; omega) | (simp; done) | (simp; omega), rfl, rfl⟩, .inl (Ret.mk' [(64, 128), (65, 208), (66, 209), (67, 304), (68, 400)] (by kernel_rfl) (by kernel_rfl) (by kernel_rfl))⟩
  obtain ⟨_, _, ⟨r0, q1, rfl, rfl⟩, hf⟩ := key
  exact ⟨r0, q1, hf⟩

theorem s_l10Copy (l : List S59) (hl : SmL l) : ∃ r0 : List S59, (r0 = l) ∧ Fn Try.prog 73 [.e (.c (.d (.sl (l.map d59))))] (lookH []) (.e (.c (.ref 64))) (lookH [(64, some (.row 14 59 (r0.map d59) false true))]) := by
  have key : ∃ x' h', ((fun x' h' => ∃ r0 : List S59, (r0 = l) ∧ x' = .e (.c (.ref 64)) ∧ h' = [(64, some (.row 14 59 (r0.map d59) false true))])) x' h' ∧ Fn Try.prog 73 [.e (.c (.d (.sl (l.map d59))))] (lookH []) x' (lookH h') := by
    refine Fn.bodyX (N := 21) hτ Try.func73 rfl rfl rfl rfl ?_
    refine X.seq ?_
    refine X.rk ⟨[(0, .e (.c (.d (.sl (l.map d59)))))], [], 80⟩ hτ hmix (by kernel_rfl) (by kernel_rfl) rfl ?_
    refine X.seq ?_
    refine X.rk ⟨[(0, .e (.c (.d (.sl (l.map d59))))), (3, .e (.c (.ref 80)))], [(80, some (.row 14 59 [] false true))], 112⟩ hτ hmix (by kernel_rfl) (by kernel_rfl) rfl ?_
    refine X.seq ?_
    refine X.seq ?_
    refine X.rk ⟨[(0, .e (.c (.d (.sl (l.map d59))))), (3, .e (.c (.ref 80))), (4, .e (.c (.d (.v (.int .i64 0)))))], [(80, some (.row 14 59 [] false true))], 128⟩ hτ hmix (by kernel_rfl) (by kernel_rfl) rfl ?_
    refine X.block ?_
    -- 3: Lv3 : List S59, v4 : Int
    refine X.loop (σ := { g : (List S59) × Int // (fun (Lv3 : List S59) (v4 : Int) => 0 ≤ v4 ∧ v4 ≤ l.length ∧ Lv3 = l.take v4.toNat) g.1 g.2 }) (fun g => (fun (Lv3 : List S59) (v4 : Int) => ⟨[(0, .e (.c (.d (.sl (l.map d59))))), (3, .e (.c (.ref 80))), (4, .e (.c (.d (.v (.int .i64 v4)))))], [(80, some (.row 14 59 (Lv3.map d59) false true))], 128⟩) g.1.1 g.1.2) (fun g => (fun (Lv3 : List S59) (v4 : Int) => (l.length - v4).toNat) g.1.1 g.1.2) ⟨([], 0), by simp⟩ (Wk.less (by kernel_rfl)) (fun g => ?_)
    obtain ⟨⟨Lv3, v4⟩, hg2⟩ := g
    have hg2 : 0 ≤ v4 ∧ v4 ≤ l.length ∧ Lv3 = l.take v4.toNat := hg2
    obtain ⟨_, _, hL⟩ := hg2
    refine X.seq ?_
    refine X.seq ?_
    have hll := hl.1
    have el3 : (l.map d59).length = l.length := List.length_map ..
    refine X.rk ⟨[(0, .e (.c (.d (.sl (l.map d59))))), (3, .e (.c (.ref 80))), (4, .e (.c (.d (.v (.int .i64 v4))))), (9, .e (.c (.d (.v (.bool (decide ((v4 : Int) < ((l.map d59).length : Int))))))))], [(80, some (.row 14 59 (Lv3.map d59) false true))], 192⟩ hτ hmix (by kernel_rfl) (by kernel_rfl) rfl ?_
    refine X.if_ (b := decide ((v4 : Int) < ((l.map d59).length : Int))) (by kernel_rfl) (fun hb4 => ?_) (fun hb4 => ?_)
    · replace hb4 := of_decide_eq_true hb4
      refine X.skip ?_
      refine X.seq ?_
      refine X.block ?_
      refine X.rs 3 hτ hmix (by kernel_rfl) ?_
      obtain ⟨x5, hx5⟩ : ∃ x, l[Int.toNat v4]? = some x := ⟨_, List.getElem?_eq_getElem (by first | omega | (simp; done) | (simp; omega))⟩
      refine CH.idx hτ (d59 x5) (rows := (l.map d59)) (n := v4) (sz := 14) (by kernel_rfl) (by kernel_rfl) (by first | omega | (simp; done) | (simp; omega)) (by rw [List.getElem?_map, hx5]; rfl) (by kernel_rfl) ?_
      refine CH.go 1 hτ (by kernel_rfl) ?_
      obtain ⟨r6, hr8, hf7⟩ := s_l9Copy x5 (by exact hl.at ‹_›)
      replace hr8 := hr8.symm; subst hr8
      refine CH.call hf7 Try.func74 ⟨rfl, rfl⟩ [] (by kernel_rfl) (by kernel_rfl) (by kernel_rfl) (by kernel_rfl) ?_
      refine CH.go 1 hτ (by kernel_rfl) ?_
      have el10 : (Lv3.map d59).length = Lv3.length := List.length_map ..
      have el11 : (([x5] : List S59).map d59).length = ([x5] : List S59).length := List.length_map ..
      have el12 : ([x5] : List S59).length = 1 := rfl
      refine CH.app hτ (rows := (Lv3.map d59)) (rows2 := (([x5] : List S59).map d59)) (sz := 14) (bys := 208) false (by kernel_rfl) (by kernel_rfl) (fun h => by cases h) (flat_ok (f := d59) (fun x => rfl)) (by simp only [List.length_map]; rw [hL]; simp; omega) (by kernel_rfl) ?_
      refine CH.go 1 hτ (by kernel_rfl) ?_
      refine CH.endk ⟨[(0, .e (.c (.d (.sl (l.map d59))))), (3, .e (.c (.ref 304))), (4, .e (.c (.d (.v (.int .i64 v4)))))], [(304, some (.row 14 59 ((Lv3.map d59) ++ (([x5] : List S59).map d59)) false true))], 336⟩ (by kernel_rfl) (by kernel_rfl) (s2 := ⟨[(0, .e (.c (.d (.sl (l.map d59))))), (3, .e (.c (.ref 304))), (4, .e (.c (.d (.v (.int .i64 v4)))))], [(304, some (.row 14 59 ((Lv3 ++ ([x5] : List S59)).map d59) false true))], 336⟩) (congrArg (fun z : List (List D) => (⟨[(0, .e (.c (.d (.sl (l.map d59))))), (3, .e (.c (.ref 304))), (4, .e (.c (.d (.v (.int .i64 v4)))))], [(304, some (.row 14 59 z false true))], 336⟩ : St)) (show (Lv3.map d59) ++ (([x5] : List S59).map d59) = ((Lv3 ++ ([x5] : List S59)).map d59) from List.map_append.symm)) ?_
      refine X.rk ⟨[(0, .e (.c (.d (.sl (l.map d59))))), (3, .e (.c (.ref 304))), (4, .e (.c (.d (.v (.int .i64 (wrap64 (v4 + 1)))))))], [(304, some (.row 14 59 ((Lv3 ++ ([x5] : List S59)).map d59) false true))], 384⟩ hτ hmix (by kernel_rfl) (by kernel_rfl) (s2 := ⟨[(0, .e (.c (.d (.sl (l.map d59))))), (3, .e (.c (.ref 304))), (4, .e (.c (.d (.v (.int .i64 (v4 + 1))))))], [(304, some (.row 14 59 ((Lv3 ++ ([x5] : List S59)).map d59) false true))], 384⟩) (congrArg (fun z : Int => (⟨[(0, .e (.c (.d (.sl (l.map d59))))), (3, .e (.c (.ref 304))), (4, .e (.c (.d (.v (.int .i64 z)))))], [(304, some (.row 14 59 ((Lv3 ++ ([x5] : List S59)).map d59) false true))], 384⟩ : St)) (show wrap64 (v4 + 1) = (v4 + 1) by rw [w64 (n := (v4 + 1)) (by omega) (by omega)])) ?_
      refine ⟨⟨((Lv3 ++ ([x5] : List S59)), (v4 + 1)), ⟨by first | omega | (dsimp only; omega), by first | omega | (dsimp only; omega), by rw [hL]; exact take_succ (by first | omega | (dsimp only; omega)) ‹_›⟩⟩, by first | exact rfl | omega | (dsimp only; omega) | (simp only [List.length_append, List.length_cons, List.length_nil, List.length_set]; omega) | (simp; done) | (simp; omega), Wk.mk' [(80, 304)] (by kernel_rfl) (by kernel_rfl) (by kernel_rfl)⟩
    · replace hb4 := of_decide_eq_false hb4
      refine X.exit ?_
      refine X.seq ?_
      refine X.rk ⟨[(2, .e (.c (.ref 80)))], [(80, some (.row 14 59 (Lv3.map d59) false true))], 224⟩ hτ hmix (by kernel_rfl) (by kernel_rfl) rfl ?_
      refine X.ret ?_
      exact ⟨trivial, _, _, ⟨Lv3, by rw [hL]; exact take_all (by omega), rfl, rfl⟩, .inl (Ret.mk' [(64, 80)] (by kernel_rfl) (by kernel_rfl) (by kernel_rfl))⟩
  obtain ⟨_, _, ⟨r0, q1, rfl, rfl⟩, hf⟩ := key
  exact ⟨r0, q1, hf⟩

theorem s_l10At (l : List S59) (id : Int) (hl : l.length ≤ 100000) : ∃ r0 : Int, (r0 = idAt l id) ∧ Fn Try.prog 54 [.e (.c (.d (.sl (l.map d59)))), .e (.c (.d (.v (.int .i64 id))))] (lookH []) (.e (.c (.d (.v (.int .i64 r0))))) (lookH []) := by
  have key : ∃ x' h', ((fun x' h' => ∃ r0 : Int, (r0 = idAt l id) ∧ x' = .e (.c (.d (.v (.int .i64 r0)))) ∧ h' = [])) x' h' ∧ Fn Try.prog 54 [.e (.c (.d (.sl (l.map d59)))), .e (.c (.d (.v (.int .i64 id))))] (lookH []) x' (lookH h') := by
    refine Fn.bodyX (N := 20) hτ Try.func54 rfl rfl rfl rfl ?_
    refine X.seq ?_
    refine X.rk ⟨[(0, .e (.c (.d (.sl (l.map d59))))), (1, .e (.c (.d (.v (.int .i64 id)))))], [], 80⟩ hτ hmix (by kernel_rfl) (by kernel_rfl) rfl ?_
    refine X.seq ?_
    refine X.seq ?_
    refine X.rk ⟨[(0, .e (.c (.d (.sl (l.map d59))))), (1, .e (.c (.d (.v (.int .i64 id))))), (5, .e (.c (.d (.v (.int .i64 0)))))], [], 96⟩ hτ hmix (by kernel_rfl) (by kernel_rfl) rfl ?_
    refine X.block ?_
    -- 2: v5 : Int
    refine X.loop (σ := { g : Int // (fun (v5 : Int) => 0 ≤ v5 ∧ v5 ≤ l.length ∧ ∀ (j : Nat) (y : S59), j < v5.toNat → l[j]? = some y → y.f0 ≠ id) g }) (fun g => (fun (v5 : Int) => ⟨[(0, .e (.c (.d (.sl (l.map d59))))), (1, .e (.c (.d (.v (.int .i64 id))))), (5, .e (.c (.d (.v (.int .i64 v5)))))], [], 96⟩) g.1) (fun g => (fun (v5 : Int) => (l.length - v5).toNat) g.1) ⟨0, ⟨by first | omega | (dsimp only; omega), by first | omega | (dsimp only; omega), fun j y h => by simp at h⟩⟩ (Wk.less (by kernel_rfl)) (fun g => ?_)
    obtain ⟨v5, hg2⟩ := g
    have hg2 : 0 ≤ v5 ∧ v5 ≤ l.length ∧ ∀ (j : Nat) (y : S59), j < v5.toNat → l[j]? = some y → y.f0 ≠ id := hg2
    obtain ⟨_, _, hn⟩ := hg2
    refine X.seq ?_
    refine X.seq ?_
    have el3 : (l.map d59).length = l.length := List.length_map ..
    refine X.rk ⟨[(0, .e (.c (.d (.sl (l.map d59))))), (1, .e (.c (.d (.v (.int .i64 id))))), (5, .e (.c (.d (.v (.int .i64 v5))))), (9, .e (.c (.d (.v (.bool (decide ((v5 : Int) < ((l.map d59).length : Int))))))))], [], 160⟩ hτ hmix (by kernel_rfl) (by kernel_rfl) rfl ?_
    refine X.if_ (b := decide ((v5 : Int) < ((l.map d59).length : Int))) (by kernel_rfl) (fun hb4 => ?_) (fun hb4 => ?_)
    · replace hb4 := of_decide_eq_true hb4
      refine X.skip ?_
      refine X.seq ?_
      refine X.block ?_
      refine X.seq ?_
      refine X.rs 2 hτ hmix (by kernel_rfl) ?_
      obtain ⟨x5, hx5⟩ : ∃ x, l[Int.toNat v5]? = some x := ⟨_, List.getElem?_eq_getElem (by first | omega | (simp; done) | (simp; omega))⟩
      refine CH.idx hτ (d59 x5) (rows := (l.map d59)) (n := v5) (sz := 14) (by kernel_rfl) (by kernel_rfl) (by first | omega | (simp; done) | (simp; omega)) (by rw [List.getElem?_map, hx5]; rfl) (by kernel_rfl) ?_
      refine CH.go 4 hτ (by kernel_rfl) ?_
      refine CH.endk ⟨[(0, .e (.c (.d (.sl (l.map d59))))), (1, .e (.c (.d (.v (.int .i64 id))))), (5, .e (.c (.d (.v (.int .i64 v5))))), (18, .e (.c (.d (.v (.bool (x5.f0 == id))))))], [], 272⟩ (by kernel_rfl) (by kernel_rfl) rfl ?_
      refine X.if_ (b := (x5.f0 == id)) (by kernel_rfl) (fun hb6 => ?_) (fun hb6 => ?_)
      · replace hb6 := eq_of_beq hb6
        refine X.seq ?_
        refine X.rk ⟨[(4, .e (.c (.d (.v (.int .i64 v5)))))], [], 304⟩ hτ hmix (by kernel_rfl) (by kernel_rfl) rfl ?_
        refine X.ret ?_
        exact ⟨trivial, _, _, ⟨v5, (idAt_yes (by omega) ‹_› ‹_› hn).symm, rfl, rfl⟩, .inl (Ret.mk' [] (by kernel_rfl) (by kernel_rfl) (by kernel_rfl))⟩
      · replace hb6 := beq_eq_false_iff_ne.1 hb6
        refine X.skip ?_
        refine X.rk ⟨[(0, .e (.c (.d (.sl (l.map d59))))), (1, .e (.c (.d (.v (.int .i64 id))))), (5, .e (.c (.d (.v (.int .i64 (wrap64 (v5 + 1)))))))], [], 320⟩ hτ hmix (by kernel_rfl) (by kernel_rfl) (s2 := ⟨[(0, .e (.c (.d (.sl (l.map d59))))), (1, .e (.c (.d (.v (.int .i64 id))))), (5, .e (.c (.d (.v (.int .i64 (v5 + 1))))))], [], 320⟩) (congrArg (fun z : Int => (⟨[(0, .e (.c (.d (.sl (l.map d59))))), (1, .e (.c (.d (.v (.int .i64 id))))), (5, .e (.c (.d (.v (.int .i64 z)))))], [], 320⟩ : St)) (show wrap64 (v5 + 1) = (v5 + 1) by rw [w64 (n := (v5 + 1)) (by omega) (by omega)])) ?_
        refine ⟨⟨(v5 + 1), ⟨by first | omega | (dsimp only; omega), by first | omega | (dsimp only; omega), before_succ (by first | omega | (dsimp only; omega)) ‹_› ‹_› hn⟩⟩, by first | exact rfl | omega | (dsimp only; omega) | (simp only [List.length_append, List.length_cons, List.length_nil, List.length_set]; omega) | (simp; done) | (simp; omega), Wk.mk' [] (by kernel_rfl) (by kernel_rfl) (by kernel_rfl)⟩
    · replace hb4 := of_decide_eq_false hb4
      refine X.exit ?_
      refine X.seq ?_
      refine X.rk ⟨[(4, .e (.c (.d (.v (.int .i64 (-1))))))], [], 176⟩ hτ hmix (by kernel_rfl) (by kernel_rfl) rfl ?_
      refine X.ret ?_
      exact ⟨trivial, _, _, ⟨(-1), (idAt_no fun j y hj => hn j y (by have := (List.getElem?_eq_some_iff.1 hj).1; omega) hj).symm, rfl, rfl⟩, .inl (Ret.mk' [] (by kernel_rfl) (by kernel_rfl) (by kernel_rfl))⟩
  obtain ⟨_, _, ⟨r0, q1, rfl, rfl⟩, hf⟩ := key
  exact ⟨r0, q1, hf⟩

theorem s_l1In (x : Int) (lo : Int) (hi : Int) : ∃ r0 : Bool, (True) ∧ Fn Try.prog 119 [.e (.c (.d (.v (.int .i64 x)))), .e (.c (.d (.v (.int .i64 lo)))), .e (.c (.d (.v (.int .i64 hi))))] (lookH []) (.e (.c (.d (.v (.bool r0))))) (lookH []) := by
  have key : ∃ x' h', ((fun x' h' => ∃ r0 : Bool, (True) ∧ x' = .e (.c (.d (.v (.bool r0)))) ∧ h' = [])) x' h' ∧ Fn Try.prog 119 [.e (.c (.d (.v (.int .i64 x)))), .e (.c (.d (.v (.int .i64 lo)))), .e (.c (.d (.v (.int .i64 hi))))] (lookH []) x' (lookH h') := by
    refine Fn.bodyX (N := 15) hτ Try.func119 rfl rfl rfl rfl ?_
    refine X.seq ?_
    refine X.rk ⟨[(0, .e (.c (.d (.v (.int .i64 x))))), (1, .e (.c (.d (.v (.int .i64 lo))))), (2, .e (.c (.d (.v (.int .i64 hi)))))], [], 80⟩ hτ hmix (by kernel_rfl) (by kernel_rfl) rfl ?_
    refine X.seq ?_
    refine X.rs 4 hτ hmix (by kernel_rfl) ?_
    rcases Bool.eq_false_or_eq_true (decide ((x : Int) ≥ lo)) with hb1 | hb1
    · refine CH.alt 9 (sV (.bool (decide ((x : Int) ≥ lo)))) (sV (.bool true)) (by kernel_rfl) (by rw [hb1]) ?_
      refine CH.alt 10 (sV (.bool (decide ((x : Int) ≥ lo)))) (sV (.bool true)) (by kernel_rfl) (by rw [hb1]) ?_
      replace hb1 := of_decide_eq_true hb1
      refine CH.go 5 hτ (by kernel_rfl) ?_
      refine CH.endk ⟨[(6, .e (.c (.d (.v (.bool (decide ((x : Int) ≤ hi)))))))], [], 224⟩ (by kernel_rfl) (by kernel_rfl) rfl ?_
      refine X.ret ?_
      exact ⟨trivial, _, _, ⟨decide ((x : Int) ≤ hi), trivial, rfl, rfl⟩, .inl (Ret.mk' [] (by kernel_rfl) (by kernel_rfl) (by kernel_rfl))⟩
    · refine CH.alt 9 (sV (.bool (decide ((x : Int) ≥ lo)))) (sV (.bool false)) (by kernel_rfl) (by rw [hb1]) ?_
      refine CH.alt 10 (sV (.bool (decide ((x : Int) ≥ lo)))) (sV (.bool false)) (by kernel_rfl) (by rw [hb1]) ?_
      replace hb1 := of_decide_eq_false hb1
      refine CH.go 5 hτ (by kernel_rfl) ?_
      refine CH.endk ⟨[(6, .e (.c (.d (.v (.bool false)))))], [], 224⟩ (by kernel_rfl) (by kernel_rfl) rfl ?_
      refine X.ret ?_
      exact ⟨trivial, _, _, ⟨false, trivial, rfl, rfl⟩, .inl (Ret.mk' [] (by kernel_rfl) (by kernel_rfl) (by kernel_rfl))⟩
  obtain ⟨_, _, ⟨r0, q1, rfl, rfl⟩, hf⟩ := key
  exact ⟨r0, q1, hf⟩

theorem s_NameOk (s : ByteArray) (hs : SmS s) : ∃ r0 : Bool, (True) ∧ Fn Try.prog 120 [.e (.c (.d (.v (.string s))))] (lookH []) (.e (.c (.d (.v (.bool r0))))) (lookH []) := by
  have key : ∃ x' h', ((fun x' h' => ∃ r0 : Bool, (True) ∧ x' = .e (.c (.d (.v (.bool r0)))) ∧ h' = [])) x' h' ∧ Fn Try.prog 120 [.e (.c (.d (.v (.string s))))] (lookH []) x' (lookH h') := by
    refine Fn.bodyX (N := 27) hτ Try.func120 rfl rfl rfl rfl ?_
    refine X.seq ?_
    refine X.rk ⟨[(0, .e (.c (.d (.v (.string s)))))], [], 80⟩ hτ hmix (by kernel_rfl) (by kernel_rfl) rfl ?_
    refine X.seq ?_
    refine X.seq ?_
    refine X.rk ⟨[(0, .e (.c (.d (.v (.string s))))), (3, .e (.c (.d (.v (.int .i64 0)))))], [], 96⟩ hτ hmix (by kernel_rfl) (by kernel_rfl) rfl ?_
    refine X.block ?_
    -- 2: v3 : Int
    refine X.loop (σ := { g : Int // (fun (v3 : Int) => 0 ≤ v3 ∧ v3 ≤ s.size) g }) (fun g => (fun (v3 : Int) => ⟨[(0, .e (.c (.d (.v (.string s))))), (3, .e (.c (.d (.v (.int .i64 v3)))))], [], 96⟩) g.1) (fun g => (fun (v3 : Int) => (s.size - v3).toNat) g.1) ⟨0, by first | exact rfl | omega | (dsimp only; omega) | (simp only [List.length_append, List.length_cons, List.length_nil, List.length_set]; omega) | (simp; done) | (simp; omega)⟩ (Wk.less (by kernel_rfl)) (fun g => ?_)
    obtain ⟨v3, hg2⟩ := g
    have hg2 : 0 ≤ v3 ∧ v3 ≤ s.size := hg2
    refine X.seq ?_
    refine X.seq ?_
    have hm : s.size ≤ 100000 := hs
    refine X.rk ⟨[(0, .e (.c (.d (.v (.string s))))), (3, .e (.c (.d (.v (.int .i64 v3))))), (7, .e (.c (.d (.v (.bool (decide ((v3 : Int) < (s.size : Int))))))))], [], 160⟩ hτ hmix (by kernel_rfl) (by kernel_rfl) rfl ?_
    refine X.if_ (b := decide ((v3 : Int) < (s.size : Int))) (by kernel_rfl) (fun hb3 => ?_) (fun hb3 => ?_)
    · replace hb3 := of_decide_eq_true hb3
      refine X.skip ?_
      refine X.seq ?_
      refine X.block ?_
      refine X.seq ?_
      refine X.rs 2 hτ hmix (by kernel_rfl) ?_
      obtain ⟨b4, hb4⟩ : ∃ b, s[Int.toNat v3]? = some b := ⟨_, getElem?_pos _ _ (by first | omega | (simp; done) | (simp; omega))⟩
      refine CH.sidx hτ (s := s) (n := v3) b4 (by kernel_rfl) (by kernel_rfl) (by first | omega | (simp; done) | (simp; omega)) hb4 ?_
      refine CH.go 1 hτ (by kernel_rfl) ?_
      obtain ⟨r5, hr7, hf6⟩ := s_l1In (wr .i64 ((b4.toNat : Int))) 97 122
      refine CH.call hf6 Try.func119 ⟨rfl, rfl⟩ [] (by kernel_rfl) (by kernel_rfl) (by kernel_rfl) (by kernel_rfl) ?_
      refine CH.go 2 hτ (by kernel_rfl) ?_
      rcases Bool.eq_false_or_eq_true (!r5) with hb8 | hb8
      · refine CH.alt 15 (sV (.bool (!r5))) (sV (.bool true)) (by kernel_rfl) (by rw [hb8]) ?_
        refine CH.alt 16 (sV (.bool (!r5))) (sV (.bool true)) (by kernel_rfl) (by rw [hb8]) ?_
        refine CH.go 2 hτ (by kernel_rfl) ?_
        obtain ⟨b9, hb9⟩ : ∃ b, s[Int.toNat v3]? = some b := ⟨_, getElem?_pos _ _ (by first | omega | (simp; done) | (simp; omega))⟩
        refine CH.sidx hτ (s := s) (n := v3) b9 (by kernel_rfl) (by kernel_rfl) (by first | omega | (simp; done) | (simp; omega)) hb9 ?_
        refine CH.go 1 hτ (by kernel_rfl) ?_
        obtain ⟨r10, hr12, hf11⟩ := s_l1In (wr .i64 ((b9.toNat : Int))) 48 57
        refine CH.call hf11 Try.func119 ⟨rfl, rfl⟩ [] (by kernel_rfl) (by kernel_rfl) (by kernel_rfl) (by kernel_rfl) ?_
        refine CH.go 2 hτ (by kernel_rfl) ?_
        refine CH.endk ⟨[(0, .e (.c (.d (.v (.string s))))), (3, .e (.c (.d (.v (.int .i64 v3))))), (23, .e (.c (.d (.v (.bool (!r10))))))], [], 384⟩ (by kernel_rfl) (by kernel_rfl) rfl ?_
        refine X.if_ (b := !r10) (by kernel_rfl) (fun hb13 => ?_) (fun hb13 => ?_)
        · refine X.seq ?_
          refine X.rk ⟨[(2, .e (.c (.d (.v (.bool false)))))], [], 400⟩ hτ hmix (by kernel_rfl) (by kernel_rfl) rfl ?_
          refine X.ret ?_
          exact ⟨trivial, _, _, ⟨false, trivial, rfl, rfl⟩, .inl (Ret.mk' [] (by kernel_rfl) (by kernel_rfl) (by kernel_rfl))⟩
        · refine X.skip ?_
          refine X.rk ⟨[(0, .e (.c (.d (.v (.string s))))), (3, .e (.c (.d (.v (.int .i64 (wrap64 (v3 + 1)))))))], [], 432⟩ hτ hmix (by kernel_rfl) (by kernel_rfl) (s2 := ⟨[(0, .e (.c (.d (.v (.string s))))), (3, .e (.c (.d (.v (.int .i64 (v3 + 1))))))], [], 432⟩) (congrArg (fun z : Int => (⟨[(0, .e (.c (.d (.v (.string s))))), (3, .e (.c (.d (.v (.int .i64 z)))))], [], 432⟩ : St)) (show wrap64 (v3 + 1) = (v3 + 1) by rw [w64 (n := (v3 + 1)) (by omega) (by omega)])) ?_
          refine ⟨⟨(v3 + 1), by first | exact rfl | omega | (dsimp only; omega) | (simp only [List.length_append, List.length_cons, List.length_nil, List.length_set]; omega) | (simp; done) | (simp; omega)⟩, by first | exact rfl | omega | (dsimp only; omega) | (simp only [List.length_append, List.length_cons, List.length_nil, List.length_set]; omega) | (simp; done) | (simp; omega), Wk.mk' [] (by kernel_rfl) (by kernel_rfl) (by kernel_rfl)⟩
      · refine CH.alt 15 (sV (.bool (!r5))) (sV (.bool false)) (by kernel_rfl) (by rw [hb8]) ?_
        refine CH.alt 16 (sV (.bool (!r5))) (sV (.bool false)) (by kernel_rfl) (by rw [hb8]) ?_
        refine CH.go 7 hτ (by kernel_rfl) ?_
        refine CH.endk ⟨[(0, .e (.c (.d (.v (.string s))))), (3, .e (.c (.d (.v (.int .i64 v3))))), (23, .e (.c (.d (.v (.bool false)))))], [], 384⟩ (by kernel_rfl) (by kernel_rfl) rfl ?_
        refine X.ifF (by kernel_rfl) ?_
        refine X.skip ?_
        refine X.rk ⟨[(0, .e (.c (.d (.v (.string s))))), (3, .e (.c (.d (.v (.int .i64 (wrap64 (v3 + 1)))))))], [], 432⟩ hτ hmix (by kernel_rfl) (by kernel_rfl) (s2 := ⟨[(0, .e (.c (.d (.v (.string s))))), (3, .e (.c (.d (.v (.int .i64 (v3 + 1))))))], [], 432⟩) (congrArg (fun z : Int => (⟨[(0, .e (.c (.d (.v (.string s))))), (3, .e (.c (.d (.v (.int .i64 z)))))], [], 432⟩ : St)) (show wrap64 (v3 + 1) = (v3 + 1) by rw [w64 (n := (v3 + 1)) (by omega) (by omega)])) ?_
        refine ⟨⟨(v3 + 1), by first | exact rfl | omega | (dsimp only; omega) | (simp only [List.length_append, List.length_cons, List.length_nil, List.length_set]; omega) | (simp; done) | (simp; omega)⟩, by first | exact rfl | omega | (dsimp only; omega) | (simp only [List.length_append, List.length_cons, List.length_nil, List.length_set]; omega) | (simp; done) | (simp; omega), Wk.mk' [] (by kernel_rfl) (by kernel_rfl) (by kernel_rfl)⟩
    · replace hb3 := of_decide_eq_false hb3
      refine X.exit ?_
      refine X.seq ?_
      refine X.rs 2 hτ hmix (by kernel_rfl) ?_
      obtain ⟨r14, hr16, hf15⟩ := s_l1In (s.size : Int) 1 8
      refine CH.call hf15 Try.func119 ⟨rfl, rfl⟩ [] (by kernel_rfl) (by kernel_rfl) (by kernel_rfl) (by kernel_rfl) ?_
      refine CH.go 1 hτ (by kernel_rfl) ?_
      refine CH.endk ⟨[(2, .e (.c (.d (.v (.bool r14)))))], [], 224⟩ (by kernel_rfl) (by kernel_rfl) rfl ?_
      refine X.ret ?_
      exact ⟨trivial, _, _, ⟨r14, trivial, rfl, rfl⟩, .inl (Ret.mk' [] (by kernel_rfl) (by kernel_rfl) (by kernel_rfl))⟩
  obtain ⟨_, _, ⟨r0, q1, rfl, rfl⟩, hf⟩ := key
  exact ⟨r0, q1, hf⟩

theorem s_NamesOk (l : List ByteArray) (hl : SmN l) : ∃ r0 : Bool, (True) ∧ Fn Try.prog 162 [.e (.c (.d (.sl (l.map dS))))] (lookH []) (.e (.c (.d (.v (.bool r0))))) (lookH []) := by
  have key : ∃ x' h', ((fun x' h' => ∃ r0 : Bool, (True) ∧ x' = .e (.c (.d (.v (.bool r0)))) ∧ h' = [])) x' h' ∧ Fn Try.prog 162 [.e (.c (.d (.sl (l.map dS))))] (lookH []) x' (lookH h') := by
    refine Fn.bodyX (N := 35) hτ Try.func162 rfl rfl rfl rfl ?_
    refine X.seq ?_
    refine X.rk ⟨[(0, .e (.c (.d (.sl (l.map dS)))))], [], 80⟩ hτ hmix (by kernel_rfl) (by kernel_rfl) rfl ?_
    refine X.seq ?_
    refine X.seq ?_
    refine X.rk ⟨[(0, .e (.c (.d (.sl (l.map dS))))), (3, .e (.c (.d (.v (.int .i64 0)))))], [], 96⟩ hτ hmix (by kernel_rfl) (by kernel_rfl) rfl ?_
    refine X.block ?_
    -- 2: v3 : Int
    refine X.loop (σ := { g : Int // (fun (v3 : Int) => 0 ≤ v3 ∧ v3 ≤ l.length) g }) (fun g => (fun (v3 : Int) => ⟨[(0, .e (.c (.d (.sl (l.map dS))))), (3, .e (.c (.d (.v (.int .i64 v3)))))], [], 96⟩) g.1) (fun g => (fun (v3 : Int) => (l.length - v3).toNat) g.1) ⟨0, by first | exact rfl | omega | (dsimp only; omega) | (simp only [List.length_append, List.length_cons, List.length_nil, List.length_set]; omega) | (simp; done) | (simp; omega)⟩ (Wk.less (by kernel_rfl)) (fun g => ?_)
    obtain ⟨v3, hg2⟩ := g
    have hg2 : 0 ≤ v3 ∧ v3 ≤ l.length := hg2
    refine X.seq ?_
    refine X.seq ?_
    have hm := hl.1
    have el3 : (l.map dS).length = l.length := List.length_map ..
    refine X.rk ⟨[(0, .e (.c (.d (.sl (l.map dS))))), (3, .e (.c (.d (.v (.int .i64 v3))))), (7, .e (.c (.d (.v (.bool (decide ((v3 : Int) < ((l.map dS).length : Int))))))))], [], 160⟩ hτ hmix (by kernel_rfl) (by kernel_rfl) rfl ?_
    refine X.if_ (b := decide ((v3 : Int) < ((l.map dS).length : Int))) (by kernel_rfl) (fun hb4 => ?_) (fun hb4 => ?_)
    · replace hb4 := of_decide_eq_true hb4
      refine X.skip ?_
      refine X.seq ?_
      refine X.block ?_
      refine X.seq ?_
      refine X.rs 2 hτ hmix (by kernel_rfl) ?_
      obtain ⟨x5, hx5⟩ : ∃ x, l[Int.toNat v3]? = some x := ⟨_, List.getElem?_eq_getElem (by first | omega | (simp; done) | (simp; omega))⟩
      refine CH.idx hτ (dS x5) (rows := (l.map dS)) (n := v3) (sz := 1) (by kernel_rfl) (by kernel_rfl) (by first | omega | (simp; done) | (simp; omega)) (by rw [List.getElem?_map, hx5]; rfl) (by kernel_rfl) ?_
      refine CH.go 1 hτ (by kernel_rfl) ?_
      obtain ⟨r6, hr8, hf7⟩ := s_NameOk x5 (by exact all_at hl.2 ‹_›)
      refine CH.call hf7 Try.func120 ⟨rfl, rfl⟩ [] (by kernel_rfl) (by kernel_rfl) (by kernel_rfl) (by kernel_rfl) ?_
      refine CH.go 2 hτ (by kernel_rfl) ?_
      rcases Bool.eq_false_or_eq_true (!r6) with hb9 | hb9
      · refine CH.alt 15 (sV (.bool (!r6))) (sV (.bool true)) (by kernel_rfl) (by rw [hb9]) ?_
        refine CH.alt 16 (sV (.bool (!r6))) (sV (.bool true)) (by kernel_rfl) (by rw [hb9]) ?_
        refine CH.go 15 hτ (by kernel_rfl) ?_
        refine CH.endk ⟨[(0, .e (.c (.d (.sl (l.map dS))))), (3, .e (.c (.d (.v (.int .i64 v3))))), (31, .e (.c (.d (.v (.bool true)))))], [], 512⟩ (by kernel_rfl) (by kernel_rfl) rfl ?_
        refine X.ifT (by kernel_rfl) ?_
        refine X.seq ?_
        refine X.rk ⟨[(2, .e (.c (.d (.v (.bool false)))))], [], 528⟩ hτ hmix (by kernel_rfl) (by kernel_rfl) rfl ?_
        refine X.ret ?_
        exact ⟨trivial, _, _, ⟨false, trivial, rfl, rfl⟩, .inl (Ret.mk' [] (by kernel_rfl) (by kernel_rfl) (by kernel_rfl))⟩
      · refine CH.alt 15 (sV (.bool (!r6))) (sV (.bool false)) (by kernel_rfl) (by rw [hb9]) ?_
        refine CH.alt 16 (sV (.bool (!r6))) (sV (.bool false)) (by kernel_rfl) (by rw [hb9]) ?_
        refine CH.go 3 hτ (by kernel_rfl) ?_
        rcases Bool.eq_false_or_eq_true (decide ((v3 : Int) > 0)) with hb10 | hb10
        · refine CH.alt 18 (sV (.bool (decide ((v3 : Int) > 0)))) (sV (.bool true)) (by kernel_rfl) (by rw [hb10]) ?_
          refine CH.alt 19 (sV (.bool (decide ((v3 : Int) > 0)))) (sV (.bool true)) (by kernel_rfl) (by rw [hb10]) ?_
          replace hb10 := of_decide_eq_true hb10
          refine CH.go 3 hτ (by kernel_rfl) ?_
          obtain ⟨x11, hx11⟩ : ∃ x, l[Int.toNat (v3 - 1)]? = some x := ⟨_, List.getElem?_eq_getElem (by first | omega | (simp; done) | (simp; omega))⟩
          refine CH.alt 22 (sV (.int .i64 (wrap64 (v3 - 1)))) (sV (.int .i64 ((v3 - 1)))) (by kernel_rfl) (by rw [w64 (n := (v3 - 1)) (by omega) (by omega)]) ?_
          refine CH.idx hτ (dS x11) (rows := (l.map dS)) (n := (v3 - 1)) (sz := 1) (by kernel_rfl) (by kernel_rfl) (by first | omega | (simp; done) | (simp; omega)) (by rw [List.getElem?_map, hx11]; rfl) (by kernel_rfl) ?_
          refine CH.go 3 hτ (by kernel_rfl) ?_
          refine CH.idx hτ (dS x5) (rows := (l.map dS)) (n := v3) (sz := 1) (by kernel_rfl) (by kernel_rfl) (by first | omega | (simp; done) | (simp; omega)) (by rw [List.getElem?_map, hx5]; rfl) (by kernel_rfl) ?_
          refine CH.go 4 hτ (by kernel_rfl) ?_
          refine CH.endk ⟨[(0, .e (.c (.d (.sl (l.map dS))))), (3, .e (.c (.d (.v (.int .i64 v3))))), (31, .e (.c (.d (.v (.bool (!(Op.bytesLess x11.toList x5.toList)))))))], [], 512⟩ (by kernel_rfl) (by kernel_rfl) rfl ?_
          refine X.if_ (b := !(Op.bytesLess x11.toList x5.toList)) (by kernel_rfl) (fun hb12 => ?_) (fun hb12 => ?_)
          · refine X.seq ?_
            refine X.rk ⟨[(2, .e (.c (.d (.v (.bool false)))))], [], 528⟩ hτ hmix (by kernel_rfl) (by kernel_rfl) rfl ?_
            refine X.ret ?_
            exact ⟨trivial, _, _, ⟨false, trivial, rfl, rfl⟩, .inl (Ret.mk' [] (by kernel_rfl) (by kernel_rfl) (by kernel_rfl))⟩
          · refine X.skip ?_
            refine X.rk ⟨[(0, .e (.c (.d (.sl (l.map dS))))), (3, .e (.c (.d (.v (.int .i64 (wrap64 (v3 + 1)))))))], [], 560⟩ hτ hmix (by kernel_rfl) (by kernel_rfl) (s2 := ⟨[(0, .e (.c (.d (.sl (l.map dS))))), (3, .e (.c (.d (.v (.int .i64 (v3 + 1))))))], [], 560⟩) (congrArg (fun z : Int => (⟨[(0, .e (.c (.d (.sl (l.map dS))))), (3, .e (.c (.d (.v (.int .i64 z)))))], [], 560⟩ : St)) (show wrap64 (v3 + 1) = (v3 + 1) by rw [w64 (n := (v3 + 1)) (by omega) (by omega)])) ?_
            refine ⟨⟨(v3 + 1), by first | exact rfl | omega | (dsimp only; omega) | (simp only [List.length_append, List.length_cons, List.length_nil, List.length_set]; omega) | (simp; done) | (simp; omega)⟩, by first | exact rfl | omega | (dsimp only; omega) | (simp only [List.length_append, List.length_cons, List.length_nil, List.length_set]; omega) | (simp; done) | (simp; omega), Wk.mk' [] (by kernel_rfl) (by kernel_rfl) (by kernel_rfl)⟩
        · refine CH.alt 18 (sV (.bool (decide ((v3 : Int) > 0)))) (sV (.bool false)) (by kernel_rfl) (by rw [hb10]) ?_
          refine CH.alt 19 (sV (.bool (decide ((v3 : Int) > 0)))) (sV (.bool false)) (by kernel_rfl) (by rw [hb10]) ?_
          replace hb10 := of_decide_eq_false hb10
          refine CH.go 12 hτ (by kernel_rfl) ?_
          refine CH.endk ⟨[(0, .e (.c (.d (.sl (l.map dS))))), (3, .e (.c (.d (.v (.int .i64 v3))))), (31, .e (.c (.d (.v (.bool false)))))], [], 512⟩ (by kernel_rfl) (by kernel_rfl) rfl ?_
          refine X.ifF (by kernel_rfl) ?_
          refine X.skip ?_
          refine X.rk ⟨[(0, .e (.c (.d (.sl (l.map dS))))), (3, .e (.c (.d (.v (.int .i64 (wrap64 (v3 + 1)))))))], [], 560⟩ hτ hmix (by kernel_rfl) (by kernel_rfl) (s2 := ⟨[(0, .e (.c (.d (.sl (l.map dS))))), (3, .e (.c (.d (.v (.int .i64 (v3 + 1))))))], [], 560⟩) (congrArg (fun z : Int => (⟨[(0, .e (.c (.d (.sl (l.map dS))))), (3, .e (.c (.d (.v (.int .i64 z)))))], [], 560⟩ : St)) (show wrap64 (v3 + 1) = (v3 + 1) by rw [w64 (n := (v3 + 1)) (by omega) (by omega)])) ?_
          refine ⟨⟨(v3 + 1), by first | exact rfl | omega | (dsimp only; omega) | (simp only [List.length_append, List.length_cons, List.length_nil, List.length_set]; omega) | (simp; done) | (simp; omega)⟩, by first | exact rfl | omega | (dsimp only; omega) | (simp only [List.length_append, List.length_cons, List.length_nil, List.length_set]; omega) | (simp; done) | (simp; omega), Wk.mk' [] (by kernel_rfl) (by kernel_rfl) (by kernel_rfl)⟩
    · replace hb4 := of_decide_eq_false hb4
      refine X.exit ?_
      refine X.seq ?_
      refine X.rk ⟨[(2, .e (.c (.d (.v (.bool (decide ((((l.map dS).length : Int) : Int) ≤ 20)))))))], [], 224⟩ hτ hmix (by kernel_rfl) (by kernel_rfl) rfl ?_
      refine X.ret ?_
      exact ⟨trivial, _, _, ⟨decide ((((l.map dS).length : Int) : Int) ≤ 20), trivial, rfl, rfl⟩, .inl (Ret.mk' [] (by kernel_rfl) (by kernel_rfl) (by kernel_rfl))⟩
  obtain ⟨_, _, ⟨r0, q1, rfl, rfl⟩, hf⟩ := key
  exact ⟨r0, q1, hf⟩

theorem s_l8Root (q : S31) : ∃ r0 : Bool, (True) ∧ Fn Try.prog 59 [.e (.agg [.d (.v (.int .i64 q.f0)), .d (.v (.int .i64 q.f1)), .d (.sl (q.f2.map dS))])] (lookH []) (.e (.c (.d (.v (.bool r0))))) (lookH []) := by
  have key : ∃ x' h', ((fun x' h' => ∃ r0 : Bool, (True) ∧ x' = .e (.c (.d (.v (.bool r0)))) ∧ h' = [])) x' h' ∧ Fn Try.prog 59 [.e (.agg [.d (.v (.int .i64 q.f0)), .d (.v (.int .i64 q.f1)), .d (.sl (q.f2.map dS))])] (lookH []) x' (lookH h') := by
    refine Fn.bodyX (N := 17) hτ Try.func59 rfl rfl rfl rfl ?_
    refine X.seq ?_
    refine X.rk ⟨[(1, .pt 64 0 0)], [(64, some (.box [.d (.v (.int .i64 q.f0)), .d (.v (.int .i64 q.f1)), .d (.sl (q.f2.map dS))]))], 96⟩ hτ hmix (by kernel_rfl) (by kernel_rfl) rfl ?_
    refine X.seq ?_
    refine X.rs 4 hτ hmix (by kernel_rfl) ?_
    rcases Bool.eq_false_or_eq_true ((q.f0 == 0)) with hb1 | hb1
    · refine CH.alt 5 (sV (.bool ((q.f0 == 0)))) (sV (.bool true)) (by kernel_rfl) (by rw [hb1]) ?_
      refine CH.alt 6 (sV (.bool ((q.f0 == 0)))) (sV (.bool true)) (by kernel_rfl) (by rw [hb1]) ?_
      replace hb1 := eq_of_beq hb1
      refine CH.go 5 hτ (by kernel_rfl) ?_
      rcases Bool.eq_false_or_eq_true ((q.f1 == (-1))) with hb2 | hb2
      · refine CH.alt 9 (sV (.bool ((q.f1 == (-1))))) (sV (.bool true)) (by kernel_rfl) (by rw [hb2]) ?_
        refine CH.alt 10 (sV (.bool ((q.f1 == (-1))))) (sV (.bool true)) (by kernel_rfl) (by rw [hb2]) ?_
        refine CH.alt 11 (sV (.bool ((q.f1 == (-1))))) (sV (.bool true)) (by kernel_rfl) (by rw [hb2]) ?_
        replace hb2 := eq_of_beq hb2
        refine CH.go 6 hτ (by kernel_rfl) ?_
        have el3 : (q.f2.map dS).length = q.f2.length := List.length_map ..
        refine CH.endk ⟨[(2, .e (.c (.d (.v (.bool (((q.f2.map dS).length : Int) == 0))))))], [], 336⟩ (by kernel_rfl) (by kernel_rfl) rfl ?_
        refine X.ret ?_
        exact ⟨trivial, _, _, ⟨(((q.f2.map dS).length : Int) == 0), trivial, rfl, rfl⟩, .inl (Ret.mk' [] (by kernel_rfl) (by kernel_rfl) (by kernel_rfl))⟩
      · refine CH.alt 9 (sV (.bool ((q.f1 == (-1))))) (sV (.bool false)) (by kernel_rfl) (by rw [hb2]) ?_
        refine CH.alt 10 (sV (.bool ((q.f1 == (-1))))) (sV (.bool false)) (by kernel_rfl) (by rw [hb2]) ?_
        refine CH.alt 11 (sV (.bool ((q.f1 == (-1))))) (sV (.bool false)) (by kernel_rfl) (by rw [hb2]) ?_
        replace hb2 := beq_eq_false_iff_ne.1 hb2
        refine CH.go 6 hτ (by kernel_rfl) ?_
        refine CH.endk ⟨[(2, .e (.c (.d (.v (.bool false)))))], [], 336⟩ (by kernel_rfl) (by kernel_rfl) rfl ?_
        refine X.ret ?_
        exact ⟨trivial, _, _, ⟨false, trivial, rfl, rfl⟩, .inl (Ret.mk' [] (by kernel_rfl) (by kernel_rfl) (by kernel_rfl))⟩
    · refine CH.alt 5 (sV (.bool ((q.f0 == 0)))) (sV (.bool false)) (by kernel_rfl) (by rw [hb1]) ?_
      refine CH.alt 6 (sV (.bool ((q.f0 == 0)))) (sV (.bool false)) (by kernel_rfl) (by rw [hb1]) ?_
      replace hb1 := beq_eq_false_iff_ne.1 hb1
      refine CH.go 11 hτ (by kernel_rfl) ?_
      refine CH.endk ⟨[(2, .e (.c (.d (.v (.bool false)))))], [], 336⟩ (by kernel_rfl) (by kernel_rfl) rfl ?_
      refine X.ret ?_
      exact ⟨trivial, _, _, ⟨false, trivial, rfl, rfl⟩, .inl (Ret.mk' [] (by kernel_rfl) (by kernel_rfl) (by kernel_rfl))⟩
  obtain ⟨_, _, ⟨r0, q1, rfl, rfl⟩, hf⟩ := key
  exact ⟨r0, q1, hf⟩

theorem s_l8None (t : S55) : ∃ r0 : Bool, (True) ∧ Fn Try.prog 163 [.e (.agg [.d (.v (.int .i64 t.f0)), .d (.sl (t.f1.map dS)), .d (.sl (t.f2.map dI))])] (lookH []) (.e (.c (.d (.v (.bool r0))))) (lookH []) := by
  have key : ∃ x' h', ((fun x' h' => ∃ r0 : Bool, (True) ∧ x' = .e (.c (.d (.v (.bool r0)))) ∧ h' = [])) x' h' ∧ Fn Try.prog 163 [.e (.agg [.d (.v (.int .i64 t.f0)), .d (.sl (t.f1.map dS)), .d (.sl (t.f2.map dI))])] (lookH []) x' (lookH h') := by
    refine Fn.bodyX (N := 18) hτ Try.func163 rfl rfl rfl rfl ?_
    refine X.seq ?_
    refine X.rk ⟨[(1, .pt 64 0 0)], [(64, some (.box [.d (.v (.int .i64 t.f0)), .d (.sl (t.f1.map dS)), .d (.sl (t.f2.map dI))]))], 96⟩ hτ hmix (by kernel_rfl) (by kernel_rfl) rfl ?_
    refine X.seq ?_
    refine X.rs 4 hτ hmix (by kernel_rfl) ?_
    rcases Bool.eq_false_or_eq_true ((t.f0 == 0)) with hb1 | hb1
    · refine CH.alt 5 (sV (.bool ((t.f0 == 0)))) (sV (.bool true)) (by kernel_rfl) (by rw [hb1]) ?_
      refine CH.alt 6 (sV (.bool ((t.f0 == 0)))) (sV (.bool true)) (by kernel_rfl) (by rw [hb1]) ?_
      replace hb1 := eq_of_beq hb1
      refine CH.go 6 hτ (by kernel_rfl) ?_
      have el2 : (t.f1.map dS).length = t.f1.length := List.length_map ..
      rcases Bool.eq_false_or_eq_true ((((t.f1.map dS).length : Int) == 0)) with hb3 | hb3
      · refine CH.alt 10 (sV (.bool ((((t.f1.map dS).length : Int) == 0)))) (sV (.bool true)) (by kernel_rfl) (by rw [hb3]) ?_
        refine CH.alt 11 (sV (.bool ((((t.f1.map dS).length : Int) == 0)))) (sV (.bool true)) (by kernel_rfl) (by rw [hb3]) ?_
        refine CH.alt 12 (sV (.bool ((((t.f1.map dS).length : Int) == 0)))) (sV (.bool true)) (by kernel_rfl) (by rw [hb3]) ?_
        replace hb3 := eq_of_beq hb3
        refine CH.go 6 hτ (by kernel_rfl) ?_
        have el4 : (t.f2.map dI).length = t.f2.length := List.length_map ..
        refine CH.endk ⟨[(2, .e (.c (.d (.v (.bool (((t.f2.map dI).length : Int) == 0))))))], [], 352⟩ (by kernel_rfl) (by kernel_rfl) rfl ?_
        refine X.ret ?_
        exact ⟨trivial, _, _, ⟨(((t.f2.map dI).length : Int) == 0), trivial, rfl, rfl⟩, .inl (Ret.mk' [] (by kernel_rfl) (by kernel_rfl) (by kernel_rfl))⟩
      · refine CH.alt 10 (sV (.bool ((((t.f1.map dS).length : Int) == 0)))) (sV (.bool false)) (by kernel_rfl) (by rw [hb3]) ?_
        refine CH.alt 11 (sV (.bool ((((t.f1.map dS).length : Int) == 0)))) (sV (.bool false)) (by kernel_rfl) (by rw [hb3]) ?_
        refine CH.alt 12 (sV (.bool ((((t.f1.map dS).length : Int) == 0)))) (sV (.bool false)) (by kernel_rfl) (by rw [hb3]) ?_
        replace hb3 := beq_eq_false_iff_ne.1 hb3
        refine CH.go 6 hτ (by kernel_rfl) ?_
        refine CH.endk ⟨[(2, .e (.c (.d (.v (.bool false)))))], [], 352⟩ (by kernel_rfl) (by kernel_rfl) rfl ?_
        refine X.ret ?_
        exact ⟨trivial, _, _, ⟨false, trivial, rfl, rfl⟩, .inl (Ret.mk' [] (by kernel_rfl) (by kernel_rfl) (by kernel_rfl))⟩
    · refine CH.alt 5 (sV (.bool ((t.f0 == 0)))) (sV (.bool false)) (by kernel_rfl) (by rw [hb1]) ?_
      refine CH.alt 6 (sV (.bool ((t.f0 == 0)))) (sV (.bool false)) (by kernel_rfl) (by rw [hb1]) ?_
      replace hb1 := beq_eq_false_iff_ne.1 hb1
      refine CH.go 12 hτ (by kernel_rfl) ?_
      refine CH.endk ⟨[(2, .e (.c (.d (.v (.bool false)))))], [], 352⟩ (by kernel_rfl) (by kernel_rfl) rfl ?_
      refine X.ret ?_
      exact ⟨trivial, _, _, ⟨false, trivial, rfl, rfl⟩, .inl (Ret.mk' [] (by kernel_rfl) (by kernel_rfl) (by kernel_rfl))⟩
  obtain ⟨_, _, ⟨r0, q1, rfl, rfl⟩, hf⟩ := key
  exact ⟨r0, q1, hf⟩

theorem s_l9Qc (b : S59) (hb : Sm59 b) : ∃ r0 : Bool, (True) ∧ Fn Try.prog 121 [.e (.agg [.d (.v (.int .i64 b.f0)), .d (.v (.int .i64 b.f1)), .d (.v (.int .i64 b.f2)), .d (.v (.string b.f3)), .d (.v (.int .i64 b.f4.f0)), .d (.v (.int .i64 b.f4.f1)), .d (.sl (b.f4.f2.map dS)), .d (.v (.int .i64 b.f5.f0)), .d (.sl (b.f5.f1.map dS)), .d (.sl (b.f5.f2.map dI)), .d (.sl (b.f6.map d120)), .d (.v (.bool b.f7)), .d (.sl (b.f8.map d122)), .d (.v (.string b.f9))])] (lookH []) (.e (.c (.d (.v (.bool r0))))) (lookH []) := by
  have key : ∃ x' h', ((fun x' h' => ∃ r0 : Bool, (True) ∧ x' = .e (.c (.d (.v (.bool r0)))) ∧ h' = [])) x' h' ∧ Fn Try.prog 121 [.e (.agg [.d (.v (.int .i64 b.f0)), .d (.v (.int .i64 b.f1)), .d (.v (.int .i64 b.f2)), .d (.v (.string b.f3)), .d (.v (.int .i64 b.f4.f0)), .d (.v (.int .i64 b.f4.f1)), .d (.sl (b.f4.f2.map dS)), .d (.v (.int .i64 b.f5.f0)), .d (.sl (b.f5.f1.map dS)), .d (.sl (b.f5.f2.map dI)), .d (.sl (b.f6.map d120)), .d (.v (.bool b.f7)), .d (.sl (b.f8.map d122)), .d (.v (.string b.f9))])] (lookH []) x' (lookH h') := by
    refine Fn.bodyX (N := 27) hτ Try.func121 rfl rfl rfl rfl ?_
    refine X.seq ?_
    refine X.rk ⟨[(1, .pt 64 0 0)], [(64, some (.box [.d (.v (.int .i64 b.f0)), .d (.v (.int .i64 b.f1)), .d (.v (.int .i64 b.f2)), .d (.v (.string b.f3)), .d (.v (.int .i64 b.f4.f0)), .d (.v (.int .i64 b.f4.f1)), .d (.sl (b.f4.f2.map dS)), .d (.v (.int .i64 b.f5.f0)), .d (.sl (b.f5.f1.map dS)), .d (.sl (b.f5.f2.map dI)), .d (.sl (b.f6.map d120)), .d (.v (.bool b.f7)), .d (.sl (b.f8.map d122)), .d (.v (.string b.f9))]))], 96⟩ hτ hmix (by kernel_rfl) (by kernel_rfl) rfl ?_
    refine X.seq ?_
    refine X.rk ⟨[(1, .pt 64 0 0), (3, .pt 128 0 0)], [(64, some (.box [.d (.v (.int .i64 b.f0)), .d (.v (.int .i64 b.f1)), .d (.v (.int .i64 b.f2)), .d (.v (.string b.f3)), .d (.v (.int .i64 b.f4.f0)), .d (.v (.int .i64 b.f4.f1)), .d (.sl (b.f4.f2.map dS)), .d (.v (.int .i64 b.f5.f0)), .d (.sl (b.f5.f1.map dS)), .d (.sl (b.f5.f2.map dI)), .d (.sl (b.f6.map d120)), .d (.v (.bool b.f7)), .d (.sl (b.f8.map d122)), .d (.v (.string b.f9))])), (128, some (.box [.d (.v (.int .i64 b.f4.f0)), .d (.v (.int .i64 b.f4.f1)), .d (.sl (b.f4.f2.map dS))]))], 160⟩ hτ hmix (by kernel_rfl) (by kernel_rfl) rfl ?_
    refine X.seq ?_
    refine X.seq ?_
    refine X.rs 1 hτ hmix (by kernel_rfl) ?_
    obtain ⟨r1, hr3, hf2⟩ := s_l8Root b.f4
    refine CH.call hf2 Try.func59 ⟨rfl, rfl⟩ [] (by kernel_rfl) (by kernel_rfl) (by kernel_rfl) (by kernel_rfl) ?_
    refine CH.endk ⟨[(1, .pt 64 0 0), (3, .pt 128 0 0), (7, .e (.c (.d (.v (.bool r1)))))], [(64, some (.box [.d (.v (.int .i64 b.f0)), .d (.v (.int .i64 b.f1)), .d (.v (.int .i64 b.f2)), .d (.v (.string b.f3)), .d (.v (.int .i64 b.f4.f0)), .d (.v (.int .i64 b.f4.f1)), .d (.sl (b.f4.f2.map dS)), .d (.v (.int .i64 b.f5.f0)), .d (.sl (b.f5.f1.map dS)), .d (.sl (b.f5.f2.map dI)), .d (.sl (b.f6.map d120)), .d (.v (.bool b.f7)), .d (.sl (b.f8.map d122)), .d (.v (.string b.f9))])), (128, some (.box [.d (.v (.int .i64 b.f4.f0)), .d (.v (.int .i64 b.f4.f1)), .d (.sl (b.f4.f2.map dS))]))], 192⟩ (by kernel_rfl) (by kernel_rfl) rfl ?_
    refine X.if_ (b := r1) (by kernel_rfl) (fun hb4 => ?_) (fun hb4 => ?_)
    · refine X.seq ?_
      refine X.rk ⟨[(2, .e (.c (.d (.v (.bool true)))))], [], 208⟩ hτ hmix (by kernel_rfl) (by kernel_rfl) rfl ?_
      refine X.ret ?_
      exact ⟨trivial, _, _, ⟨true, trivial, rfl, rfl⟩, .inl (Ret.mk' [] (by kernel_rfl) (by kernel_rfl) (by kernel_rfl))⟩
    · refine X.skip ?_
      refine X.seq ?_
      refine X.rs 5 hτ hmix (by kernel_rfl) ?_
      obtain ⟨r5, hr7, hf6⟩ := s_l1In b.f4.f0 1 (wr .i64 (b.f2 - 1))
      refine CH.call hf6 Try.func119 ⟨rfl, rfl⟩ [] (by kernel_rfl) (by kernel_rfl) (by kernel_rfl) (by kernel_rfl) ?_
      refine CH.go 1 hτ (by kernel_rfl) ?_
      rcases Bool.eq_false_or_eq_true (r5) with hb8 | hb8
      · refine CH.alt 13 (sV (.bool (r5))) (sV (.bool true)) (by kernel_rfl) (by rw [hb8]) ?_
        refine CH.alt 14 (sV (.bool (r5))) (sV (.bool true)) (by kernel_rfl) (by rw [hb8]) ?_
        refine CH.go 5 hτ (by kernel_rfl) ?_
        obtain ⟨r9, hr11, hf10⟩ := s_l1In b.f4.f1 0 (wr .i64 (b.f0 - 1))
        refine CH.call hf10 Try.func119 ⟨rfl, rfl⟩ [] (by kernel_rfl) (by kernel_rfl) (by kernel_rfl) (by kernel_rfl) ?_
        refine CH.go 2 hτ (by kernel_rfl) ?_
        rcases Bool.eq_false_or_eq_true (r9) with hb12 | hb12
        · refine CH.alt 20 (sV (.bool (r9))) (sV (.bool true)) (by kernel_rfl) (by rw [hb12]) ?_
          refine CH.alt 21 (sV (.bool (r9))) (sV (.bool true)) (by kernel_rfl) (by rw [hb12]) ?_
          refine CH.alt 22 (sV (.bool (r9))) (sV (.bool true)) (by kernel_rfl) (by rw [hb12]) ?_
          refine CH.go 2 hτ (by kernel_rfl) ?_
          obtain ⟨r13, hr15, hf14⟩ := s_NamesOk b.f4.f2 (by exact hb.2.1)
          refine CH.call hf14 Try.func162 ⟨rfl, rfl⟩ [] (by kernel_rfl) (by kernel_rfl) (by kernel_rfl) (by kernel_rfl) ?_
          refine CH.go 2 hτ (by kernel_rfl) ?_
          refine CH.endk ⟨[(2, .e (.c (.d (.v (.bool r13)))))], [], 512⟩ (by kernel_rfl) (by kernel_rfl) rfl ?_
          refine X.ret ?_
          exact ⟨trivial, _, _, ⟨r13, trivial, rfl, rfl⟩, .inl (Ret.mk' [] (by kernel_rfl) (by kernel_rfl) (by kernel_rfl))⟩
        · refine CH.alt 20 (sV (.bool (r9))) (sV (.bool false)) (by kernel_rfl) (by rw [hb12]) ?_
          refine CH.alt 21 (sV (.bool (r9))) (sV (.bool false)) (by kernel_rfl) (by rw [hb12]) ?_
          refine CH.alt 22 (sV (.bool (r9))) (sV (.bool false)) (by kernel_rfl) (by rw [hb12]) ?_
          refine CH.go 5 hτ (by kernel_rfl) ?_
          refine CH.endk ⟨[(2, .e (.c (.d (.v (.bool false)))))], [], 512⟩ (by kernel_rfl) (by kernel_rfl) rfl ?_
          refine X.ret ?_
          exact ⟨trivial, _, _, ⟨false, trivial, rfl, rfl⟩, .inl (Ret.mk' [] (by kernel_rfl) (by kernel_rfl) (by kernel_rfl))⟩
      · refine CH.alt 13 (sV (.bool (r5))) (sV (.bool false)) (by kernel_rfl) (by rw [hb8]) ?_
        refine CH.alt 14 (sV (.bool (r5))) (sV (.bool false)) (by kernel_rfl) (by rw [hb8]) ?_
        refine CH.go 13 hτ (by kernel_rfl) ?_
        refine CH.endk ⟨[(2, .e (.c (.d (.v (.bool false)))))], [], 512⟩ (by kernel_rfl) (by kernel_rfl) rfl ?_
        refine X.ret ?_
        exact ⟨trivial, _, _, ⟨false, trivial, rfl, rfl⟩, .inl (Ret.mk' [] (by kernel_rfl) (by kernel_rfl) (by kernel_rfl))⟩
  obtain ⟨_, _, ⟨r0, q1, rfl, rfl⟩, hf⟩ := key
  exact ⟨r0, q1, hf⟩

theorem s_l9Tc (b : S59) (hb : Sm59 b) : ∃ r0 : Bool, (True) ∧ Fn Try.prog 122 [.e (.agg [.d (.v (.int .i64 b.f0)), .d (.v (.int .i64 b.f1)), .d (.v (.int .i64 b.f2)), .d (.v (.string b.f3)), .d (.v (.int .i64 b.f4.f0)), .d (.v (.int .i64 b.f4.f1)), .d (.sl (b.f4.f2.map dS)), .d (.v (.int .i64 b.f5.f0)), .d (.sl (b.f5.f1.map dS)), .d (.sl (b.f5.f2.map dI)), .d (.sl (b.f6.map d120)), .d (.v (.bool b.f7)), .d (.sl (b.f8.map d122)), .d (.v (.string b.f9))])] (lookH []) (.e (.c (.d (.v (.bool r0))))) (lookH []) := by
  have key : ∃ x' h', ((fun x' h' => ∃ r0 : Bool, (True) ∧ x' = .e (.c (.d (.v (.bool r0)))) ∧ h' = [])) x' h' ∧ Fn Try.prog 122 [.e (.agg [.d (.v (.int .i64 b.f0)), .d (.v (.int .i64 b.f1)), .d (.v (.int .i64 b.f2)), .d (.v (.string b.f3)), .d (.v (.int .i64 b.f4.f0)), .d (.v (.int .i64 b.f4.f1)), .d (.sl (b.f4.f2.map dS)), .d (.v (.int .i64 b.f5.f0)), .d (.sl (b.f5.f1.map dS)), .d (.sl (b.f5.f2.map dI)), .d (.sl (b.f6.map d120)), .d (.v (.bool b.f7)), .d (.sl (b.f8.map d122)), .d (.v (.string b.f9))])] (lookH []) x' (lookH h') := by
    refine Fn.bodyX (N := 48) hτ Try.func122 rfl rfl rfl rfl ?_
    refine X.seq ?_
    refine X.rk ⟨[(1, .pt 64 0 0)], [(64, some (.box [.d (.v (.int .i64 b.f0)), .d (.v (.int .i64 b.f1)), .d (.v (.int .i64 b.f2)), .d (.v (.string b.f3)), .d (.v (.int .i64 b.f4.f0)), .d (.v (.int .i64 b.f4.f1)), .d (.sl (b.f4.f2.map dS)), .d (.v (.int .i64 b.f5.f0)), .d (.sl (b.f5.f1.map dS)), .d (.sl (b.f5.f2.map dI)), .d (.sl (b.f6.map d120)), .d (.v (.bool b.f7)), .d (.sl (b.f8.map d122)), .d (.v (.string b.f9))]))], 96⟩ hτ hmix (by kernel_rfl) (by kernel_rfl) rfl ?_
    refine X.seq ?_
    refine X.rk ⟨[(1, .pt 64 0 0), (3, .pt 128 0 0)], [(64, some (.box [.d (.v (.int .i64 b.f0)), .d (.v (.int .i64 b.f1)), .d (.v (.int .i64 b.f2)), .d (.v (.string b.f3)), .d (.v (.int .i64 b.f4.f0)), .d (.v (.int .i64 b.f4.f1)), .d (.sl (b.f4.f2.map dS)), .d (.v (.int .i64 b.f5.f0)), .d (.sl (b.f5.f1.map dS)), .d (.sl (b.f5.f2.map dI)), .d (.sl (b.f6.map d120)), .d (.v (.bool b.f7)), .d (.sl (b.f8.map d122)), .d (.v (.string b.f9))])), (128, some (.box [.d (.v (.int .i64 b.f5.f0)), .d (.sl (b.f5.f1.map dS)), .d (.sl (b.f5.f2.map dI))]))], 160⟩ hτ hmix (by kernel_rfl) (by kernel_rfl) rfl ?_
    refine X.seq ?_
    refine X.seq ?_
    refine X.rs 1 hτ hmix (by kernel_rfl) ?_
    obtain ⟨r1, hr3, hf2⟩ := s_l8None b.f5
    refine CH.call hf2 Try.func163 ⟨rfl, rfl⟩ [] (by kernel_rfl) (by kernel_rfl) (by kernel_rfl) (by kernel_rfl) ?_
    refine CH.endk ⟨[(1, .pt 64 0 0), (3, .pt 128 0 0), (8, .e (.c (.d (.v (.bool r1)))))], [(64, some (.box [.d (.v (.int .i64 b.f0)), .d (.v (.int .i64 b.f1)), .d (.v (.int .i64 b.f2)), .d (.v (.string b.f3)), .d (.v (.int .i64 b.f4.f0)), .d (.v (.int .i64 b.f4.f1)), .d (.sl (b.f4.f2.map dS)), .d (.v (.int .i64 b.f5.f0)), .d (.sl (b.f5.f1.map dS)), .d (.sl (b.f5.f2.map dI)), .d (.sl (b.f6.map d120)), .d (.v (.bool b.f7)), .d (.sl (b.f8.map d122)), .d (.v (.string b.f9))])), (128, some (.box [.d (.v (.int .i64 b.f5.f0)), .d (.sl (b.f5.f1.map dS)), .d (.sl (b.f5.f2.map dI))]))], 192⟩ (by kernel_rfl) (by kernel_rfl) rfl ?_
    refine X.if_ (b := r1) (by kernel_rfl) (fun hb4 => ?_) (fun hb4 => ?_)
    · refine X.seq ?_
      refine X.rk ⟨[(2, .e (.c (.d (.v (.bool true)))))], [], 208⟩ hτ hmix (by kernel_rfl) (by kernel_rfl) rfl ?_
      refine X.ret ?_
      exact ⟨trivial, _, _, ⟨true, trivial, rfl, rfl⟩, .inl (Ret.mk' [] (by kernel_rfl) (by kernel_rfl) (by kernel_rfl))⟩
    · refine X.skip ?_
      refine X.seq ?_
      refine X.seq ?_
      have hm := hb.2.2.1.2
      refine X.rs 5 hτ hmix (by kernel_rfl) ?_
      obtain ⟨r5, hr7, hf6⟩ := s_l1In b.f5.f0 1 (wr .i64 (b.f2 - 1))
      refine CH.call hf6 Try.func119 ⟨rfl, rfl⟩ [] (by kernel_rfl) (by kernel_rfl) (by kernel_rfl) (by kernel_rfl) ?_
      refine CH.go 2 hτ (by kernel_rfl) ?_
      rcases Bool.eq_false_or_eq_true (!r5) with hb8 | hb8
      · refine CH.alt 15 (sV (.bool (!r5))) (sV (.bool true)) (by kernel_rfl) (by rw [hb8]) ?_
        refine CH.alt 16 (sV (.bool (!r5))) (sV (.bool true)) (by kernel_rfl) (by rw [hb8]) ?_
        refine CH.go 14 hτ (by kernel_rfl) ?_
        refine CH.endk ⟨[(3, .pt 128 0 0), (30, .e (.c (.d (.v (.bool true)))))], [(128, some (.box [.d (.v (.int .i64 b.f5.f0)), .d (.sl (b.f5.f1.map dS)), .d (.sl (b.f5.f2.map dI))]))], 544⟩ (by kernel_rfl) (by kernel_rfl) rfl ?_
        refine X.ifT (by kernel_rfl) ?_
        refine X.seq ?_
        refine X.rk ⟨[(2, .e (.c (.d (.v (.bool false)))))], [], 560⟩ hτ hmix (by kernel_rfl) (by kernel_rfl) rfl ?_
        refine X.ret ?_
        exact ⟨trivial, _, _, ⟨false, trivial, rfl, rfl⟩, .inl (Ret.mk' [] (by kernel_rfl) (by kernel_rfl) (by kernel_rfl))⟩
      · refine CH.alt 15 (sV (.bool (!r5))) (sV (.bool false)) (by kernel_rfl) (by rw [hb8]) ?_
        refine CH.alt 16 (sV (.bool (!r5))) (sV (.bool false)) (by kernel_rfl) (by rw [hb8]) ?_
        refine CH.go 2 hτ (by kernel_rfl) ?_
        obtain ⟨r9, hr11, hf10⟩ := s_NamesOk b.f5.f1 (by exact hb.2.2.1.1)
        refine CH.call hf10 Try.func162 ⟨rfl, rfl⟩ [] (by kernel_rfl) (by kernel_rfl) (by kernel_rfl) (by kernel_rfl) ?_
        refine CH.go 3 hτ (by kernel_rfl) ?_
        rcases Bool.eq_false_or_eq_true (!r9) with hb12 | hb12
        · refine CH.alt 20 (sV (.bool (!r9))) (sV (.bool true)) (by kernel_rfl) (by rw [hb12]) ?_
          refine CH.alt 21 (sV (.bool (!r9))) (sV (.bool true)) (by kernel_rfl) (by rw [hb12]) ?_
          refine CH.alt 22 (sV (.bool (!r9))) (sV (.bool true)) (by kernel_rfl) (by rw [hb12]) ?_
          refine CH.go 8 hτ (by kernel_rfl) ?_
          refine CH.endk ⟨[(3, .pt 128 0 0), (30, .e (.c (.d (.v (.bool true)))))], [(128, some (.box [.d (.v (.int .i64 b.f5.f0)), .d (.sl (b.f5.f1.map dS)), .d (.sl (b.f5.f2.map dI))]))], 544⟩ (by kernel_rfl) (by kernel_rfl) rfl ?_
          refine X.ifT (by kernel_rfl) ?_
          refine X.seq ?_
          refine X.rk ⟨[(2, .e (.c (.d (.v (.bool false)))))], [], 560⟩ hτ hmix (by kernel_rfl) (by kernel_rfl) rfl ?_
          refine X.ret ?_
          exact ⟨trivial, _, _, ⟨false, trivial, rfl, rfl⟩, .inl (Ret.mk' [] (by kernel_rfl) (by kernel_rfl) (by kernel_rfl))⟩
        · refine CH.alt 20 (sV (.bool (!r9))) (sV (.bool false)) (by kernel_rfl) (by rw [hb12]) ?_
          refine CH.alt 21 (sV (.bool (!r9))) (sV (.bool false)) (by kernel_rfl) (by rw [hb12]) ?_
          refine CH.alt 22 (sV (.bool (!r9))) (sV (.bool false)) (by kernel_rfl) (by rw [hb12]) ?_
          refine CH.go 8 hτ (by kernel_rfl) ?_
          have el13 : (b.f5.f2.map dI).length = b.f5.f2.length := List.length_map ..
          have el14 : (b.f5.f1.map dS).length = b.f5.f1.length := List.length_map ..
          refine CH.endk ⟨[(3, .pt 128 0 0), (30, .e (.c (.d (.v (.bool (((b.f5.f2.map dI).length : Int) != ((b.f5.f1.map dS).length : Int)))))))], [(128, some (.box [.d (.v (.int .i64 b.f5.f0)), .d (.sl (b.f5.f1.map dS)), .d (.sl (b.f5.f2.map dI))]))], 544⟩ (by kernel_rfl) (by kernel_rfl) rfl ?_
          refine X.if_ (b := (((b.f5.f2.map dI).length : Int) != ((b.f5.f1.map dS).length : Int))) (by kernel_rfl) (fun hb15 => ?_) (fun hb15 => ?_)
          · replace hb15 := bne_iff_ne.1 hb15
            refine X.seq ?_
            refine X.rk ⟨[(2, .e (.c (.d (.v (.bool false)))))], [], 560⟩ hτ hmix (by kernel_rfl) (by kernel_rfl) rfl ?_
            refine X.ret ?_
            exact ⟨trivial, _, _, ⟨false, trivial, rfl, rfl⟩, .inl (Ret.mk' [] (by kernel_rfl) (by kernel_rfl) (by kernel_rfl))⟩
          · replace hb15 := bne_eq_false_iff_eq.1 hb15
            refine X.skip ?_
            refine X.seq ?_
            refine X.seq ?_
            refine X.rk ⟨[(3, .pt 128 0 0), (4, .e (.c (.d (.v (.int .i64 0)))))], [(128, some (.box [.d (.v (.int .i64 b.f5.f0)), .d (.sl (b.f5.f1.map dS)), .d (.sl (b.f5.f2.map dI))]))], 560⟩ hτ hmix (by kernel_rfl) (by kernel_rfl) rfl ?_
            refine X.block ?_
            -- 7: v4 : Int
            refine X.loop (σ := { g : Int // (fun (v4 : Int) => 0 ≤ v4 ∧ v4 ≤ b.f5.f2.length) g }) (fun g => (fun (v4 : Int) => ⟨[(3, .pt 128 0 0), (4, .e (.c (.d (.v (.int .i64 v4)))))], [(128, some (.box [.d (.v (.int .i64 b.f5.f0)), .d (.sl (b.f5.f1.map dS)), .d (.sl (b.f5.f2.map dI))]))], 560⟩) g.1) (fun g => (fun (v4 : Int) => (b.f5.f2.length - v4).toNat) g.1) ⟨0, by first | exact rfl | omega | (dsimp only; omega) | (simp only [List.length_append, List.length_cons, List.length_nil, List.length_set]; omega) | (simp; done) | (simp; omega)⟩ (Wk.less (by kernel_rfl)) (fun g => ?_)
            obtain ⟨v4, hg17⟩ := g
            have hg17 : 0 ≤ v4 ∧ v4 ≤ b.f5.f2.length := hg17
            refine X.seq ?_
            refine X.seq ?_
            refine X.rk ⟨[(3, .pt 128 0 0), (4, .e (.c (.d (.v (.int .i64 v4))))), (35, .e (.c (.d (.v (.bool (decide ((v4 : Int) < ((b.f5.f2.map dI).length : Int))))))))], [(128, some (.box [.d (.v (.int .i64 b.f5.f0)), .d (.sl (b.f5.f1.map dS)), .d (.sl (b.f5.f2.map dI))]))], 640⟩ hτ hmix (by kernel_rfl) (by kernel_rfl) rfl ?_
            refine X.if_ (b := decide ((v4 : Int) < ((b.f5.f2.map dI).length : Int))) (by kernel_rfl) (fun hb18 => ?_) (fun hb18 => ?_)
            · replace hb18 := of_decide_eq_true hb18
              refine X.skip ?_
              refine X.seq ?_
              refine X.block ?_
              refine X.seq ?_
              refine X.rs 3 hτ hmix (by kernel_rfl) ?_
              obtain ⟨x19, hx19⟩ : ∃ x, b.f5.f2[Int.toNat v4]? = some x := ⟨_, List.getElem?_eq_getElem (by first | omega | (simp; done) | (simp; omega))⟩
              refine CH.idx hτ (dI x19) (rows := (b.f5.f2.map dI)) (n := v4) (sz := 1) (by kernel_rfl) (by kernel_rfl) (by first | omega | (simp; done) | (simp; omega)) (by rw [List.getElem?_map, hx19]; rfl) (by kernel_rfl) ?_
              refine CH.go 4 hτ (by kernel_rfl) ?_
              obtain ⟨r20, hr22, hf21⟩ := s_l1In x19 0 (wr .i64 (b.f5.f0 - 1))
              refine CH.call hf21 Try.func119 ⟨rfl, rfl⟩ [] (by kernel_rfl) (by kernel_rfl) (by kernel_rfl) (by kernel_rfl) ?_
              refine CH.go 1 hτ (by kernel_rfl) ?_
              refine CH.endk ⟨[(3, .pt 128 0 0), (4, .e (.c (.d (.v (.int .i64 v4))))), (47, .e (.c (.d (.v (.bool (!r20))))))], [(128, some (.box [.d (.v (.int .i64 b.f5.f0)), .d (.sl (b.f5.f1.map dS)), .d (.sl (b.f5.f2.map dI))]))], 800⟩ (by kernel_rfl) (by kernel_rfl) rfl ?_
              refine X.if_ (b := !r20) (by kernel_rfl) (fun hb23 => ?_) (fun hb23 => ?_)
              · refine X.seq ?_
                refine X.rk ⟨[(2, .e (.c (.d (.v (.bool false)))))], [], 816⟩ hτ hmix (by kernel_rfl) (by kernel_rfl) rfl ?_
                refine X.ret ?_
                exact ⟨trivial, _, _, ⟨false, trivial, rfl, rfl⟩, .inl (Ret.mk' [] (by kernel_rfl) (by kernel_rfl) (by kernel_rfl))⟩
              · refine X.skip ?_
                refine X.rk ⟨[(3, .pt 128 0 0), (4, .e (.c (.d (.v (.int .i64 (wrap64 (v4 + 1)))))))], [(128, some (.box [.d (.v (.int .i64 b.f5.f0)), .d (.sl (b.f5.f1.map dS)), .d (.sl (b.f5.f2.map dI))]))], 848⟩ hτ hmix (by kernel_rfl) (by kernel_rfl) (s2 := ⟨[(3, .pt 128 0 0), (4, .e (.c (.d (.v (.int .i64 (v4 + 1))))))], [(128, some (.box [.d (.v (.int .i64 b.f5.f0)), .d (.sl (b.f5.f1.map dS)), .d (.sl (b.f5.f2.map dI))]))], 848⟩) (congrArg (fun z : Int => (⟨[(3, .pt 128 0 0), (4, .e (.c (.d (.v (.int .i64 z)))))], [(128, some (.box [.d (.v (.int .i64 b.f5.f0)), .d (.sl (b.f5.f1.map dS)), .d (.sl (b.f5.f2.map dI))]))], 848⟩ : St)) (show wrap64 (v4 + 1) = (v4 + 1) by rw [w64 (n := (v4 + 1)) (by omega) (by omega)])) ?_
                refine ⟨⟨(v4 + 1), by first | exact rfl | omega | (dsimp only; omega) | (simp only [List.length_append, List.length_cons, List.length_nil, List.length_set]; omega) | (simp; done) | (simp; omega)⟩, by first | exact rfl | omega | (dsimp only; omega) | (simp only [List.length_append, List.length_cons, List.length_nil, List.length_set]; omega) | (simp; done) | (simp; omega), Wk.mk' [(128, 128)] (by kernel_rfl) (by kernel_rfl) (by kernel_rfl)⟩
            · replace hb18 := of_decide_eq_false hb18
              refine X.exit ?_
              refine X.seq ?_
              refine X.rk ⟨[(2, .e (.c (.d (.v (.bool true)))))], [], 656⟩ hτ hmix (by kernel_rfl) (by kernel_rfl) rfl ?_
              refine X.ret ?_
              exact ⟨trivial, _, _, ⟨true, trivial, rfl, rfl⟩, .inl (Ret.mk' [] (by kernel_rfl) (by kernel_rfl) (by kernel_rfl))⟩
  obtain ⟨_, _, ⟨r0, q1, rfl, rfl⟩, hf⟩ := key
  exact ⟨r0, q1, hf⟩

theorem s_TxOk (t : S120) (ht : Sm120 t) : ∃ r0 : Bool, (True) ∧ Fn Try.prog 123 [.e (.agg [.d (.v (.int .i64 t.f0)), .d (.v (.string t.f1)), .d (.v (.string t.f2)), .d (.v (.int .i64 t.f3)), .d (.v (.int .i64 t.f4))])] (lookH []) (.e (.c (.d (.v (.bool r0))))) (lookH []) := by
  have key : ∃ x' h', ((fun x' h' => ∃ r0 : Bool, (True) ∧ x' = .e (.c (.d (.v (.bool r0)))) ∧ h' = [])) x' h' ∧ Fn Try.prog 123 [.e (.agg [.d (.v (.int .i64 t.f0)), .d (.v (.string t.f1)), .d (.v (.string t.f2)), .d (.v (.int .i64 t.f3)), .d (.v (.int .i64 t.f4))])] (lookH []) x' (lookH h') := by
    refine Fn.bodyX (N := 33) hτ Try.func123 rfl rfl rfl rfl ?_
    refine X.seq ?_
    refine X.rk ⟨[(1, .pt 64 0 0)], [(64, some (.box [.d (.v (.int .i64 t.f0)), .d (.v (.string t.f1)), .d (.v (.string t.f2)), .d (.v (.int .i64 t.f3)), .d (.v (.int .i64 t.f4))]))], 96⟩ hτ hmix (by kernel_rfl) (by kernel_rfl) rfl ?_
    refine X.seq ?_
    refine X.seq ?_
    refine X.rs 2 hτ hmix (by kernel_rfl) ?_
    obtain ⟨r1, hr3, hf2⟩ := s_NameOk t.f1 (by exact ht.1)
    refine CH.call hf2 Try.func120 ⟨rfl, rfl⟩ [] (by kernel_rfl) (by kernel_rfl) (by kernel_rfl) (by kernel_rfl) ?_
    refine CH.go 2 hτ (by kernel_rfl) ?_
    rcases Bool.eq_false_or_eq_true (!r1) with hb4 | hb4
    · refine CH.alt 6 (sV (.bool (!r1))) (sV (.bool true)) (by kernel_rfl) (by rw [hb4]) ?_
      refine CH.alt 7 (sV (.bool (!r1))) (sV (.bool true)) (by kernel_rfl) (by rw [hb4]) ?_
      refine CH.go 11 hτ (by kernel_rfl) ?_
      refine CH.endk ⟨[(1, .pt 64 0 0), (18, .e (.c (.d (.v (.bool true)))))], [(64, some (.box [.d (.v (.int .i64 t.f0)), .d (.v (.string t.f1)), .d (.v (.string t.f2)), .d (.v (.int .i64 t.f3)), .d (.v (.int .i64 t.f4))]))], 352⟩ (by kernel_rfl) (by kernel_rfl) rfl ?_
      refine X.ifT (by kernel_rfl) ?_
      refine X.seq ?_
      refine X.rk ⟨[(2, .e (.c (.d (.v (.bool false)))))], [], 368⟩ hτ hmix (by kernel_rfl) (by kernel_rfl) rfl ?_
      refine X.ret ?_
      exact ⟨trivial, _, _, ⟨false, trivial, rfl, rfl⟩, .inl (Ret.mk' [] (by kernel_rfl) (by kernel_rfl) (by kernel_rfl))⟩
    · refine CH.alt 6 (sV (.bool (!r1))) (sV (.bool false)) (by kernel_rfl) (by rw [hb4]) ?_
      refine CH.alt 7 (sV (.bool (!r1))) (sV (.bool false)) (by kernel_rfl) (by rw [hb4]) ?_
      refine CH.go 2 hτ (by kernel_rfl) ?_
      obtain ⟨r5, hr7, hf6⟩ := s_l1In t.f3 1 1000000
      refine CH.call hf6 Try.func119 ⟨rfl, rfl⟩ [] (by kernel_rfl) (by kernel_rfl) (by kernel_rfl) (by kernel_rfl) ?_
      refine CH.go 3 hτ (by kernel_rfl) ?_
      rcases Bool.eq_false_or_eq_true (!r5) with hb8 | hb8
      · refine CH.alt 11 (sV (.bool (!r5))) (sV (.bool true)) (by kernel_rfl) (by rw [hb8]) ?_
        refine CH.alt 12 (sV (.bool (!r5))) (sV (.bool true)) (by kernel_rfl) (by rw [hb8]) ?_
        refine CH.alt 13 (sV (.bool (!r5))) (sV (.bool true)) (by kernel_rfl) (by rw [hb8]) ?_
        refine CH.go 5 hτ (by kernel_rfl) ?_
        refine CH.endk ⟨[(1, .pt 64 0 0), (18, .e (.c (.d (.v (.bool true)))))], [(64, some (.box [.d (.v (.int .i64 t.f0)), .d (.v (.string t.f1)), .d (.v (.string t.f2)), .d (.v (.int .i64 t.f3)), .d (.v (.int .i64 t.f4))]))], 352⟩ (by kernel_rfl) (by kernel_rfl) rfl ?_
        refine X.ifT (by kernel_rfl) ?_
        refine X.seq ?_
        refine X.rk ⟨[(2, .e (.c (.d (.v (.bool false)))))], [], 368⟩ hτ hmix (by kernel_rfl) (by kernel_rfl) rfl ?_
        refine X.ret ?_
        exact ⟨trivial, _, _, ⟨false, trivial, rfl, rfl⟩, .inl (Ret.mk' [] (by kernel_rfl) (by kernel_rfl) (by kernel_rfl))⟩
      · refine CH.alt 11 (sV (.bool (!r5))) (sV (.bool false)) (by kernel_rfl) (by rw [hb8]) ?_
        refine CH.alt 12 (sV (.bool (!r5))) (sV (.bool false)) (by kernel_rfl) (by rw [hb8]) ?_
        refine CH.alt 13 (sV (.bool (!r5))) (sV (.bool false)) (by kernel_rfl) (by rw [hb8]) ?_
        refine CH.go 2 hτ (by kernel_rfl) ?_
        obtain ⟨r9, hr11, hf10⟩ := s_l1In t.f4 0 10000
        refine CH.call hf10 Try.func119 ⟨rfl, rfl⟩ [] (by kernel_rfl) (by kernel_rfl) (by kernel_rfl) (by kernel_rfl) ?_
        refine CH.go 2 hτ (by kernel_rfl) ?_
        refine CH.endk ⟨[(1, .pt 64 0 0), (18, .e (.c (.d (.v (.bool (!r9))))))], [(64, some (.box [.d (.v (.int .i64 t.f0)), .d (.v (.string t.f1)), .d (.v (.string t.f2)), .d (.v (.int .i64 t.f3)), .d (.v (.int .i64 t.f4))]))], 352⟩ (by kernel_rfl) (by kernel_rfl) rfl ?_
        refine X.if_ (b := !r9) (by kernel_rfl) (fun hb12 => ?_) (fun hb12 => ?_)
        · refine X.seq ?_
          refine X.rk ⟨[(2, .e (.c (.d (.v (.bool false)))))], [], 368⟩ hτ hmix (by kernel_rfl) (by kernel_rfl) rfl ?_
          refine X.ret ?_
          exact ⟨trivial, _, _, ⟨false, trivial, rfl, rfl⟩, .inl (Ret.mk' [] (by kernel_rfl) (by kernel_rfl) (by kernel_rfl))⟩
        · refine X.skip ?_
          refine X.seq ?_
          refine X.seq ?_
          refine X.rk ⟨[(1, .pt 64 0 0), (21, .e (.c (.d (.v (.bool (t.f0 == 1))))))], [(64, some (.box [.d (.v (.int .i64 t.f0)), .d (.v (.string t.f1)), .d (.v (.string t.f2)), .d (.v (.int .i64 t.f3)), .d (.v (.int .i64 t.f4))]))], 400⟩ hτ hmix (by kernel_rfl) (by kernel_rfl) rfl ?_
          refine X.if_ (b := (t.f0 == 1)) (by kernel_rfl) (fun hb13 => ?_) (fun hb13 => ?_)
          · replace hb13 := eq_of_beq hb13
            refine X.seq ?_
            refine X.rs 2 hτ hmix (by kernel_rfl) ?_
            obtain ⟨r14, hr16, hf15⟩ := s_NameOk t.f2 (by exact ht.2)
            refine CH.call hf15 Try.func120 ⟨rfl, rfl⟩ [] (by kernel_rfl) (by kernel_rfl) (by kernel_rfl) (by kernel_rfl) ?_
            refine CH.go 1 hτ (by kernel_rfl) ?_
            refine CH.endk ⟨[(2, .e (.c (.d (.v (.bool r14)))))], [], 464⟩ (by kernel_rfl) (by kernel_rfl) rfl ?_
            refine X.ret ?_
            exact ⟨trivial, _, _, ⟨r14, trivial, rfl, rfl⟩, .inl (Ret.mk' [] (by kernel_rfl) (by kernel_rfl) (by kernel_rfl))⟩
          · replace hb13 := beq_eq_false_iff_ne.1 hb13
            refine X.skip ?_
            refine X.seq ?_
            refine X.rs 2 hτ hmix (by kernel_rfl) ?_
            obtain ⟨r17, hr19, hf18⟩ := s_l1In t.f0 2 3
            refine CH.call hf18 Try.func119 ⟨rfl, rfl⟩ [] (by kernel_rfl) (by kernel_rfl) (by kernel_rfl) (by kernel_rfl) ?_
            refine CH.go 1 hτ (by kernel_rfl) ?_
            rcases Bool.eq_false_or_eq_true (r17) with hb20 | hb20
            · refine CH.alt 27 (sV (.bool (r17))) (sV (.bool true)) (by kernel_rfl) (by rw [hb20]) ?_
              refine CH.alt 28 (sV (.bool (r17))) (sV (.bool true)) (by kernel_rfl) (by rw [hb20]) ?_
              refine CH.go 5 hτ (by kernel_rfl) ?_
              refine CH.endk ⟨[(2, .e (.c (.d (.v (.bool (t.f2.toList == (⟨#[]⟩ : ByteArray).toList))))))], [], 544⟩ (by kernel_rfl) (by kernel_rfl) rfl ?_
              refine X.ret ?_
              exact ⟨trivial, _, _, ⟨(t.f2.toList == (⟨#[]⟩ : ByteArray).toList), trivial, rfl, rfl⟩, .inl (Ret.mk' [] (by kernel_rfl) (by kernel_rfl) (by kernel_rfl))⟩
            · refine CH.alt 27 (sV (.bool (r17))) (sV (.bool false)) (by kernel_rfl) (by rw [hb20]) ?_
              refine CH.alt 28 (sV (.bool (r17))) (sV (.bool false)) (by kernel_rfl) (by rw [hb20]) ?_
              refine CH.go 5 hτ (by kernel_rfl) ?_
              refine CH.endk ⟨[(2, .e (.c (.d (.v (.bool false)))))], [], 544⟩ (by kernel_rfl) (by kernel_rfl) rfl ?_
              refine X.ret ?_
              exact ⟨trivial, _, _, ⟨false, trivial, rfl, rfl⟩, .inl (Ret.mk' [] (by kernel_rfl) (by kernel_rfl) (by kernel_rfl))⟩
  obtain ⟨_, _, ⟨r0, q1, rfl, rfl⟩, hf⟩ := key
  exact ⟨r0, q1, hf⟩

theorem s_SetOk (l : List S122) (hl : SmV l) : ∃ r0 : Bool, (True) ∧ Fn Try.prog 124 [.e (.c (.d (.sl (l.map d122))))] (lookH []) (.e (.c (.d (.v (.bool r0))))) (lookH []) := by
  have key : ∃ x' h', ((fun x' h' => ∃ r0 : Bool, (True) ∧ x' = .e (.c (.d (.v (.bool r0)))) ∧ h' = [])) x' h' ∧ Fn Try.prog 124 [.e (.c (.d (.sl (l.map d122))))] (lookH []) x' (lookH h') := by
    refine Fn.bodyX (N := 47) hτ Try.func124 rfl rfl rfl rfl ?_
    refine X.seq ?_
    refine X.rk ⟨[(0, .e (.c (.d (.sl (l.map d122)))))], [], 80⟩ hτ hmix (by kernel_rfl) (by kernel_rfl) rfl ?_
    refine X.seq ?_
    refine X.seq ?_
    refine X.rk ⟨[(0, .e (.c (.d (.sl (l.map d122))))), (3, .e (.c (.d (.v (.int .i64 0)))))], [], 96⟩ hτ hmix (by kernel_rfl) (by kernel_rfl) rfl ?_
    refine X.block ?_
    -- 2: v3 : Int
    refine X.loop (σ := { g : Int // (fun (v3 : Int) => 0 ≤ v3 ∧ v3 ≤ l.length) g }) (fun g => (fun (v3 : Int) => ⟨[(0, .e (.c (.d (.sl (l.map d122))))), (3, .e (.c (.d (.v (.int .i64 v3)))))], [], 96⟩) g.1) (fun g => (fun (v3 : Int) => (l.length - v3).toNat) g.1) ⟨0, by first | exact rfl | omega | (dsimp only; omega) | (simp only [List.length_append, List.length_cons, List.length_nil, List.length_set]; omega) | (simp; done) | (simp; omega)⟩ (Wk.less (by kernel_rfl)) (fun g => ?_)
    obtain ⟨v3, hg2⟩ := g
    have hg2 : 0 ≤ v3 ∧ v3 ≤ l.length := hg2
    refine X.seq ?_
    refine X.seq ?_
    have hm := hl.1
    have el3 : (l.map d122).length = l.length := List.length_map ..
    refine X.rk ⟨[(0, .e (.c (.d (.sl (l.map d122))))), (3, .e (.c (.d (.v (.int .i64 v3))))), (7, .e (.c (.d (.v (.bool (decide ((v3 : Int) < ((l.map d122).length : Int))))))))], [], 160⟩ hτ hmix (by kernel_rfl) (by kernel_rfl) rfl ?_
    refine X.if_ (b := decide ((v3 : Int) < ((l.map d122).length : Int))) (by kernel_rfl) (fun hb4 => ?_) (fun hb4 => ?_)
    · replace hb4 := of_decide_eq_true hb4
      refine X.skip ?_
      refine X.seq ?_
      refine X.block ?_
      refine X.seq ?_
      refine X.rs 2 hτ hmix (by kernel_rfl) ?_
      obtain ⟨x5, hx5⟩ : ∃ x, l[Int.toNat v3]? = some x := ⟨_, List.getElem?_eq_getElem (by first | omega | (simp; done) | (simp; omega))⟩
      refine CH.idx hτ (d122 x5) (rows := (l.map d122)) (n := v3) (sz := 2) (by kernel_rfl) (by kernel_rfl) (by first | omega | (simp; done) | (simp; omega)) (by rw [List.getElem?_map, hx5]; rfl) (by kernel_rfl) ?_
      refine CH.go 2 hτ (by kernel_rfl) ?_
      obtain ⟨r6, hr8, hf7⟩ := s_NameOk x5.f0 (by exact all_at hl.2 ‹_›)
      refine CH.call hf7 Try.func120 ⟨rfl, rfl⟩ [] (by kernel_rfl) (by kernel_rfl) (by kernel_rfl) (by kernel_rfl) ?_
      refine CH.go 2 hτ (by kernel_rfl) ?_
      rcases Bool.eq_false_or_eq_true (!r6) with hb9 | hb9
      · refine CH.alt 16 (sV (.bool (!r6))) (sV (.bool true)) (by kernel_rfl) (by rw [hb9]) ?_
        refine CH.alt 17 (sV (.bool (!r6))) (sV (.bool true)) (by kernel_rfl) (by rw [hb9]) ?_
        refine CH.go 26 hτ (by kernel_rfl) ?_
        refine CH.endk ⟨[(0, .e (.c (.d (.sl (l.map d122))))), (3, .e (.c (.d (.v (.int .i64 v3))))), (43, .e (.c (.d (.v (.bool true)))))], [], 704⟩ (by kernel_rfl) (by kernel_rfl) rfl ?_
        refine X.ifT (by kernel_rfl) ?_
        refine X.seq ?_
        refine X.rk ⟨[(2, .e (.c (.d (.v (.bool false)))))], [], 720⟩ hτ hmix (by kernel_rfl) (by kernel_rfl) rfl ?_
        refine X.ret ?_
        exact ⟨trivial, _, _, ⟨false, trivial, rfl, rfl⟩, .inl (Ret.mk' [] (by kernel_rfl) (by kernel_rfl) (by kernel_rfl))⟩
      · refine CH.alt 16 (sV (.bool (!r6))) (sV (.bool false)) (by kernel_rfl) (by rw [hb9]) ?_
        refine CH.alt 17 (sV (.bool (!r6))) (sV (.bool false)) (by kernel_rfl) (by rw [hb9]) ?_
        refine CH.go 2 hτ (by kernel_rfl) ?_
        refine CH.idx hτ (d122 x5) (rows := (l.map d122)) (n := v3) (sz := 2) (by kernel_rfl) (by kernel_rfl) (by first | omega | (simp; done) | (simp; omega)) (by rw [List.getElem?_map, hx5]; rfl) (by kernel_rfl) ?_
        refine CH.go 2 hτ (by kernel_rfl) ?_
        obtain ⟨r10, hr12, hf11⟩ := s_l1In x5.f1 1 1000000
        refine CH.call hf11 Try.func119 ⟨rfl, rfl⟩ [] (by kernel_rfl) (by kernel_rfl) (by kernel_rfl) (by kernel_rfl) ?_
        refine CH.go 3 hτ (by kernel_rfl) ?_
        rcases Bool.eq_false_or_eq_true (!r10) with hb13 | hb13
        · refine CH.alt 24 (sV (.bool (!r10))) (sV (.bool true)) (by kernel_rfl) (by rw [hb13]) ?_
          refine CH.alt 25 (sV (.bool (!r10))) (sV (.bool true)) (by kernel_rfl) (by rw [hb13]) ?_
          refine CH.alt 26 (sV (.bool (!r10))) (sV (.bool true)) (by kernel_rfl) (by rw [hb13]) ?_
          refine CH.go 17 hτ (by kernel_rfl) ?_
          refine CH.endk ⟨[(0, .e (.c (.d (.sl (l.map d122))))), (3, .e (.c (.d (.v (.int .i64 v3))))), (43, .e (.c (.d (.v (.bool true)))))], [], 704⟩ (by kernel_rfl) (by kernel_rfl) rfl ?_
          refine X.ifT (by kernel_rfl) ?_
          refine X.seq ?_
          refine X.rk ⟨[(2, .e (.c (.d (.v (.bool false)))))], [], 720⟩ hτ hmix (by kernel_rfl) (by kernel_rfl) rfl ?_
          refine X.ret ?_
          exact ⟨trivial, _, _, ⟨false, trivial, rfl, rfl⟩, .inl (Ret.mk' [] (by kernel_rfl) (by kernel_rfl) (by kernel_rfl))⟩
        · refine CH.alt 24 (sV (.bool (!r10))) (sV (.bool false)) (by kernel_rfl) (by rw [hb13]) ?_
          refine CH.alt 25 (sV (.bool (!r10))) (sV (.bool false)) (by kernel_rfl) (by rw [hb13]) ?_
          refine CH.alt 26 (sV (.bool (!r10))) (sV (.bool false)) (by kernel_rfl) (by rw [hb13]) ?_
          refine CH.go 3 hτ (by kernel_rfl) ?_
          rcases Bool.eq_false_or_eq_true (decide ((v3 : Int) > 0)) with hb14 | hb14
          · refine CH.alt 28 (sV (.bool (decide ((v3 : Int) > 0)))) (sV (.bool true)) (by kernel_rfl) (by rw [hb14]) ?_
            refine CH.alt 29 (sV (.bool (decide ((v3 : Int) > 0)))) (sV (.bool true)) (by kernel_rfl) (by rw [hb14]) ?_
            replace hb14 := of_decide_eq_true hb14
            refine CH.go 3 hτ (by kernel_rfl) ?_
            obtain ⟨x15, hx15⟩ : ∃ x, l[Int.toNat (v3 - 1)]? = some x := ⟨_, List.getElem?_eq_getElem (by first | omega | (simp; done) | (simp; omega))⟩
            refine CH.alt 32 (sV (.int .i64 (wrap64 (v3 - 1)))) (sV (.int .i64 ((v3 - 1)))) (by kernel_rfl) (by rw [w64 (n := (v3 - 1)) (by omega) (by omega)]) ?_
            refine CH.idx hτ (d122 x15) (rows := (l.map d122)) (n := (v3 - 1)) (sz := 2) (by kernel_rfl) (by kernel_rfl) (by first | omega | (simp; done) | (simp; omega)) (by rw [List.getElem?_map, hx15]; rfl) (by kernel_rfl) ?_
            refine CH.go 4 hτ (by kernel_rfl) ?_
            refine CH.idx hτ (d122 x5) (rows := (l.map d122)) (n := v3) (sz := 2) (by kernel_rfl) (by kernel_rfl) (by first | omega | (simp; done) | (simp; omega)) (by rw [List.getElem?_map, hx5]; rfl) (by kernel_rfl) ?_
            refine CH.go 5 hτ (by kernel_rfl) ?_
            refine CH.endk ⟨[(0, .e (.c (.d (.sl (l.map d122))))), (3, .e (.c (.d (.v (.int .i64 v3))))), (43, .e (.c (.d (.v (.bool (!(Op.bytesLess x15.f0.toList x5.f0.toList)))))))], [], 704⟩ (by kernel_rfl) (by kernel_rfl) rfl ?_
            refine X.if_ (b := !(Op.bytesLess x15.f0.toList x5.f0.toList)) (by kernel_rfl) (fun hb16 => ?_) (fun hb16 => ?_)
            · refine X.seq ?_
              refine X.rk ⟨[(2, .e (.c (.d (.v (.bool false)))))], [], 720⟩ hτ hmix (by kernel_rfl) (by kernel_rfl) rfl ?_
              refine X.ret ?_
              exact ⟨trivial, _, _, ⟨false, trivial, rfl, rfl⟩, .inl (Ret.mk' [] (by kernel_rfl) (by kernel_rfl) (by kernel_rfl))⟩
            · refine X.skip ?_
              refine X.rk ⟨[(0, .e (.c (.d (.sl (l.map d122))))), (3, .e (.c (.d (.v (.int .i64 (wrap64 (v3 + 1)))))))], [], 752⟩ hτ hmix (by kernel_rfl) (by kernel_rfl) (s2 := ⟨[(0, .e (.c (.d (.sl (l.map d122))))), (3, .e (.c (.d (.v (.int .i64 (v3 + 1))))))], [], 752⟩) (congrArg (fun z : Int => (⟨[(0, .e (.c (.d (.sl (l.map d122))))), (3, .e (.c (.d (.v (.int .i64 z)))))], [], 752⟩ : St)) (show wrap64 (v3 + 1) = (v3 + 1) by rw [w64 (n := (v3 + 1)) (by omega) (by omega)])) ?_
              refine ⟨⟨(v3 + 1), by first | exact rfl | omega | (dsimp only; omega) | (simp only [List.length_append, List.length_cons, List.length_nil, List.length_set]; omega) | (simp; done) | (simp; omega)⟩, by first | exact rfl | omega | (dsimp only; omega) | (simp only [List.length_append, List.length_cons, List.length_nil, List.length_set]; omega) | (simp; done) | (simp; omega), Wk.mk' [] (by kernel_rfl) (by kernel_rfl) (by kernel_rfl)⟩
          · refine CH.alt 28 (sV (.bool (decide ((v3 : Int) > 0)))) (sV (.bool false)) (by kernel_rfl) (by rw [hb14]) ?_
            refine CH.alt 29 (sV (.bool (decide ((v3 : Int) > 0)))) (sV (.bool false)) (by kernel_rfl) (by rw [hb14]) ?_
            replace hb14 := of_decide_eq_false hb14
            refine CH.go 14 hτ (by kernel_rfl) ?_
            refine CH.endk ⟨[(0, .e (.c (.d (.sl (l.map d122))))), (3, .e (.c (.d (.v (.int .i64 v3))))), (43, .e (.c (.d (.v (.bool false)))))], [], 704⟩ (by kernel_rfl) (by kernel_rfl) rfl ?_
            refine X.ifF (by kernel_rfl) ?_
            refine X.skip ?_
            refine X.rk ⟨[(0, .e (.c (.d (.sl (l.map d122))))), (3, .e (.c (.d (.v (.int .i64 (wrap64 (v3 + 1)))))))], [], 752⟩ hτ hmix (by kernel_rfl) (by kernel_rfl) (s2 := ⟨[(0, .e (.c (.d (.sl (l.map d122))))), (3, .e (.c (.d (.v (.int .i64 (v3 + 1))))))], [], 752⟩) (congrArg (fun z : Int => (⟨[(0, .e (.c (.d (.sl (l.map d122))))), (3, .e (.c (.d (.v (.int .i64 z)))))], [], 752⟩ : St)) (show wrap64 (v3 + 1) = (v3 + 1) by rw [w64 (n := (v3 + 1)) (by omega) (by omega)])) ?_
            refine ⟨⟨(v3 + 1), by first | exact rfl | omega | (dsimp only; omega) | (simp only [List.length_append, List.length_cons, List.length_nil, List.length_set]; omega) | (simp; done) | (simp; omega)⟩, by first | exact rfl | omega | (dsimp only; omega) | (simp only [List.length_append, List.length_cons, List.length_nil, List.length_set]; omega) | (simp; done) | (simp; omega), Wk.mk' [] (by kernel_rfl) (by kernel_rfl) (by kernel_rfl)⟩
    · replace hb4 := of_decide_eq_false hb4
      refine X.exit ?_
      refine X.seq ?_
      refine X.rs 2 hτ hmix (by kernel_rfl) ?_
      obtain ⟨r17, hr19, hf18⟩ := s_l1In ((l.map d122).length : Int) 1 12
      refine CH.call hf18 Try.func119 ⟨rfl, rfl⟩ [] (by kernel_rfl) (by kernel_rfl) (by kernel_rfl) (by kernel_rfl) ?_
      refine CH.go 1 hτ (by kernel_rfl) ?_
      refine CH.endk ⟨[(2, .e (.c (.d (.v (.bool r17)))))], [], 224⟩ (by kernel_rfl) (by kernel_rfl) rfl ?_
      refine X.ret ?_
      exact ⟨trivial, _, _, ⟨r17, trivial, rfl, rfl⟩, .inl (Ret.mk' [] (by kernel_rfl) (by kernel_rfl) (by kernel_rfl))⟩
  obtain ⟨_, _, ⟨r0, q1, rfl, rfl⟩, hf⟩ := key
  exact ⟨r0, q1, hf⟩

theorem s_BlockOk (b : S59) (hb : Sm59 b) : ∃ r0 : Bool, (True) ∧ Fn Try.prog 58 [.e (.agg [.d (.v (.int .i64 b.f0)), .d (.v (.int .i64 b.f1)), .d (.v (.int .i64 b.f2)), .d (.v (.string b.f3)), .d (.v (.int .i64 b.f4.f0)), .d (.v (.int .i64 b.f4.f1)), .d (.sl (b.f4.f2.map dS)), .d (.v (.int .i64 b.f5.f0)), .d (.sl (b.f5.f1.map dS)), .d (.sl (b.f5.f2.map dI)), .d (.sl (b.f6.map d120)), .d (.v (.bool b.f7)), .d (.sl (b.f8.map d122)), .d (.v (.string b.f9))])] (lookH []) (.e (.c (.d (.v (.bool r0))))) (lookH []) := by
  have key : ∃ x' h', ((fun x' h' => ∃ r0 : Bool, (True) ∧ x' = .e (.c (.d (.v (.bool r0)))) ∧ h' = [])) x' h' ∧ Fn Try.prog 58 [.e (.agg [.d (.v (.int .i64 b.f0)), .d (.v (.int .i64 b.f1)), .d (.v (.int .i64 b.f2)), .d (.v (.string b.f3)), .d (.v (.int .i64 b.f4.f0)), .d (.v (.int .i64 b.f4.f1)), .d (.sl (b.f4.f2.map dS)), .d (.v (.int .i64 b.f5.f0)), .d (.sl (b.f5.f1.map dS)), .d (.sl (b.f5.f2.map dI)), .d (.sl (b.f6.map d120)), .d (.v (.bool b.f7)), .d (.sl (b.f8.map d122)), .d (.v (.string b.f9))])] (lookH []) x' (lookH h') := by
    refine Fn.bodyX (N := 77) hτ Try.func58 rfl rfl rfl rfl ?_
    refine X.seq ?_
    refine X.rk ⟨[(1, .pt 64 0 0)], [(64, some (.box [.d (.v (.int .i64 b.f0)), .d (.v (.int .i64 b.f1)), .d (.v (.int .i64 b.f2)), .d (.v (.string b.f3)), .d (.v (.int .i64 b.f4.f0)), .d (.v (.int .i64 b.f4.f1)), .d (.sl (b.f4.f2.map dS)), .d (.v (.int .i64 b.f5.f0)), .d (.sl (b.f5.f1.map dS)), .d (.sl (b.f5.f2.map dI)), .d (.sl (b.f6.map d120)), .d (.v (.bool b.f7)), .d (.sl (b.f8.map d122)), .d (.v (.string b.f9))]))], 96⟩ hτ hmix (by kernel_rfl) (by kernel_rfl) rfl ?_
    refine X.seq ?_
    refine X.seq ?_
    refine X.rs 2 hτ hmix (by kernel_rfl) ?_
    obtain ⟨r1, hr3, hf2⟩ := s_l1In b.f0 0 100000
    refine CH.call hf2 Try.func119 ⟨rfl, rfl⟩ [] (by kernel_rfl) (by kernel_rfl) (by kernel_rfl) (by kernel_rfl) ?_
    refine CH.go 2 hτ (by kernel_rfl) ?_
    rcases Bool.eq_false_or_eq_true (!r1) with hb4 | hb4
    · refine CH.alt 7 (sV (.bool (!r1))) (sV (.bool true)) (by kernel_rfl) (by rw [hb4]) ?_
      refine CH.alt 8 (sV (.bool (!r1))) (sV (.bool true)) (by kernel_rfl) (by rw [hb4]) ?_
      refine CH.go 33 hτ (by kernel_rfl) ?_
      refine CH.endk ⟨[(1, .pt 64 0 0), (41, .e (.c (.d (.v (.bool true)))))], [(64, some (.box [.d (.v (.int .i64 b.f0)), .d (.v (.int .i64 b.f1)), .d (.v (.int .i64 b.f2)), .d (.v (.string b.f3)), .d (.v (.int .i64 b.f4.f0)), .d (.v (.int .i64 b.f4.f1)), .d (.sl (b.f4.f2.map dS)), .d (.v (.int .i64 b.f5.f0)), .d (.sl (b.f5.f1.map dS)), .d (.sl (b.f5.f2.map dI)), .d (.sl (b.f6.map d120)), .d (.v (.bool b.f7)), .d (.sl (b.f8.map d122)), .d (.v (.string b.f9))]))], 704⟩ (by kernel_rfl) (by kernel_rfl) rfl ?_
      refine X.ifT (by kernel_rfl) ?_
      refine X.seq ?_
      refine X.rk ⟨[(2, .e (.c (.d (.v (.bool false)))))], [], 720⟩ hτ hmix (by kernel_rfl) (by kernel_rfl) rfl ?_
      refine X.ret ?_
      exact ⟨trivial, _, _, ⟨false, trivial, rfl, rfl⟩, .inl (Ret.mk' [] (by kernel_rfl) (by kernel_rfl) (by kernel_rfl))⟩
    · refine CH.alt 7 (sV (.bool (!r1))) (sV (.bool false)) (by kernel_rfl) (by rw [hb4]) ?_
      refine CH.alt 8 (sV (.bool (!r1))) (sV (.bool false)) (by kernel_rfl) (by rw [hb4]) ?_
      refine CH.go 2 hτ (by kernel_rfl) ?_
      obtain ⟨r5, hr7, hf6⟩ := s_l1In b.f1 0 900
      refine CH.call hf6 Try.func119 ⟨rfl, rfl⟩ [] (by kernel_rfl) (by kernel_rfl) (by kernel_rfl) (by kernel_rfl) ?_
      refine CH.go 3 hτ (by kernel_rfl) ?_
      rcases Bool.eq_false_or_eq_true (!r5) with hb8 | hb8
      · refine CH.alt 12 (sV (.bool (!r5))) (sV (.bool true)) (by kernel_rfl) (by rw [hb8]) ?_
        refine CH.alt 13 (sV (.bool (!r5))) (sV (.bool true)) (by kernel_rfl) (by rw [hb8]) ?_
        refine CH.alt 14 (sV (.bool (!r5))) (sV (.bool true)) (by kernel_rfl) (by rw [hb8]) ?_
        refine CH.go 27 hτ (by kernel_rfl) ?_
        refine CH.endk ⟨[(1, .pt 64 0 0), (41, .e (.c (.d (.v (.bool true)))))], [(64, some (.box [.d (.v (.int .i64 b.f0)), .d (.v (.int .i64 b.f1)), .d (.v (.int .i64 b.f2)), .d (.v (.string b.f3)), .d (.v (.int .i64 b.f4.f0)), .d (.v (.int .i64 b.f4.f1)), .d (.sl (b.f4.f2.map dS)), .d (.v (.int .i64 b.f5.f0)), .d (.sl (b.f5.f1.map dS)), .d (.sl (b.f5.f2.map dI)), .d (.sl (b.f6.map d120)), .d (.v (.bool b.f7)), .d (.sl (b.f8.map d122)), .d (.v (.string b.f9))]))], 704⟩ (by kernel_rfl) (by kernel_rfl) rfl ?_
        refine X.ifT (by kernel_rfl) ?_
        refine X.seq ?_
        refine X.rk ⟨[(2, .e (.c (.d (.v (.bool false)))))], [], 720⟩ hτ hmix (by kernel_rfl) (by kernel_rfl) rfl ?_
        refine X.ret ?_
        exact ⟨trivial, _, _, ⟨false, trivial, rfl, rfl⟩, .inl (Ret.mk' [] (by kernel_rfl) (by kernel_rfl) (by kernel_rfl))⟩
      · refine CH.alt 12 (sV (.bool (!r5))) (sV (.bool false)) (by kernel_rfl) (by rw [hb8]) ?_
        refine CH.alt 13 (sV (.bool (!r5))) (sV (.bool false)) (by kernel_rfl) (by rw [hb8]) ?_
        refine CH.alt 14 (sV (.bool (!r5))) (sV (.bool false)) (by kernel_rfl) (by rw [hb8]) ?_
        refine CH.go 2 hτ (by kernel_rfl) ?_
        obtain ⟨r9, hr11, hf10⟩ := s_l1In b.f2 1 10000
        refine CH.call hf10 Try.func119 ⟨rfl, rfl⟩ [] (by kernel_rfl) (by kernel_rfl) (by kernel_rfl) (by kernel_rfl) ?_
        refine CH.go 3 hτ (by kernel_rfl) ?_
        rcases Bool.eq_false_or_eq_true (!r9) with hb12 | hb12
        · refine CH.alt 18 (sV (.bool (!r9))) (sV (.bool true)) (by kernel_rfl) (by rw [hb12]) ?_
          refine CH.alt 19 (sV (.bool (!r9))) (sV (.bool true)) (by kernel_rfl) (by rw [hb12]) ?_
          refine CH.alt 20 (sV (.bool (!r9))) (sV (.bool true)) (by kernel_rfl) (by rw [hb12]) ?_
          refine CH.go 21 hτ (by kernel_rfl) ?_
          refine CH.endk ⟨[(1, .pt 64 0 0), (41, .e (.c (.d (.v (.bool true)))))], [(64, some (.box [.d (.v (.int .i64 b.f0)), .d (.v (.int .i64 b.f1)), .d (.v (.int .i64 b.f2)), .d (.v (.string b.f3)), .d (.v (.int .i64 b.f4.f0)), .d (.v (.int .i64 b.f4.f1)), .d (.sl (b.f4.f2.map dS)), .d (.v (.int .i64 b.f5.f0)), .d (.sl (b.f5.f1.map dS)), .d (.sl (b.f5.f2.map dI)), .d (.sl (b.f6.map d120)), .d (.v (.bool b.f7)), .d (.sl (b.f8.map d122)), .d (.v (.string b.f9))]))], 704⟩ (by kernel_rfl) (by kernel_rfl) rfl ?_
          refine X.ifT (by kernel_rfl) ?_
          refine X.seq ?_
          refine X.rk ⟨[(2, .e (.c (.d (.v (.bool false)))))], [], 720⟩ hτ hmix (by kernel_rfl) (by kernel_rfl) rfl ?_
          refine X.ret ?_
          exact ⟨trivial, _, _, ⟨false, trivial, rfl, rfl⟩, .inl (Ret.mk' [] (by kernel_rfl) (by kernel_rfl) (by kernel_rfl))⟩
        · refine CH.alt 18 (sV (.bool (!r9))) (sV (.bool false)) (by kernel_rfl) (by rw [hb12]) ?_
          refine CH.alt 19 (sV (.bool (!r9))) (sV (.bool false)) (by kernel_rfl) (by rw [hb12]) ?_
          refine CH.alt 20 (sV (.bool (!r9))) (sV (.bool false)) (by kernel_rfl) (by rw [hb12]) ?_
          refine CH.go 2 hτ (by kernel_rfl) ?_
          obtain ⟨r13, hr15, hf14⟩ := s_NameOk b.f3 (by exact hb.1)
          refine CH.call hf14 Try.func120 ⟨rfl, rfl⟩ [] (by kernel_rfl) (by kernel_rfl) (by kernel_rfl) (by kernel_rfl) ?_
          refine CH.go 3 hτ (by kernel_rfl) ?_
          rcases Bool.eq_false_or_eq_true (!r13) with hb16 | hb16
          · refine CH.alt 24 (sV (.bool (!r13))) (sV (.bool true)) (by kernel_rfl) (by rw [hb16]) ?_
            refine CH.alt 25 (sV (.bool (!r13))) (sV (.bool true)) (by kernel_rfl) (by rw [hb16]) ?_
            refine CH.alt 26 (sV (.bool (!r13))) (sV (.bool true)) (by kernel_rfl) (by rw [hb16]) ?_
            refine CH.go 15 hτ (by kernel_rfl) ?_
            refine CH.endk ⟨[(1, .pt 64 0 0), (41, .e (.c (.d (.v (.bool true)))))], [(64, some (.box [.d (.v (.int .i64 b.f0)), .d (.v (.int .i64 b.f1)), .d (.v (.int .i64 b.f2)), .d (.v (.string b.f3)), .d (.v (.int .i64 b.f4.f0)), .d (.v (.int .i64 b.f4.f1)), .d (.sl (b.f4.f2.map dS)), .d (.v (.int .i64 b.f5.f0)), .d (.sl (b.f5.f1.map dS)), .d (.sl (b.f5.f2.map dI)), .d (.sl (b.f6.map d120)), .d (.v (.bool b.f7)), .d (.sl (b.f8.map d122)), .d (.v (.string b.f9))]))], 704⟩ (by kernel_rfl) (by kernel_rfl) rfl ?_
            refine X.ifT (by kernel_rfl) ?_
            refine X.seq ?_
            refine X.rk ⟨[(2, .e (.c (.d (.v (.bool false)))))], [], 720⟩ hτ hmix (by kernel_rfl) (by kernel_rfl) rfl ?_
            refine X.ret ?_
            exact ⟨trivial, _, _, ⟨false, trivial, rfl, rfl⟩, .inl (Ret.mk' [] (by kernel_rfl) (by kernel_rfl) (by kernel_rfl))⟩
          · refine CH.alt 24 (sV (.bool (!r13))) (sV (.bool false)) (by kernel_rfl) (by rw [hb16]) ?_
            refine CH.alt 25 (sV (.bool (!r13))) (sV (.bool false)) (by kernel_rfl) (by rw [hb16]) ?_
            refine CH.alt 26 (sV (.bool (!r13))) (sV (.bool false)) (by kernel_rfl) (by rw [hb16]) ?_
            refine CH.go 1 hτ (by kernel_rfl) ?_
            obtain ⟨r17, hr19, hf18⟩ := s_l9Qc b (by assumption)
            refine CH.call hf18 Try.func121 ⟨rfl, rfl⟩ [] (by kernel_rfl) (by kernel_rfl) (by kernel_rfl) (by kernel_rfl) ?_
            refine CH.go 3 hτ (by kernel_rfl) ?_
            rcases Bool.eq_false_or_eq_true (!r17) with hb20 | hb20
            · refine CH.alt 29 (sV (.bool (!r17))) (sV (.bool true)) (by kernel_rfl) (by rw [hb20]) ?_
              refine CH.alt 30 (sV (.bool (!r17))) (sV (.bool true)) (by kernel_rfl) (by rw [hb20]) ?_
              refine CH.alt 31 (sV (.bool (!r17))) (sV (.bool true)) (by kernel_rfl) (by rw [hb20]) ?_
              refine CH.go 10 hτ (by kernel_rfl) ?_
              refine CH.endk ⟨[(1, .pt 64 0 0), (41, .e (.c (.d (.v (.bool true)))))], [(64, some (.box [.d (.v (.int .i64 b.f0)), .d (.v (.int .i64 b.f1)), .d (.v (.int .i64 b.f2)), .d (.v (.string b.f3)), .d (.v (.int .i64 b.f4.f0)), .d (.v (.int .i64 b.f4.f1)), .d (.sl (b.f4.f2.map dS)), .d (.v (.int .i64 b.f5.f0)), .d (.sl (b.f5.f1.map dS)), .d (.sl (b.f5.f2.map dI)), .d (.sl (b.f6.map d120)), .d (.v (.bool b.f7)), .d (.sl (b.f8.map d122)), .d (.v (.string b.f9))]))], 704⟩ (by kernel_rfl) (by kernel_rfl) rfl ?_
              refine X.ifT (by kernel_rfl) ?_
              refine X.seq ?_
              refine X.rk ⟨[(2, .e (.c (.d (.v (.bool false)))))], [], 720⟩ hτ hmix (by kernel_rfl) (by kernel_rfl) rfl ?_
              refine X.ret ?_
              exact ⟨trivial, _, _, ⟨false, trivial, rfl, rfl⟩, .inl (Ret.mk' [] (by kernel_rfl) (by kernel_rfl) (by kernel_rfl))⟩
            · refine CH.alt 29 (sV (.bool (!r17))) (sV (.bool false)) (by kernel_rfl) (by rw [hb20]) ?_
              refine CH.alt 30 (sV (.bool (!r17))) (sV (.bool false)) (by kernel_rfl) (by rw [hb20]) ?_
              refine CH.alt 31 (sV (.bool (!r17))) (sV (.bool false)) (by kernel_rfl) (by rw [hb20]) ?_
              refine CH.go 1 hτ (by kernel_rfl) ?_
              obtain ⟨r21, hr23, hf22⟩ := s_l9Tc b (by assumption)
              refine CH.call hf22 Try.func122 ⟨rfl, rfl⟩ [] (by kernel_rfl) (by kernel_rfl) (by kernel_rfl) (by kernel_rfl) ?_
              refine CH.go 3 hτ (by kernel_rfl) ?_
              rcases Bool.eq_false_or_eq_true (!r21) with hb24 | hb24
              · refine CH.alt 34 (sV (.bool (!r21))) (sV (.bool true)) (by kernel_rfl) (by rw [hb24]) ?_
                refine CH.alt 35 (sV (.bool (!r21))) (sV (.bool true)) (by kernel_rfl) (by rw [hb24]) ?_
                refine CH.alt 36 (sV (.bool (!r21))) (sV (.bool true)) (by kernel_rfl) (by rw [hb24]) ?_
                refine CH.go 5 hτ (by kernel_rfl) ?_
                refine CH.endk ⟨[(1, .pt 64 0 0), (41, .e (.c (.d (.v (.bool true)))))], [(64, some (.box [.d (.v (.int .i64 b.f0)), .d (.v (.int .i64 b.f1)), .d (.v (.int .i64 b.f2)), .d (.v (.string b.f3)), .d (.v (.int .i64 b.f4.f0)), .d (.v (.int .i64 b.f4.f1)), .d (.sl (b.f4.f2.map dS)), .d (.v (.int .i64 b.f5.f0)), .d (.sl (b.f5.f1.map dS)), .d (.sl (b.f5.f2.map dI)), .d (.sl (b.f6.map d120)), .d (.v (.bool b.f7)), .d (.sl (b.f8.map d122)), .d (.v (.string b.f9))]))], 704⟩ (by kernel_rfl) (by kernel_rfl) rfl ?_
                refine X.ifT (by kernel_rfl) ?_
                refine X.seq ?_
                refine X.rk ⟨[(2, .e (.c (.d (.v (.bool false)))))], [], 720⟩ hτ hmix (by kernel_rfl) (by kernel_rfl) rfl ?_
                refine X.ret ?_
                exact ⟨trivial, _, _, ⟨false, trivial, rfl, rfl⟩, .inl (Ret.mk' [] (by kernel_rfl) (by kernel_rfl) (by kernel_rfl))⟩
              · refine CH.alt 34 (sV (.bool (!r21))) (sV (.bool false)) (by kernel_rfl) (by rw [hb24]) ?_
                refine CH.alt 35 (sV (.bool (!r21))) (sV (.bool false)) (by kernel_rfl) (by rw [hb24]) ?_
                refine CH.alt 36 (sV (.bool (!r21))) (sV (.bool false)) (by kernel_rfl) (by rw [hb24]) ?_
                refine CH.go 5 hτ (by kernel_rfl) ?_
                have el25 : (b.f6.map d120).length = b.f6.length := List.length_map ..
                refine CH.endk ⟨[(1, .pt 64 0 0), (41, .e (.c (.d (.v (.bool (decide ((((b.f6.map d120).length : Int) : Int) > 4)))))))], [(64, some (.box [.d (.v (.int .i64 b.f0)), .d (.v (.int .i64 b.f1)), .d (.v (.int .i64 b.f2)), .d (.v (.string b.f3)), .d (.v (.int .i64 b.f4.f0)), .d (.v (.int .i64 b.f4.f1)), .d (.sl (b.f4.f2.map dS)), .d (.v (.int .i64 b.f5.f0)), .d (.sl (b.f5.f1.map dS)), .d (.sl (b.f5.f2.map dI)), .d (.sl (b.f6.map d120)), .d (.v (.bool b.f7)), .d (.sl (b.f8.map d122)), .d (.v (.string b.f9))]))], 704⟩ (by kernel_rfl) (by kernel_rfl) rfl ?_
                refine X.if_ (b := decide ((((b.f6.map d120).length : Int) : Int) > 4)) (by kernel_rfl) (fun hb26 => ?_) (fun hb26 => ?_)
                · replace hb26 := of_decide_eq_true hb26
                  refine X.seq ?_
                  refine X.rk ⟨[(2, .e (.c (.d (.v (.bool false)))))], [], 720⟩ hτ hmix (by kernel_rfl) (by kernel_rfl) rfl ?_
                  refine X.ret ?_
                  exact ⟨trivial, _, _, ⟨false, trivial, rfl, rfl⟩, .inl (Ret.mk' [] (by kernel_rfl) (by kernel_rfl) (by kernel_rfl))⟩
                · replace hb26 := of_decide_eq_false hb26
                  refine X.skip ?_
                  refine X.seq ?_
                  refine X.seq ?_
                  refine X.rk ⟨[(1, .pt 64 0 0), (3, .e (.c (.d (.v (.int .i64 0)))))], [(64, some (.box [.d (.v (.int .i64 b.f0)), .d (.v (.int .i64 b.f1)), .d (.v (.int .i64 b.f2)), .d (.v (.string b.f3)), .d (.v (.int .i64 b.f4.f0)), .d (.v (.int .i64 b.f4.f1)), .d (.sl (b.f4.f2.map dS)), .d (.v (.int .i64 b.f5.f0)), .d (.sl (b.f5.f1.map dS)), .d (.sl (b.f5.f2.map dI)), .d (.sl (b.f6.map d120)), .d (.v (.bool b.f7)), .d (.sl (b.f8.map d122)), .d (.v (.string b.f9))]))], 720⟩ hτ hmix (by kernel_rfl) (by kernel_rfl) rfl ?_
                  refine X.block ?_
                  -- 4: v3 : Int
                  refine X.loop (σ := { g : Int // (fun (v3 : Int) => 0 ≤ v3 ∧ v3 ≤ b.f6.length) g }) (fun g => (fun (v3 : Int) => ⟨[(1, .pt 64 0 0), (3, .e (.c (.d (.v (.int .i64 v3)))))], [(64, some (.box [.d (.v (.int .i64 b.f0)), .d (.v (.int .i64 b.f1)), .d (.v (.int .i64 b.f2)), .d (.v (.string b.f3)), .d (.v (.int .i64 b.f4.f0)), .d (.v (.int .i64 b.f4.f1)), .d (.sl (b.f4.f2.map dS)), .d (.v (.int .i64 b.f5.f0)), .d (.sl (b.f5.f1.map dS)), .d (.sl (b.f5.f2.map dI)), .d (.sl (b.f6.map d120)), .d (.v (.bool b.f7)), .d (.sl (b.f8.map d122)), .d (.v (.string b.f9))]))], 720⟩) g.1) (fun g => (fun (v3 : Int) => (b.f6.length - v3).toNat) g.1) ⟨0, by first | exact rfl | omega | (dsimp only; omega) | (simp only [List.length_append, List.length_cons, List.length_nil, List.length_set]; omega) | (simp; done) | (simp; omega)⟩ (Wk.less (by kernel_rfl)) (fun g => ?_)
                  obtain ⟨v3, hg28⟩ := g
                  have hg28 : 0 ≤ v3 ∧ v3 ≤ b.f6.length := hg28
                  refine X.seq ?_
                  refine X.seq ?_
                  have hm := hb.2.2.2.1.1
                  refine X.rk ⟨[(1, .pt 64 0 0), (3, .e (.c (.d (.v (.int .i64 v3))))), (46, .e (.c (.d (.v (.bool (decide ((v3 : Int) < ((b.f6.map d120).length : Int))))))))], [(64, some (.box [.d (.v (.int .i64 b.f0)), .d (.v (.int .i64 b.f1)), .d (.v (.int .i64 b.f2)), .d (.v (.string b.f3)), .d (.v (.int .i64 b.f4.f0)), .d (.v (.int .i64 b.f4.f1)), .d (.sl (b.f4.f2.map dS)), .d (.v (.int .i64 b.f5.f0)), .d (.sl (b.f5.f1.map dS)), .d (.sl (b.f5.f2.map dI)), .d (.sl (b.f6.map d120)), .d (.v (.bool b.f7)), .d (.sl (b.f8.map d122)), .d (.v (.string b.f9))]))], 800⟩ hτ hmix (by kernel_rfl) (by kernel_rfl) rfl ?_
                  refine X.if_ (b := decide ((v3 : Int) < ((b.f6.map d120).length : Int))) (by kernel_rfl) (fun hb29 => ?_) (fun hb29 => ?_)
                  · replace hb29 := of_decide_eq_true hb29
                    refine X.skip ?_
                    refine X.seq ?_
                    refine X.block ?_
                    refine X.seq ?_
                    refine X.rs 3 hτ hmix (by kernel_rfl) ?_
                    obtain ⟨x30, hx30⟩ : ∃ x, b.f6[Int.toNat v3]? = some x := ⟨_, List.getElem?_eq_getElem (by first | omega | (simp; done) | (simp; omega))⟩
                    refine CH.idx hτ (d120 x30) (rows := (b.f6.map d120)) (n := v3) (sz := 5) (by kernel_rfl) (by kernel_rfl) (by first | omega | (simp; done) | (simp; omega)) (by rw [List.getElem?_map, hx30]; rfl) (by kernel_rfl) ?_
                    refine CH.go 1 hτ (by kernel_rfl) ?_
                    obtain ⟨r31, hr33, hf32⟩ := s_TxOk x30 (by exact all_at hb.2.2.2.1.2 ‹_›)
                    refine CH.call hf32 Try.func123 ⟨rfl, rfl⟩ [] (by kernel_rfl) (by kernel_rfl) (by kernel_rfl) (by kernel_rfl) ?_
                    refine CH.go 1 hτ (by kernel_rfl) ?_
                    refine CH.endk ⟨[(1, .pt 64 0 0), (3, .e (.c (.d (.v (.int .i64 v3))))), (55, .e (.c (.d (.v (.bool (!r31))))))], [(64, some (.box [.d (.v (.int .i64 b.f0)), .d (.v (.int .i64 b.f1)), .d (.v (.int .i64 b.f2)), .d (.v (.string b.f3)), .d (.v (.int .i64 b.f4.f0)), .d (.v (.int .i64 b.f4.f1)), .d (.sl (b.f4.f2.map dS)), .d (.v (.int .i64 b.f5.f0)), .d (.sl (b.f5.f1.map dS)), .d (.sl (b.f5.f2.map dI)), .d (.sl (b.f6.map d120)), .d (.v (.bool b.f7)), .d (.sl (b.f8.map d122)), .d (.v (.string b.f9))]))], 912⟩ (by kernel_rfl) (by kernel_rfl) rfl ?_
                    refine X.if_ (b := !r31) (by kernel_rfl) (fun hb34 => ?_) (fun hb34 => ?_)
                    · refine X.seq ?_
                      refine X.rk ⟨[(2, .e (.c (.d (.v (.bool false)))))], [], 928⟩ hτ hmix (by kernel_rfl) (by kernel_rfl) rfl ?_
                      refine X.ret ?_
                      exact ⟨trivial, _, _, ⟨false, trivial, rfl, rfl⟩, .inl (Ret.mk' [] (by kernel_rfl) (by kernel_rfl) (by kernel_rfl))⟩
                    · refine X.skip ?_
                      refine X.rk ⟨[(1, .pt 64 0 0), (3, .e (.c (.d (.v (.int .i64 (wrap64 (v3 + 1)))))))], [(64, some (.box [.d (.v (.int .i64 b.f0)), .d (.v (.int .i64 b.f1)), .d (.v (.int .i64 b.f2)), .d (.v (.string b.f3)), .d (.v (.int .i64 b.f4.f0)), .d (.v (.int .i64 b.f4.f1)), .d (.sl (b.f4.f2.map dS)), .d (.v (.int .i64 b.f5.f0)), .d (.sl (b.f5.f1.map dS)), .d (.sl (b.f5.f2.map dI)), .d (.sl (b.f6.map d120)), .d (.v (.bool b.f7)), .d (.sl (b.f8.map d122)), .d (.v (.string b.f9))]))], 960⟩ hτ hmix (by kernel_rfl) (by kernel_rfl) (s2 := ⟨[(1, .pt 64 0 0), (3, .e (.c (.d (.v (.int .i64 (v3 + 1))))))], [(64, some (.box [.d (.v (.int .i64 b.f0)), .d (.v (.int .i64 b.f1)), .d (.v (.int .i64 b.f2)), .d (.v (.string b.f3)), .d (.v (.int .i64 b.f4.f0)), .d (.v (.int .i64 b.f4.f1)), .d (.sl (b.f4.f2.map dS)), .d (.v (.int .i64 b.f5.f0)), .d (.sl (b.f5.f1.map dS)), .d (.sl (b.f5.f2.map dI)), .d (.sl (b.f6.map d120)), .d (.v (.bool b.f7)), .d (.sl (b.f8.map d122)), .d (.v (.string b.f9))]))], 960⟩) (congrArg (fun z : Int => (⟨[(1, .pt 64 0 0), (3, .e (.c (.d (.v (.int .i64 z)))))], [(64, some (.box [.d (.v (.int .i64 b.f0)), .d (.v (.int .i64 b.f1)), .d (.v (.int .i64 b.f2)), .d (.v (.string b.f3)), .d (.v (.int .i64 b.f4.f0)), .d (.v (.int .i64 b.f4.f1)), .d (.sl (b.f4.f2.map dS)), .d (.v (.int .i64 b.f5.f0)), .d (.sl (b.f5.f1.map dS)), .d (.sl (b.f5.f2.map dI)), .d (.sl (b.f6.map d120)), .d (.v (.bool b.f7)), .d (.sl (b.f8.map d122)), .d (.v (.string b.f9))]))], 960⟩ : St)) (show wrap64 (v3 + 1) = (v3 + 1) by rw [w64 (n := (v3 + 1)) (by omega) (by omega)])) ?_
                      refine ⟨⟨(v3 + 1), by first | exact rfl | omega | (dsimp only; omega) | (simp only [List.length_append, List.length_cons, List.length_nil, List.length_set]; omega) | (simp; done) | (simp; omega)⟩, by first | exact rfl | omega | (dsimp only; omega) | (simp only [List.length_append, List.length_cons, List.length_nil, List.length_set]; omega) | (simp; done) | (simp; omega), Wk.mk' [(64, 64)] (by kernel_rfl) (by kernel_rfl) (by kernel_rfl)⟩
                  · replace hb29 := of_decide_eq_false hb29
                    refine X.exit ?_
                    refine X.seq ?_
                    refine X.seq ?_
                    refine X.rk ⟨[(1, .pt 64 0 0), (58, .e (.c (.d (.v (.bool (!b.f7))))))], [(64, some (.box [.d (.v (.int .i64 b.f0)), .d (.v (.int .i64 b.f1)), .d (.v (.int .i64 b.f2)), .d (.v (.string b.f3)), .d (.v (.int .i64 b.f4.f0)), .d (.v (.int .i64 b.f4.f1)), .d (.sl (b.f4.f2.map dS)), .d (.v (.int .i64 b.f5.f0)), .d (.sl (b.f5.f1.map dS)), .d (.sl (b.f5.f2.map dI)), .d (.sl (b.f6.map d120)), .d (.v (.bool b.f7)), .d (.sl (b.f8.map d122)), .d (.v (.string b.f9))]))], 848⟩ hτ hmix (by kernel_rfl) (by kernel_rfl) rfl ?_
                    refine X.if_ (b := !b.f7) (by kernel_rfl) (fun hb35 => ?_) (fun hb35 => ?_)
                    · refine X.seq ?_
                      have el36 : (b.f8.map d122).length = b.f8.length := List.length_map ..
                      refine X.rs 5 hτ hmix (by kernel_rfl) ?_
                      rcases Bool.eq_false_or_eq_true ((((b.f8.map d122).length : Int) == 0)) with hb37 | hb37
                      · refine CH.alt 62 (sV (.bool ((((b.f8.map d122).length : Int) == 0)))) (sV (.bool true)) (by kernel_rfl) (by rw [hb37]) ?_
                        refine CH.alt 63 (sV (.bool ((((b.f8.map d122).length : Int) == 0)))) (sV (.bool true)) (by kernel_rfl) (by rw [hb37]) ?_
                        replace hb37 := eq_of_beq hb37
                        refine CH.go 5 hτ (by kernel_rfl) ?_
                        refine CH.endk ⟨[(2, .e (.c (.d (.v (.bool (b.f9.toList == (⟨#[]⟩ : ByteArray).toList))))))], [], 1008⟩ (by kernel_rfl) (by kernel_rfl) rfl ?_
                        refine X.ret ?_
                        exact ⟨trivial, _, _, ⟨(b.f9.toList == (⟨#[]⟩ : ByteArray).toList), trivial, rfl, rfl⟩, .inl (Ret.mk' [] (by kernel_rfl) (by kernel_rfl) (by kernel_rfl))⟩
                      · refine CH.alt 62 (sV (.bool ((((b.f8.map d122).length : Int) == 0)))) (sV (.bool false)) (by kernel_rfl) (by rw [hb37]) ?_
                        refine CH.alt 63 (sV (.bool ((((b.f8.map d122).length : Int) == 0)))) (sV (.bool false)) (by kernel_rfl) (by rw [hb37]) ?_
                        replace hb37 := beq_eq_false_iff_ne.1 hb37
                        refine CH.go 5 hτ (by kernel_rfl) ?_
                        refine CH.endk ⟨[(2, .e (.c (.d (.v (.bool false)))))], [], 1008⟩ (by kernel_rfl) (by kernel_rfl) rfl ?_
                        refine X.ret ?_
                        exact ⟨trivial, _, _, ⟨false, trivial, rfl, rfl⟩, .inl (Ret.mk' [] (by kernel_rfl) (by kernel_rfl) (by kernel_rfl))⟩
                    · refine X.skip ?_
                      refine X.seq ?_
                      refine X.rs 2 hτ hmix (by kernel_rfl) ?_
                      obtain ⟨r38, hr40, hf39⟩ := s_SetOk b.f8 (by exact hb.2.2.2.2.1)
                      refine CH.call hf39 Try.func124 ⟨rfl, rfl⟩ [] (by kernel_rfl) (by kernel_rfl) (by kernel_rfl) (by kernel_rfl) ?_
                      refine CH.go 1 hτ (by kernel_rfl) ?_
                      rcases Bool.eq_false_or_eq_true (r38) with hb41 | hb41
                      · refine CH.alt 70 (sV (.bool (r38))) (sV (.bool true)) (by kernel_rfl) (by rw [hb41]) ?_
                        refine CH.alt 71 (sV (.bool (r38))) (sV (.bool true)) (by kernel_rfl) (by rw [hb41]) ?_
                        refine CH.go 6 hτ (by kernel_rfl) ?_
                        refine CH.endk ⟨[(2, .e (.c (.d (.v (.bool ((b.f9.size : Int) == 32))))))], [], 1008⟩ (by kernel_rfl) (by kernel_rfl) rfl ?_
                        refine X.ret ?_
                        exact ⟨trivial, _, _, ⟨((b.f9.size : Int) == 32), trivial, rfl, rfl⟩, .inl (Ret.mk' [] (by kernel_rfl) (by kernel_rfl) (by kernel_rfl))⟩
                      · refine CH.alt 70 (sV (.bool (r38))) (sV (.bool false)) (by kernel_rfl) (by rw [hb41]) ?_
                        refine CH.alt 71 (sV (.bool (r38))) (sV (.bool false)) (by kernel_rfl) (by rw [hb41]) ?_
                        refine CH.go 6 hτ (by kernel_rfl) ?_
                        refine CH.endk ⟨[(2, .e (.c (.d (.v (.bool false)))))], [], 1008⟩ (by kernel_rfl) (by kernel_rfl) rfl ?_
                        refine X.ret ?_
                        exact ⟨trivial, _, _, ⟨false, trivial, rfl, rfl⟩, .inl (Ret.mk' [] (by kernel_rfl) (by kernel_rfl) (by kernel_rfl))⟩
  obtain ⟨_, _, ⟨r0, q1, rfl, rfl⟩, hf⟩ := key
  exact ⟨r0, q1, hf⟩

theorem s_TreeOk (l : List S59) (hl : SmL l) : ∃ r0 : Bool, (True) ∧ Fn Try.prog 21 [.e (.c (.d (.sl (l.map d59))))] (lookH []) (.e (.c (.d (.v (.bool r0))))) (lookH []) := by
  have key : ∃ x' h', ((fun x' h' => ∃ r0 : Bool, (True) ∧ x' = .e (.c (.d (.v (.bool r0)))) ∧ h' = [])) x' h' ∧ Fn Try.prog 21 [.e (.c (.d (.sl (l.map d59))))] (lookH []) x' (lookH h') := by
    refine Fn.bodyX (N := 70) hτ Try.func21 rfl rfl rfl rfl ?_
    refine X.seq ?_
    refine X.rk ⟨[(0, .e (.c (.d (.sl (l.map d59)))))], [], 80⟩ hτ hmix (by kernel_rfl) (by kernel_rfl) rfl ?_
    refine X.seq ?_
    refine X.seq ?_
    refine X.rk ⟨[(0, .e (.c (.d (.sl (l.map d59))))), (3, .e (.c (.d (.v (.int .i64 0)))))], [], 96⟩ hτ hmix (by kernel_rfl) (by kernel_rfl) rfl ?_
    refine X.block ?_
    -- 2: v3 : Int
    refine X.loop (σ := { g : Int // (fun (v3 : Int) => 0 ≤ v3 ∧ v3 ≤ l.length) g }) (fun g => (fun (v3 : Int) => ⟨[(0, .e (.c (.d (.sl (l.map d59))))), (3, .e (.c (.d (.v (.int .i64 v3)))))], [], 96⟩) g.1) (fun g => (fun (v3 : Int) => (l.length - v3).toNat) g.1) ⟨0, by first | exact rfl | omega | (dsimp only; omega) | (simp only [List.length_append, List.length_cons, List.length_nil, List.length_set]; omega) | (simp; done) | (simp; omega)⟩ (Wk.less (by kernel_rfl)) (fun g => ?_)
    obtain ⟨v3, hg2⟩ := g
    have hg2 : 0 ≤ v3 ∧ v3 ≤ l.length := hg2
    refine X.seq ?_
    refine X.seq ?_
    have hm := hl.1
    have el3 : (l.map d59).length = l.length := List.length_map ..
    refine X.rk ⟨[(0, .e (.c (.d (.sl (l.map d59))))), (3, .e (.c (.d (.v (.int .i64 v3))))), (9, .e (.c (.d (.v (.bool (decide ((v3 : Int) < ((l.map d59).length : Int))))))))], [], 160⟩ hτ hmix (by kernel_rfl) (by kernel_rfl) rfl ?_
    refine X.if_ (b := decide ((v3 : Int) < ((l.map d59).length : Int))) (by kernel_rfl) (fun hb4 => ?_) (fun hb4 => ?_)
    · replace hb4 := of_decide_eq_true hb4
      refine X.skip ?_
      refine X.seq ?_
      refine X.block ?_
      refine X.seq ?_
      refine X.rs 2 hτ hmix (by kernel_rfl) ?_
      obtain ⟨x5, hx5⟩ : ∃ x, l[Int.toNat v3]? = some x := ⟨_, List.getElem?_eq_getElem (by first | omega | (simp; done) | (simp; omega))⟩
      refine CH.idx hτ (d59 x5) (rows := (l.map d59)) (n := v3) (sz := 14) (by kernel_rfl) (by kernel_rfl) (by first | omega | (simp; done) | (simp; omega)) (by rw [List.getElem?_map, hx5]; rfl) (by kernel_rfl) ?_
      refine CH.go 3 hτ (by kernel_rfl) ?_
      refine CH.endk ⟨[(0, .e (.c (.d (.sl (l.map d59))))), (3, .e (.c (.d (.v (.int .i64 v3))))), (4, .pt 224 0 0)], [(224, some (.box [.d (.v (.int .i64 x5.f0)), .d (.v (.int .i64 x5.f1)), .d (.v (.int .i64 x5.f2)), .d (.v (.string x5.f3)), .d (.v (.int .i64 x5.f4.f0)), .d (.v (.int .i64 x5.f4.f1)), .d (.sl (x5.f4.f2.map dS)), .d (.v (.int .i64 x5.f5.f0)), .d (.sl (x5.f5.f1.map dS)), .d (.sl (x5.f5.f2.map dI)), .d (.sl (x5.f6.map d120)), .d (.v (.bool x5.f7)), .d (.sl (x5.f8.map d122)), .d (.v (.string x5.f9))]))], 256⟩ (by kernel_rfl) (by kernel_rfl) rfl ?_
      refine X.seq ?_
      refine X.seq ?_
      refine X.rs 1 hτ hmix (by kernel_rfl) ?_
      obtain ⟨r6, hr8, hf7⟩ := s_BlockOk x5 (by exact hl.at ‹_›)
      refine CH.call hf7 Try.func58 ⟨rfl, rfl⟩ [] (by kernel_rfl) (by kernel_rfl) (by kernel_rfl) (by kernel_rfl) ?_
      refine CH.go 2 hτ (by kernel_rfl) ?_
      rcases Bool.eq_false_or_eq_true (!r6) with hb9 | hb9
      · refine CH.alt 18 (sV (.bool (!r6))) (sV (.bool true)) (by kernel_rfl) (by rw [hb9]) ?_
        refine CH.alt 19 (sV (.bool (!r6))) (sV (.bool true)) (by kernel_rfl) (by rw [hb9]) ?_
        refine CH.go 23 hτ (by kernel_rfl) ?_
        refine CH.endk ⟨[(0, .e (.c (.d (.sl (l.map d59))))), (3, .e (.c (.d (.v (.int .i64 v3))))), (4, .pt 224 0 0), (42, .e (.c (.d (.v (.bool true)))))], [(224, some (.box [.d (.v (.int .i64 x5.f0)), .d (.v (.int .i64 x5.f1)), .d (.v (.int .i64 x5.f2)), .d (.v (.string x5.f3)), .d (.v (.int .i64 x5.f4.f0)), .d (.v (.int .i64 x5.f4.f1)), .d (.sl (x5.f4.f2.map dS)), .d (.v (.int .i64 x5.f5.f0)), .d (.sl (x5.f5.f1.map dS)), .d (.sl (x5.f5.f2.map dI)), .d (.sl (x5.f6.map d120)), .d (.v (.bool x5.f7)), .d (.sl (x5.f8.map d122)), .d (.v (.string x5.f9))]))], 688⟩ (by kernel_rfl) (by kernel_rfl) rfl ?_
        refine X.ifT (by kernel_rfl) ?_
        refine X.seq ?_
        refine X.rk ⟨[(2, .e (.c (.d (.v (.bool false)))))], [], 704⟩ hτ hmix (by kernel_rfl) (by kernel_rfl) rfl ?_
        refine X.ret ?_
        exact ⟨trivial, _, _, ⟨false, trivial, rfl, rfl⟩, .inl (Ret.mk' [] (by kernel_rfl) (by kernel_rfl) (by kernel_rfl))⟩
      · refine CH.alt 18 (sV (.bool (!r6))) (sV (.bool false)) (by kernel_rfl) (by rw [hb9]) ?_
        refine CH.alt 19 (sV (.bool (!r6))) (sV (.bool false)) (by kernel_rfl) (by rw [hb9]) ?_
        refine CH.go 3 hτ (by kernel_rfl) ?_
        obtain ⟨x10, hx10⟩ : ∃ x, l[Int.toNat 0]? = some x := ⟨_, List.getElem?_eq_getElem (by first | omega | (simp; done) | (simp; omega))⟩
        refine CH.idx hτ (d59 x10) (rows := (l.map d59)) (n := 0) (sz := 14) (by kernel_rfl) (by kernel_rfl) (by first | omega | (simp; done) | (simp; omega)) (by rw [List.getElem?_map, hx10]; rfl) (by kernel_rfl) ?_
        refine CH.go 5 hτ (by kernel_rfl) ?_
        rcases Bool.eq_false_or_eq_true ((x5.f1 != x10.f1)) with hb11 | hb11
        · refine CH.alt 26 (sV (.bool ((x5.f1 != x10.f1)))) (sV (.bool true)) (by kernel_rfl) (by rw [hb11]) ?_
          refine CH.alt 27 (sV (.bool ((x5.f1 != x10.f1)))) (sV (.bool true)) (by kernel_rfl) (by rw [hb11]) ?_
          refine CH.alt 28 (sV (.bool ((x5.f1 != x10.f1)))) (sV (.bool true)) (by kernel_rfl) (by rw [hb11]) ?_
          replace hb11 := bne_iff_ne.1 hb11
          refine CH.go 14 hτ (by kernel_rfl) ?_
          refine CH.endk ⟨[(0, .e (.c (.d (.sl (l.map d59))))), (3, .e (.c (.d (.v (.int .i64 v3))))), (4, .pt 224 0 0), (42, .e (.c (.d (.v (.bool true)))))], [(224, some (.box [.d (.v (.int .i64 x5.f0)), .d (.v (.int .i64 x5.f1)), .d (.v (.int .i64 x5.f2)), .d (.v (.string x5.f3)), .d (.v (.int .i64 x5.f4.f0)), .d (.v (.int .i64 x5.f4.f1)), .d (.sl (x5.f4.f2.map dS)), .d (.v (.int .i64 x5.f5.f0)), .d (.sl (x5.f5.f1.map dS)), .d (.sl (x5.f5.f2.map dI)), .d (.sl (x5.f6.map d120)), .d (.v (.bool x5.f7)), .d (.sl (x5.f8.map d122)), .d (.v (.string x5.f9))]))], 688⟩ (by kernel_rfl) (by kernel_rfl) rfl ?_
          refine X.ifT (by kernel_rfl) ?_
          refine X.seq ?_
          refine X.rk ⟨[(2, .e (.c (.d (.v (.bool false)))))], [], 704⟩ hτ hmix (by kernel_rfl) (by kernel_rfl) rfl ?_
          refine X.ret ?_
          exact ⟨trivial, _, _, ⟨false, trivial, rfl, rfl⟩, .inl (Ret.mk' [] (by kernel_rfl) (by kernel_rfl) (by kernel_rfl))⟩
        · refine CH.alt 26 (sV (.bool ((x5.f1 != x10.f1)))) (sV (.bool false)) (by kernel_rfl) (by rw [hb11]) ?_
          refine CH.alt 27 (sV (.bool ((x5.f1 != x10.f1)))) (sV (.bool false)) (by kernel_rfl) (by rw [hb11]) ?_
          refine CH.alt 28 (sV (.bool ((x5.f1 != x10.f1)))) (sV (.bool false)) (by kernel_rfl) (by rw [hb11]) ?_
          replace hb11 := bne_eq_false_iff_eq.1 hb11
          refine CH.go 3 hτ (by kernel_rfl) ?_
          rcases Bool.eq_false_or_eq_true (decide ((v3 : Int) > 0)) with hb12 | hb12
          · refine CH.alt 30 (sV (.bool (decide ((v3 : Int) > 0)))) (sV (.bool true)) (by kernel_rfl) (by rw [hb12]) ?_
            refine CH.alt 31 (sV (.bool (decide ((v3 : Int) > 0)))) (sV (.bool true)) (by kernel_rfl) (by rw [hb12]) ?_
            replace hb12 := of_decide_eq_true hb12
            refine CH.go 3 hτ (by kernel_rfl) ?_
            obtain ⟨x13, hx13⟩ : ∃ x, l[Int.toNat (v3 - 1)]? = some x := ⟨_, List.getElem?_eq_getElem (by first | omega | (simp; done) | (simp; omega))⟩
            refine CH.alt 34 (sV (.int .i64 (wrap64 (v3 - 1)))) (sV (.int .i64 ((v3 - 1)))) (by kernel_rfl) (by rw [w64 (n := (v3 - 1)) (by omega) (by omega)]) ?_
            refine CH.idx hτ (d59 x13) (rows := (l.map d59)) (n := (v3 - 1)) (sz := 14) (by kernel_rfl) (by kernel_rfl) (by first | omega | (simp; done) | (simp; omega)) (by rw [List.getElem?_map, hx13]; rfl) (by kernel_rfl) ?_
            refine CH.go 7 hτ (by kernel_rfl) ?_
            refine CH.endk ⟨[(0, .e (.c (.d (.sl (l.map d59))))), (3, .e (.c (.d (.v (.int .i64 v3))))), (4, .pt 224 0 0), (42, .e (.c (.d (.v (.bool (decide ((x13.f0 : Int) ≥ x5.f0)))))))], [(224, some (.box [.d (.v (.int .i64 x5.f0)), .d (.v (.int .i64 x5.f1)), .d (.v (.int .i64 x5.f2)), .d (.v (.string x5.f3)), .d (.v (.int .i64 x5.f4.f0)), .d (.v (.int .i64 x5.f4.f1)), .d (.sl (x5.f4.f2.map dS)), .d (.v (.int .i64 x5.f5.f0)), .d (.sl (x5.f5.f1.map dS)), .d (.sl (x5.f5.f2.map dI)), .d (.sl (x5.f6.map d120)), .d (.v (.bool x5.f7)), .d (.sl (x5.f8.map d122)), .d (.v (.string x5.f9))]))], 688⟩ (by kernel_rfl) (by kernel_rfl) rfl ?_
            refine X.if_ (b := decide ((x13.f0 : Int) ≥ x5.f0)) (by kernel_rfl) (fun hb14 => ?_) (fun hb14 => ?_)
            · replace hb14 := of_decide_eq_true hb14
              refine X.seq ?_
              refine X.rk ⟨[(2, .e (.c (.d (.v (.bool false)))))], [], 704⟩ hτ hmix (by kernel_rfl) (by kernel_rfl) rfl ?_
              refine X.ret ?_
              exact ⟨trivial, _, _, ⟨false, trivial, rfl, rfl⟩, .inl (Ret.mk' [] (by kernel_rfl) (by kernel_rfl) (by kernel_rfl))⟩
            · replace hb14 := of_decide_eq_false hb14
              refine X.skip ?_
              refine X.seq ?_
              refine X.rs 2 hτ hmix (by kernel_rfl) ?_
              obtain ⟨r15, hr17, hf16⟩ := s_l8Root x5.f4
              refine CH.call hf16 Try.func59 ⟨rfl, rfl⟩ [] (by kernel_rfl) (by kernel_rfl) (by kernel_rfl) (by kernel_rfl) ?_
              refine CH.go 1 hτ (by kernel_rfl) ?_
              refine CH.endk ⟨[(0, .e (.c (.d (.sl (l.map d59))))), (3, .e (.c (.d (.v (.int .i64 v3))))), (4, .pt 224 0 0), (46, .e (.c (.d (.v (.bool (!r15))))))], [(224, some (.box [.d (.v (.int .i64 x5.f0)), .d (.v (.int .i64 x5.f1)), .d (.v (.int .i64 x5.f2)), .d (.v (.string x5.f3)), .d (.v (.int .i64 x5.f4.f0)), .d (.v (.int .i64 x5.f4.f1)), .d (.sl (x5.f4.f2.map dS)), .d (.v (.int .i64 x5.f5.f0)), .d (.sl (x5.f5.f1.map dS)), .d (.sl (x5.f5.f2.map dI)), .d (.sl (x5.f6.map d120)), .d (.v (.bool x5.f7)), .d (.sl (x5.f8.map d122)), .d (.v (.string x5.f9))]))], 752⟩ (by kernel_rfl) (by kernel_rfl) rfl ?_
              refine X.if_ (b := !r15) (by kernel_rfl) (fun hb18 => ?_) (fun hb18 => ?_)
              · refine X.seq ?_
                refine X.rs 2 hτ hmix (by kernel_rfl) ?_
                refine CH.cut hτ (cc := .d (.sl (l.map d59))) (rows := (l.map d59)) (sz := 14) (l := 0) (h := v3) (by kernel_rfl) (by kernel_rfl) (by first | omega | (simp; done) | (simp; omega)) (by first | omega | (simp; done) | (simp; omega)) (by first | omega | (simp only [List.length_map]; omega)) (flat_ok (f := d59) (fun x => rfl)) ?_
                refine CH.alt 49 (.e (.c (.d (.sl (((l.map d59).drop (Int.toNat 0)).take (Int.toNat v3 - Int.toNat 0)))))) (.e (.c (.d (.sl (((l.drop (Int.toNat 0)).take (Int.toNat v3 - Int.toNat 0)).map d59))))) (by kernel_rfl) (by rw [List.map_take, List.map_drop]) ?_
                refine CH.go 3 hτ (by kernel_rfl) ?_
                obtain ⟨r19, hr21, hf20⟩ := s_l10At ((l.drop (Int.toNat 0)).take (Int.toNat v3 - Int.toNat 0)) x5.f4.f1 (by first | (simp only [List.length_take, List.length_drop]; omega) | (simp; omega))
                replace hr21 := hr21.symm; subst hr21
                have hid := idAt_bd ((l.drop (Int.toNat 0)).take (Int.toNat v3 - Int.toNat 0)) x5.f4.f1
                have hid2 := hid
                simp only [List.length_take, List.length_drop] at hid2
                refine CH.call hf20 Try.func54 ⟨rfl, rfl⟩ [] (by kernel_rfl) (by kernel_rfl) (by kernel_rfl) (by kernel_rfl) ?_
                refine CH.go 1 hτ (by kernel_rfl) ?_
                refine CH.endk ⟨[(0, .e (.c (.d (.sl (l.map d59))))), (3, .e (.c (.d (.v (.int .i64 v3))))), (4, .pt 224 0 0), (5, .e (.c (.d (.v (.int .i64 (idAt ((l.drop (Int.toNat 0)).take (Int.toNat v3 - Int.toNat 0)) x5.f4.f1))))))], [(224, some (.box [.d (.v (.int .i64 x5.f0)), .d (.v (.int .i64 x5.f1)), .d (.v (.int .i64 x5.f2)), .d (.v (.string x5.f3)), .d (.v (.int .i64 x5.f4.f0)), .d (.v (.int .i64 x5.f4.f1)), .d (.sl (x5.f4.f2.map dS)), .d (.v (.int .i64 x5.f5.f0)), .d (.sl (x5.f5.f1.map dS)), .d (.sl (x5.f5.f2.map dI)), .d (.sl (x5.f6.map d120)), .d (.v (.bool x5.f7)), .d (.sl (x5.f8.map d122)), .d (.v (.string x5.f9))]))], 880⟩ (by kernel_rfl) (by kernel_rfl) rfl ?_
                refine X.gen (fun n23 : Int => ⟨[(0, .e (.c (.d (.sl (l.map d59))))), (3, .e (.c (.d (.v (.int .i64 v3))))), (4, .pt 224 0 0), (5, .e (.c (.d (.v (.int .i64 n23)))))], [(224, some (.box [.d (.v (.int .i64 x5.f0)), .d (.v (.int .i64 x5.f1)), .d (.v (.int .i64 x5.f2)), .d (.v (.string x5.f3)), .d (.v (.int .i64 x5.f4.f0)), .d (.v (.int .i64 x5.f4.f1)), .d (.sl (x5.f4.f2.map dS)), .d (.v (.int .i64 x5.f5.f0)), .d (.sl (x5.f5.f1.map dS)), .d (.sl (x5.f5.f2.map dI)), .d (.sl (x5.f6.map d120)), .d (.v (.bool x5.f7)), .d (.sl (x5.f8.map d122)), .d (.v (.string x5.f9))]))], 880⟩) ((idAt ((l.drop (Int.toNat 0)).take (Int.toNat v3 - Int.toNat 0)) x5.f4.f1)) (fun n23 hn23 => ?_)
                refine X.seq ?_
                refine X.rs 3 hτ hmix (by kernel_rfl) ?_
                rcases Bool.eq_false_or_eq_true (decide ((n23 : Int) < 0)) with hb24 | hb24
                · refine CH.alt 55 (sV (.bool (decide ((n23 : Int) < 0)))) (sV (.bool true)) (by kernel_rfl) (by rw [hb24]) ?_
                  refine CH.alt 56 (sV (.bool (decide ((n23 : Int) < 0)))) (sV (.bool true)) (by kernel_rfl) (by rw [hb24]) ?_
                  replace hb24 := of_decide_eq_true hb24
                  refine CH.go 10 hτ (by kernel_rfl) ?_
                  refine CH.endk ⟨[(0, .e (.c (.d (.sl (l.map d59))))), (3, .e (.c (.d (.v (.int .i64 v3))))), (66, .e (.c (.d (.v (.bool true)))))], [], 1088⟩ (by kernel_rfl) (by kernel_rfl) rfl ?_
                  refine X.ifT (by kernel_rfl) ?_
                  refine X.seq ?_
                  refine X.rk ⟨[(2, .e (.c (.d (.v (.bool false)))))], [], 1104⟩ hτ hmix (by kernel_rfl) (by kernel_rfl) rfl ?_
                  refine X.ret ?_
                  exact ⟨trivial, _, _, ⟨false, trivial, rfl, rfl⟩, .inl (Ret.mk' [] (by kernel_rfl) (by kernel_rfl) (by kernel_rfl))⟩
                · refine CH.alt 55 (sV (.bool (decide ((n23 : Int) < 0)))) (sV (.bool false)) (by kernel_rfl) (by rw [hb24]) ?_
                  refine CH.alt 56 (sV (.bool (decide ((n23 : Int) < 0)))) (sV (.bool false)) (by kernel_rfl) (by rw [hb24]) ?_
                  replace hb24 := of_decide_eq_false hb24
                  refine CH.go 2 hτ (by kernel_rfl) ?_
                  obtain ⟨x25, hx25⟩ : ∃ x, l[Int.toNat n23]? = some x := ⟨_, List.getElem?_eq_getElem (by first | omega | (simp; done) | (simp; omega))⟩
                  refine CH.idx hτ (d59 x25) (rows := (l.map d59)) (n := n23) (sz := 14) (by kernel_rfl) (by kernel_rfl) (by first | omega | (simp; done) | (simp; omega)) (by rw [List.getElem?_map, hx25]; rfl) (by kernel_rfl) ?_
                  refine CH.go 7 hτ (by kernel_rfl) ?_
                  refine CH.endk ⟨[(0, .e (.c (.d (.sl (l.map d59))))), (3, .e (.c (.d (.v (.int .i64 v3))))), (66, .e (.c (.d (.v (.bool (x25.f2 != x5.f4.f0))))))], [], 1088⟩ (by kernel_rfl) (by kernel_rfl) rfl ?_
                  refine X.if_ (b := (x25.f2 != x5.f4.f0)) (by kernel_rfl) (fun hb26 => ?_) (fun hb26 => ?_)
                  · replace hb26 := bne_iff_ne.1 hb26
                    refine X.seq ?_
                    refine X.rk ⟨[(2, .e (.c (.d (.v (.bool false)))))], [], 1104⟩ hτ hmix (by kernel_rfl) (by kernel_rfl) rfl ?_
                    refine X.ret ?_
                    exact ⟨trivial, _, _, ⟨false, trivial, rfl, rfl⟩, .inl (Ret.mk' [] (by kernel_rfl) (by kernel_rfl) (by kernel_rfl))⟩
                  · replace hb26 := bne_eq_false_iff_eq.1 hb26
                    refine X.skip ?_
                    refine X.rk ⟨[(0, .e (.c (.d (.sl (l.map d59))))), (3, .e (.c (.d (.v (.int .i64 (wrap64 (v3 + 1)))))))], [], 1136⟩ hτ hmix (by kernel_rfl) (by kernel_rfl) (s2 := ⟨[(0, .e (.c (.d (.sl (l.map d59))))), (3, .e (.c (.d (.v (.int .i64 (v3 + 1))))))], [], 1136⟩) (congrArg (fun z : Int => (⟨[(0, .e (.c (.d (.sl (l.map d59))))), (3, .e (.c (.d (.v (.int .i64 z)))))], [], 1136⟩ : St)) (show wrap64 (v3 + 1) = (v3 + 1) by rw [w64 (n := (v3 + 1)) (by omega) (by omega)])) ?_
                    refine ⟨⟨(v3 + 1), by first | exact rfl | omega | (dsimp only; omega) | (simp only [List.length_append, List.length_cons, List.length_nil, List.length_set]; omega) | (simp; done) | (simp; omega)⟩, by first | exact rfl | omega | (dsimp only; omega) | (simp only [List.length_append, List.length_cons, List.length_nil, List.length_set]; omega) | (simp; done) | (simp; omega), Wk.mk' [] (by kernel_rfl) (by kernel_rfl) (by kernel_rfl)⟩
              · refine X.skip ?_
                refine X.rk ⟨[(0, .e (.c (.d (.sl (l.map d59))))), (3, .e (.c (.d (.v (.int .i64 (wrap64 (v3 + 1)))))))], [], 800⟩ hτ hmix (by kernel_rfl) (by kernel_rfl) (s2 := ⟨[(0, .e (.c (.d (.sl (l.map d59))))), (3, .e (.c (.d (.v (.int .i64 (v3 + 1))))))], [], 800⟩) (congrArg (fun z : Int => (⟨[(0, .e (.c (.d (.sl (l.map d59))))), (3, .e (.c (.d (.v (.int .i64 z)))))], [], 800⟩ : St)) (show wrap64 (v3 + 1) = (v3 + 1) by rw [w64 (n := (v3 + 1)) (by omega) (by omega)])) ?_
                refine ⟨⟨(v3 + 1), by first | exact rfl | omega | (dsimp only; omega) | (simp only [List.length_append, List.length_cons, List.length_nil, List.length_set]; omega) | (simp; done) | (simp; omega)⟩, by first | exact rfl | omega | (dsimp only; omega) | (simp only [List.length_append, List.length_cons, List.length_nil, List.length_set]; omega) | (simp; done) | (simp; omega), Wk.mk' [] (by kernel_rfl) (by kernel_rfl) (by kernel_rfl)⟩
          · refine CH.alt 30 (sV (.bool (decide ((v3 : Int) > 0)))) (sV (.bool false)) (by kernel_rfl) (by rw [hb12]) ?_
            refine CH.alt 31 (sV (.bool (decide ((v3 : Int) > 0)))) (sV (.bool false)) (by kernel_rfl) (by rw [hb12]) ?_
            replace hb12 := of_decide_eq_false hb12
            refine CH.go 11 hτ (by kernel_rfl) ?_
            refine CH.endk ⟨[(0, .e (.c (.d (.sl (l.map d59))))), (3, .e (.c (.d (.v (.int .i64 v3))))), (4, .pt 224 0 0), (42, .e (.c (.d (.v (.bool false)))))], [(224, some (.box [.d (.v (.int .i64 x5.f0)), .d (.v (.int .i64 x5.f1)), .d (.v (.int .i64 x5.f2)), .d (.v (.string x5.f3)), .d (.v (.int .i64 x5.f4.f0)), .d (.v (.int .i64 x5.f4.f1)), .d (.sl (x5.f4.f2.map dS)), .d (.v (.int .i64 x5.f5.f0)), .d (.sl (x5.f5.f1.map dS)), .d (.sl (x5.f5.f2.map dI)), .d (.sl (x5.f6.map d120)), .d (.v (.bool x5.f7)), .d (.sl (x5.f8.map d122)), .d (.v (.string x5.f9))]))], 688⟩ (by kernel_rfl) (by kernel_rfl) rfl ?_
            refine X.ifF (by kernel_rfl) ?_
            refine X.skip ?_
            refine X.seq ?_
            refine X.rs 2 hτ hmix (by kernel_rfl) ?_
            obtain ⟨r27, hr29, hf28⟩ := s_l8Root x5.f4
            refine CH.call hf28 Try.func59 ⟨rfl, rfl⟩ [] (by kernel_rfl) (by kernel_rfl) (by kernel_rfl) (by kernel_rfl) ?_
            refine CH.go 1 hτ (by kernel_rfl) ?_
            refine CH.endk ⟨[(0, .e (.c (.d (.sl (l.map d59))))), (3, .e (.c (.d (.v (.int .i64 v3))))), (4, .pt 224 0 0), (46, .e (.c (.d (.v (.bool (!r27))))))], [(224, some (.box [.d (.v (.int .i64 x5.f0)), .d (.v (.int .i64 x5.f1)), .d (.v (.int .i64 x5.f2)), .d (.v (.string x5.f3)), .d (.v (.int .i64 x5.f4.f0)), .d (.v (.int .i64 x5.f4.f1)), .d (.sl (x5.f4.f2.map dS)), .d (.v (.int .i64 x5.f5.f0)), .d (.sl (x5.f5.f1.map dS)), .d (.sl (x5.f5.f2.map dI)), .d (.sl (x5.f6.map d120)), .d (.v (.bool x5.f7)), .d (.sl (x5.f8.map d122)), .d (.v (.string x5.f9))]))], 752⟩ (by kernel_rfl) (by kernel_rfl) rfl ?_
            refine X.if_ (b := !r27) (by kernel_rfl) (fun hb30 => ?_) (fun hb30 => ?_)
            · refine X.seq ?_
              refine X.rs 2 hτ hmix (by kernel_rfl) ?_
              refine CH.cut hτ (cc := .d (.sl (l.map d59))) (rows := (l.map d59)) (sz := 14) (l := 0) (h := v3) (by kernel_rfl) (by kernel_rfl) (by first | omega | (simp; done) | (simp; omega)) (by first | omega | (simp; done) | (simp; omega)) (by first | omega | (simp only [List.length_map]; omega)) (flat_ok (f := d59) (fun x => rfl)) ?_
              refine CH.alt 49 (.e (.c (.d (.sl (((l.map d59).drop (Int.toNat 0)).take (Int.toNat v3 - Int.toNat 0)))))) (.e (.c (.d (.sl (((l.drop (Int.toNat 0)).take (Int.toNat v3 - Int.toNat 0)).map d59))))) (by kernel_rfl) (by rw [List.map_take, List.map_drop]) ?_
              refine CH.go 3 hτ (by kernel_rfl) ?_
              obtain ⟨r31, hr33, hf32⟩ := s_l10At ((l.drop (Int.toNat 0)).take (Int.toNat v3 - Int.toNat 0)) x5.f4.f1 (by first | (simp only [List.length_take, List.length_drop]; omega) | (simp; omega))
              replace hr33 := hr33.symm; subst hr33
              have hid := idAt_bd ((l.drop (Int.toNat 0)).take (Int.toNat v3 - Int.toNat 0)) x5.f4.f1
              have hid2 := hid
              simp only [List.length_take, List.length_drop] at hid2
              refine CH.call hf32 Try.func54 ⟨rfl, rfl⟩ [] (by kernel_rfl) (by kernel_rfl) (by kernel_rfl) (by kernel_rfl) ?_
              refine CH.go 1 hτ (by kernel_rfl) ?_
              refine CH.endk ⟨[(0, .e (.c (.d (.sl (l.map d59))))), (3, .e (.c (.d (.v (.int .i64 v3))))), (4, .pt 224 0 0), (5, .e (.c (.d (.v (.int .i64 (idAt ((l.drop (Int.toNat 0)).take (Int.toNat v3 - Int.toNat 0)) x5.f4.f1))))))], [(224, some (.box [.d (.v (.int .i64 x5.f0)), .d (.v (.int .i64 x5.f1)), .d (.v (.int .i64 x5.f2)), .d (.v (.string x5.f3)), .d (.v (.int .i64 x5.f4.f0)), .d (.v (.int .i64 x5.f4.f1)), .d (.sl (x5.f4.f2.map dS)), .d (.v (.int .i64 x5.f5.f0)), .d (.sl (x5.f5.f1.map dS)), .d (.sl (x5.f5.f2.map dI)), .d (.sl (x5.f6.map d120)), .d (.v (.bool x5.f7)), .d (.sl (x5.f8.map d122)), .d (.v (.string x5.f9))]))], 880⟩ (by kernel_rfl) (by kernel_rfl) rfl ?_
              refine X.gen (fun n35 : Int => ⟨[(0, .e (.c (.d (.sl (l.map d59))))), (3, .e (.c (.d (.v (.int .i64 v3))))), (4, .pt 224 0 0), (5, .e (.c (.d (.v (.int .i64 n35)))))], [(224, some (.box [.d (.v (.int .i64 x5.f0)), .d (.v (.int .i64 x5.f1)), .d (.v (.int .i64 x5.f2)), .d (.v (.string x5.f3)), .d (.v (.int .i64 x5.f4.f0)), .d (.v (.int .i64 x5.f4.f1)), .d (.sl (x5.f4.f2.map dS)), .d (.v (.int .i64 x5.f5.f0)), .d (.sl (x5.f5.f1.map dS)), .d (.sl (x5.f5.f2.map dI)), .d (.sl (x5.f6.map d120)), .d (.v (.bool x5.f7)), .d (.sl (x5.f8.map d122)), .d (.v (.string x5.f9))]))], 880⟩) ((idAt ((l.drop (Int.toNat 0)).take (Int.toNat v3 - Int.toNat 0)) x5.f4.f1)) (fun n35 hn35 => ?_)
              refine X.seq ?_
              refine X.rs 3 hτ hmix (by kernel_rfl) ?_
              rcases Bool.eq_false_or_eq_true (decide ((n35 : Int) < 0)) with hb36 | hb36
              · refine CH.alt 55 (sV (.bool (decide ((n35 : Int) < 0)))) (sV (.bool true)) (by kernel_rfl) (by rw [hb36]) ?_
                refine CH.alt 56 (sV (.bool (decide ((n35 : Int) < 0)))) (sV (.bool true)) (by kernel_rfl) (by rw [hb36]) ?_
                replace hb36 := of_decide_eq_true hb36
                refine CH.go 10 hτ (by kernel_rfl) ?_
                refine CH.endk ⟨[(0, .e (.c (.d (.sl (l.map d59))))), (3, .e (.c (.d (.v (.int .i64 v3))))), (66, .e (.c (.d (.v (.bool true)))))], [], 1088⟩ (by kernel_rfl) (by kernel_rfl) rfl ?_
                refine X.ifT (by kernel_rfl) ?_
                refine X.seq ?_
                refine X.rk ⟨[(2, .e (.c (.d (.v (.bool false)))))], [], 1104⟩ hτ hmix (by kernel_rfl) (by kernel_rfl) rfl ?_
                refine X.ret ?_
                exact ⟨trivial, _, _, ⟨false, trivial, rfl, rfl⟩, .inl (Ret.mk' [] (by kernel_rfl) (by kernel_rfl) (by kernel_rfl))⟩
              · refine CH.alt 55 (sV (.bool (decide ((n35 : Int) < 0)))) (sV (.bool false)) (by kernel_rfl) (by rw [hb36]) ?_
                refine CH.alt 56 (sV (.bool (decide ((n35 : Int) < 0)))) (sV (.bool false)) (by kernel_rfl) (by rw [hb36]) ?_
                replace hb36 := of_decide_eq_false hb36
                refine CH.go 2 hτ (by kernel_rfl) ?_
                obtain ⟨x37, hx37⟩ : ∃ x, l[Int.toNat n35]? = some x := ⟨_, List.getElem?_eq_getElem (by first | omega | (simp; done) | (simp; omega))⟩
                refine CH.idx hτ (d59 x37) (rows := (l.map d59)) (n := n35) (sz := 14) (by kernel_rfl) (by kernel_rfl) (by first | omega | (simp; done) | (simp; omega)) (by rw [List.getElem?_map, hx37]; rfl) (by kernel_rfl) ?_
                refine CH.go 7 hτ (by kernel_rfl) ?_
                refine CH.endk ⟨[(0, .e (.c (.d (.sl (l.map d59))))), (3, .e (.c (.d (.v (.int .i64 v3))))), (66, .e (.c (.d (.v (.bool (x37.f2 != x5.f4.f0))))))], [], 1088⟩ (by kernel_rfl) (by kernel_rfl) rfl ?_
                refine X.if_ (b := (x37.f2 != x5.f4.f0)) (by kernel_rfl) (fun hb38 => ?_) (fun hb38 => ?_)
                · replace hb38 := bne_iff_ne.1 hb38
                  refine X.seq ?_
                  refine X.rk ⟨[(2, .e (.c (.d (.v (.bool false)))))], [], 1104⟩ hτ hmix (by kernel_rfl) (by kernel_rfl) rfl ?_
                  refine X.ret ?_
                  exact ⟨trivial, _, _, ⟨false, trivial, rfl, rfl⟩, .inl (Ret.mk' [] (by kernel_rfl) (by kernel_rfl) (by kernel_rfl))⟩
                · replace hb38 := bne_eq_false_iff_eq.1 hb38
                  refine X.skip ?_
                  refine X.rk ⟨[(0, .e (.c (.d (.sl (l.map d59))))), (3, .e (.c (.d (.v (.int .i64 (wrap64 (v3 + 1)))))))], [], 1136⟩ hτ hmix (by kernel_rfl) (by kernel_rfl) (s2 := ⟨[(0, .e (.c (.d (.sl (l.map d59))))), (3, .e (.c (.d (.v (.int .i64 (v3 + 1))))))], [], 1136⟩) (congrArg (fun z : Int => (⟨[(0, .e (.c (.d (.sl (l.map d59))))), (3, .e (.c (.d (.v (.int .i64 z)))))], [], 1136⟩ : St)) (show wrap64 (v3 + 1) = (v3 + 1) by rw [w64 (n := (v3 + 1)) (by omega) (by omega)])) ?_
                  refine ⟨⟨(v3 + 1), by first | exact rfl | omega | (dsimp only; omega) | (simp only [List.length_append, List.length_cons, List.length_nil, List.length_set]; omega) | (simp; done) | (simp; omega)⟩, by first | exact rfl | omega | (dsimp only; omega) | (simp only [List.length_append, List.length_cons, List.length_nil, List.length_set]; omega) | (simp; done) | (simp; omega), Wk.mk' [] (by kernel_rfl) (by kernel_rfl) (by kernel_rfl)⟩
            · refine X.skip ?_
              refine X.rk ⟨[(0, .e (.c (.d (.sl (l.map d59))))), (3, .e (.c (.d (.v (.int .i64 (wrap64 (v3 + 1)))))))], [], 800⟩ hτ hmix (by kernel_rfl) (by kernel_rfl) (s2 := ⟨[(0, .e (.c (.d (.sl (l.map d59))))), (3, .e (.c (.d (.v (.int .i64 (v3 + 1))))))], [], 800⟩) (congrArg (fun z : Int => (⟨[(0, .e (.c (.d (.sl (l.map d59))))), (3, .e (.c (.d (.v (.int .i64 z)))))], [], 800⟩ : St)) (show wrap64 (v3 + 1) = (v3 + 1) by rw [w64 (n := (v3 + 1)) (by omega) (by omega)])) ?_
              refine ⟨⟨(v3 + 1), by first | exact rfl | omega | (dsimp only; omega) | (simp only [List.length_append, List.length_cons, List.length_nil, List.length_set]; omega) | (simp; done) | (simp; omega)⟩, by first | exact rfl | omega | (dsimp only; omega) | (simp only [List.length_append, List.length_cons, List.length_nil, List.length_set]; omega) | (simp; done) | (simp; omega), Wk.mk' [] (by kernel_rfl) (by kernel_rfl) (by kernel_rfl)⟩
    · replace hb4 := of_decide_eq_false hb4
      refine X.exit ?_
      refine X.seq ?_
      refine X.rk ⟨[(2, .e (.c (.d (.v (.bool (decide ((((l.map d59).length : Int) : Int) ≤ 400)))))))], [], 224⟩ hτ hmix (by kernel_rfl) (by kernel_rfl) rfl ?_
      refine X.ret ?_
      exact ⟨trivial, _, _, ⟨decide ((((l.map d59).length : Int) : Int) ≤ 400), trivial, rfl, rfl⟩, .inl (Ret.mk' [] (by kernel_rfl) (by kernel_rfl) (by kernel_rfl))⟩
  obtain ⟨_, _, ⟨r0, q1, rfl, rfl⟩, hf⟩ := key
  exact ⟨r0, q1, hf⟩

theorem s_AddTo (l : List S59) (b : S59) (hl : SmL l) (hb : Sm59 b) (hs : l.length < 100000) : ∃ r0 : List S59, ∃ r1 : Bool, (r0.length ≤ l.length + 1 ∧ ∀ x, x ∈ r0 → Sm59 x ∧ (x ∈ l ∨ x = b)) ∧ Fn Try.prog 32 [.e (.c (.d (.sl (l.map d59)))), .e (.agg [.d (.v (.int .i64 b.f0)), .d (.v (.int .i64 b.f1)), .d (.v (.int .i64 b.f2)), .d (.v (.string b.f3)), .d (.v (.int .i64 b.f4.f0)), .d (.v (.int .i64 b.f4.f1)), .d (.sl (b.f4.f2.map dS)), .d (.v (.int .i64 b.f5.f0)), .d (.sl (b.f5.f1.map dS)), .d (.sl (b.f5.f2.map dI)), .d (.sl (b.f6.map d120)), .d (.v (.bool b.f7)), .d (.sl (b.f8.map d122)), .d (.v (.string b.f9))])] (lookH []) (.tup [.c (.ref 64), .c (.d (.v (.bool r1)))]) (lookH [(64, some (.row 14 59 (r0.map d59) false true))]) := by
  have key : ∃ x' h', ((fun x' h' => ∃ r0 : List S59, ∃ r1 : Bool, (r0.length ≤ l.length + 1 ∧ ∀ x, x ∈ r0 → Sm59 x ∧ (x ∈ l ∨ x = b)) ∧ x' = .tup [.c (.ref 64), .c (.d (.v (.bool r1)))] ∧ h' = [(64, some (.row 14 59 (r0.map d59) false true))])) x' h' ∧ Fn Try.prog 32 [.e (.c (.d (.sl (l.map d59)))), .e (.agg [.d (.v (.int .i64 b.f0)), .d (.v (.int .i64 b.f1)), .d (.v (.int .i64 b.f2)), .d (.v (.string b.f3)), .d (.v (.int .i64 b.f4.f0)), .d (.v (.int .i64 b.f4.f1)), .d (.sl (b.f4.f2.map dS)), .d (.v (.int .i64 b.f5.f0)), .d (.sl (b.f5.f1.map dS)), .d (.sl (b.f5.f2.map dI)), .d (.sl (b.f6.map d120)), .d (.v (.bool b.f7)), .d (.sl (b.f8.map d122)), .d (.v (.string b.f9))])] (lookH []) x' (lookH h') := by
    refine Fn.bodyX (N := 63) hτ Try.func32 rfl rfl rfl rfl ?_
    refine X.seq ?_
    refine X.rk ⟨[(0, .e (.c (.d (.sl (l.map d59))))), (3, .pt 64 0 0)], [(64, some (.box [.d (.v (.int .i64 b.f0)), .d (.v (.int .i64 b.f1)), .d (.v (.int .i64 b.f2)), .d (.v (.string b.f3)), .d (.v (.int .i64 b.f4.f0)), .d (.v (.int .i64 b.f4.f1)), .d (.sl (b.f4.f2.map dS)), .d (.v (.int .i64 b.f5.f0)), .d (.sl (b.f5.f1.map dS)), .d (.sl (b.f5.f2.map dI)), .d (.sl (b.f6.map d120)), .d (.v (.bool b.f7)), .d (.sl (b.f8.map d122)), .d (.v (.string b.f9))]))], 112⟩ hτ hmix (by kernel_rfl) (by kernel_rfl) rfl ?_
    refine X.seq ?_
    refine X.seq ?_
    have hm := hl.1
    refine X.rs 3 hτ hmix (by kernel_rfl) ?_
    obtain ⟨r1, hr3, hf2⟩ := s_l10At l b.f0 (by omega)
    replace hr3 := hr3.symm; subst hr3
    have hid := idAt_bd l b.f0
    refine CH.call hf2 Try.func54 ⟨rfl, rfl⟩ [] (by kernel_rfl) (by kernel_rfl) (by kernel_rfl) (by kernel_rfl) ?_
    refine CH.go 1 hτ (by kernel_rfl) ?_
    refine CH.endk ⟨[(0, .e (.c (.d (.sl (l.map d59))))), (3, .pt 64 0 0), (13, .e (.c (.d (.v (.bool (decide (((idAt l b.f0) : Int) ≥ 0)))))))], [(64, some (.box [.d (.v (.int .i64 b.f0)), .d (.v (.int .i64 b.f1)), .d (.v (.int .i64 b.f2)), .d (.v (.string b.f3)), .d (.v (.int .i64 b.f4.f0)), .d (.v (.int .i64 b.f4.f1)), .d (.sl (b.f4.f2.map dS)), .d (.v (.int .i64 b.f5.f0)), .d (.sl (b.f5.f1.map dS)), .d (.sl (b.f5.f2.map dI)), .d (.sl (b.f6.map d120)), .d (.v (.bool b.f7)), .d (.sl (b.f8.map d122)), .d (.v (.string b.f9))]))], 192⟩ (by kernel_rfl) (by kernel_rfl) rfl ?_
    refine X.if_ (b := decide (((idAt l b.f0) : Int) ≥ 0)) (by kernel_rfl) (fun hb5 => ?_) (fun hb5 => ?_)
    · replace hb5 := of_decide_eq_true hb5
      refine X.seq ?_
      refine X.rs 1 hτ hmix (by kernel_rfl) ?_
      obtain ⟨r6, hr8, hf7⟩ := s_l10Copy l (by assumption)
      replace hr8 := hr8.symm; subst hr8
      refine CH.call hf7 Try.func73 ⟨rfl, rfl⟩ [] (by kernel_rfl) (by kernel_rfl) (by kernel_rfl) (by kernel_rfl) ?_
      refine CH.go 2 hτ (by kernel_rfl) ?_
      refine CH.endk ⟨[(4, .e (.c (.ref 208))), (5, .e (.c (.d (.v (.bool false)))))], [(208, some (.row 14 59 (l.map d59) false true))], 256⟩ (by kernel_rfl) (by kernel_rfl) rfl ?_
      refine X.ret ?_
      exact ⟨trivial, _, _, ⟨l, false, by first | exact ⟨by omega, fun x hx => ⟨hl.2 x hx, .inl hx⟩⟩ | exact ⟨by omega, hA⟩, rfl, rfl⟩, .inl (Ret.mk' [(64, 208)] (by kernel_rfl) (by kernel_rfl) (by kernel_rfl))⟩
    · replace hb5 := of_decide_eq_false hb5
      refine X.skip ?_
      refine X.seq ?_
      refine X.rs 1 hτ hmix (by kernel_rfl) ?_
      obtain ⟨r10, hr12, hf11⟩ := s_l10Copy l (by assumption)
      replace hr12 := hr12.symm; subst hr12
      refine CH.call hf11 Try.func73 ⟨rfl, rfl⟩ [] (by kernel_rfl) (by kernel_rfl) (by kernel_rfl) (by kernel_rfl) ?_
      refine CH.go 1 hτ (by kernel_rfl) ?_
      obtain ⟨r14, hr16, hf15⟩ := s_l9Copy b (by assumption)
      replace hr16 := hr16.symm; subst hr16
      refine CH.call hf15 Try.func74 ⟨rfl, rfl⟩ [] (by kernel_rfl) (by kernel_rfl) (by kernel_rfl) (by kernel_rfl) ?_
      refine CH.go 1 hτ (by kernel_rfl) ?_
      have el18 : (l.map d59).length = l.length := List.length_map ..
      have el19 : (([b] : List S59).map d59).length = ([b] : List S59).length := List.length_map ..
      have el20 : ([b] : List S59).length = 1 := rfl
      refine CH.app hτ (rows := (l.map d59)) (rows2 := (([b] : List S59).map d59)) (sz := 14) (bys := 208) false (by kernel_rfl) (by kernel_rfl) (fun h => by cases h) (flat_ok (f := d59) (fun x => rfl)) (by simp only [List.length_map]; first | omega | (simp; omega)) (by kernel_rfl) ?_
      refine CH.go 1 hτ (by kernel_rfl) ?_
      refine CH.endk ⟨[(0, .e (.c (.d (.sl (l.map d59))))), (3, .pt 64 0 0), (6, .e (.c (.ref 272)))], [(64, some (.box [.d (.v (.int .i64 b.f0)), .d (.v (.int .i64 b.f1)), .d (.v (.int .i64 b.f2)), .d (.v (.string b.f3)), .d (.v (.int .i64 b.f4.f0)), .d (.v (.int .i64 b.f4.f1)), .d (.sl (b.f4.f2.map dS)), .d (.v (.int .i64 b.f5.f0)), .d (.sl (b.f5.f1.map dS)), .d (.sl (b.f5.f2.map dI)), .d (.sl (b.f6.map d120)), .d (.v (.bool b.f7)), .d (.sl (b.f8.map d122)), .d (.v (.string b.f9))])), (272, some (.row 14 59 ((l.map d59) ++ (([b] : List S59).map d59)) false true))], 304⟩ (by kernel_rfl) (by kernel_rfl) (s2 := ⟨[(0, .e (.c (.d (.sl (l.map d59))))), (3, .pt 64 0 0), (6, .e (.c (.ref 272)))], [(64, some (.box [.d (.v (.int .i64 b.f0)), .d (.v (.int .i64 b.f1)), .d (.v (.int .i64 b.f2)), .d (.v (.string b.f3)), .d (.v (.int .i64 b.f4.f0)), .d (.v (.int .i64 b.f4.f1)), .d (.sl (b.f4.f2.map dS)), .d (.v (.int .i64 b.f5.f0)), .d (.sl (b.f5.f1.map dS)), .d (.sl (b.f5.f2.map dI)), .d (.sl (b.f6.map d120)), .d (.v (.bool b.f7)), .d (.sl (b.f8.map d122)), .d (.v (.string b.f9))])), (272, some (.row 14 59 ((l ++ ([b] : List S59)).map d59) false true))], 304⟩) (congrArg (fun z : List (List D) => (⟨[(0, .e (.c (.d (.sl (l.map d59))))), (3, .pt 64 0 0), (6, .e (.c (.ref 272)))], [(64, some (.box [.d (.v (.int .i64 b.f0)), .d (.v (.int .i64 b.f1)), .d (.v (.int .i64 b.f2)), .d (.v (.string b.f3)), .d (.v (.int .i64 b.f4.f0)), .d (.v (.int .i64 b.f4.f1)), .d (.sl (b.f4.f2.map dS)), .d (.v (.int .i64 b.f5.f0)), .d (.sl (b.f5.f1.map dS)), .d (.sl (b.f5.f2.map dI)), .d (.sl (b.f6.map d120)), .d (.v (.bool b.f7)), .d (.sl (b.f8.map d122)), .d (.v (.string b.f9))])), (272, some (.row 14 59 z false true))], 304⟩ : St)) (show (l.map d59) ++ (([b] : List S59).map d59) = ((l ++ ([b] : List S59)).map d59) from List.map_append.symm)) ?_
      refine X.seq ?_
      have el21 : ((l ++ ([b] : List S59)).map d59).length = (l ++ ([b] : List S59)).length := List.length_map ..
      have el22 : (l ++ ([b] : List S59)).length = l.length + ([b] : List S59).length := List.length_append
      have el23 : ([b] : List S59).length = 1 := rfl
      refine X.rk ⟨[(0, .e (.c (.d (.sl (l.map d59))))), (3, .pt 64 0 0), (6, .e (.c (.ref 272))), (7, .e (.c (.d (.v (.int .i64 (wrap64 ((((l ++ ([b] : List S59)).map d59).length : Int) - 1)))))))], [(64, some (.box [.d (.v (.int .i64 b.f0)), .d (.v (.int .i64 b.f1)), .d (.v (.int .i64 b.f2)), .d (.v (.string b.f3)), .d (.v (.int .i64 b.f4.f0)), .d (.v (.int .i64 b.f4.f1)), .d (.sl (b.f4.f2.map dS)), .d (.v (.int .i64 b.f5.f0)), .d (.sl (b.f5.f1.map dS)), .d (.sl (b.f5.f2.map dI)), .d (.sl (b.f6.map d120)), .d (.v (.bool b.f7)), .d (.sl (b.f8.map d122)), .d (.v (.string b.f9))])), (272, some (.row 14 59 ((l ++ ([b] : List S59)).map d59) false true))], 368⟩ hτ hmix (by kernel_rfl) (by kernel_rfl) (s2 := ⟨[(0, .e (.c (.d (.sl (l.map d59))))), (3, .pt 64 0 0), (6, .e (.c (.ref 272))), (7, .e (.c (.d (.v (.int .i64 ((((l ++ ([b] : List S59)).map d59).length : Int) - 1))))))], [(64, some (.box [.d (.v (.int .i64 b.f0)), .d (.v (.int .i64 b.f1)), .d (.v (.int .i64 b.f2)), .d (.v (.string b.f3)), .d (.v (.int .i64 b.f4.f0)), .d (.v (.int .i64 b.f4.f1)), .d (.sl (b.f4.f2.map dS)), .d (.v (.int .i64 b.f5.f0)), .d (.sl (b.f5.f1.map dS)), .d (.sl (b.f5.f2.map dI)), .d (.sl (b.f6.map d120)), .d (.v (.bool b.f7)), .d (.sl (b.f8.map d122)), .d (.v (.string b.f9))])), (272, some (.row 14 59 ((l ++ ([b] : List S59)).map d59) false true))], 368⟩) (congrArg (fun z : Int => (⟨[(0, .e (.c (.d (.sl (l.map d59))))), (3, .pt 64 0 0), (6, .e (.c (.ref 272))), (7, .e (.c (.d (.v (.int .i64 z)))))], [(64, some (.box [.d (.v (.int .i64 b.f0)), .d (.v (.int .i64 b.f1)), .d (.v (.int .i64 b.f2)), .d (.v (.string b.f3)), .d (.v (.int .i64 b.f4.f0)), .d (.v (.int .i64 b.f4.f1)), .d (.sl (b.f4.f2.map dS)), .d (.v (.int .i64 b.f5.f0)), .d (.sl (b.f5.f1.map dS)), .d (.sl (b.f5.f2.map dI)), .d (.sl (b.f6.map d120)), .d (.v (.bool b.f7)), .d (.sl (b.f8.map d122)), .d (.v (.string b.f9))])), (272, some (.row 14 59 ((l ++ ([b] : List S59)).map d59) false true))], 368⟩ : St)) (show wrap64 ((((l ++ ([b] : List S59)).map d59).length : Int) - 1) = ((((l ++ ([b] : List S59)).map d59).length : Int) - 1) by rw [w64 (n := ((((l ++ ([b] : List S59)).map d59).length : Int) - 1)) (by omega) (by omega)])) ?_
      refine X.seq ?_
      refine X.block ?_
      -- 5: Lv6 : List S59, v7 : Int
      refine X.loop (σ := { g : (List S59) × Int // (fun (Lv6 : List S59) (v7 : Int) => v7 < Lv6.length ∧ Lv6.length = l.length + 1 ∧ ∀ x, x ∈ Lv6 → Sm59 x ∧ (x ∈ l ∨ x = b)) g.1 g.2 }) (fun g => (fun (Lv6 : List S59) (v7 : Int) => ⟨[(0, .e (.c (.d (.sl (l.map d59))))), (3, .pt 64 0 0), (6, .e (.c (.ref 272))), (7, .e (.c (.d (.v (.int .i64 v7)))))], [(64, some (.box [.d (.v (.int .i64 b.f0)), .d (.v (.int .i64 b.f1)), .d (.v (.int .i64 b.f2)), .d (.v (.string b.f3)), .d (.v (.int .i64 b.f4.f0)), .d (.v (.int .i64 b.f4.f1)), .d (.sl (b.f4.f2.map dS)), .d (.v (.int .i64 b.f5.f0)), .d (.sl (b.f5.f1.map dS)), .d (.sl (b.f5.f2.map dI)), .d (.sl (b.f6.map d120)), .d (.v (.bool b.f7)), .d (.sl (b.f8.map d122)), .d (.v (.string b.f9))])), (272, some (.row 14 59 (Lv6.map d59) false true))], 368⟩) g.1.1 g.1.2) (fun g => (fun (Lv6 : List S59) (v7 : Int) => v7.toNat) g.1.1 g.1.2) ⟨((l ++ ([b] : List S59)), ((((l ++ ([b] : List S59)).map d59).length : Int) - 1)), ⟨by simp; omega, by simp, all_app (fun x hx => ⟨hl.2 x hx, .inl hx⟩) (all_one ⟨hb, .inr rfl⟩)⟩⟩ (Wk.less (by kernel_rfl)) (fun g => ?_)
      obtain ⟨⟨Lv6, v7⟩, hg25⟩ := g
      have hg25 : v7 < Lv6.length ∧ Lv6.length = l.length + 1 ∧ ∀ x, x ∈ Lv6 → Sm59 x ∧ (x ∈ l ∨ x = b) := hg25
      obtain ⟨_, _, hA⟩ := hg25
      refine X.seq ?_
      refine X.seq ?_
      refine X.rs 3 hτ hmix (by kernel_rfl) ?_
      rcases Bool.eq_false_or_eq_true (decide ((v7 : Int) > 0)) with hb26 | hb26
      · refine CH.alt 26 (sV (.bool (decide ((v7 : Int) > 0)))) (sV (.bool true)) (by kernel_rfl) (by rw [hb26]) ?_
        refine CH.alt 27 (sV (.bool (decide ((v7 : Int) > 0)))) (sV (.bool true)) (by kernel_rfl) (by rw [hb26]) ?_
        replace hb26 := of_decide_eq_true hb26
        refine CH.go 3 hτ (by kernel_rfl) ?_
        refine CH.alt 30 (sV (.int .i64 (wrap64 (v7 - 1)))) (sV (.int .i64 ((v7 - 1)))) (by kernel_rfl) (by rw [w64 (n := (v7 - 1)) (by omega) (by omega)]) ?_
        refine CH.idxR hτ (rows := (Lv6.map d59)) (n := (v7 - 1)) (b := 272) (by kernel_rfl) (by kernel_rfl) (by first | omega | (simp; done) | (simp; omega)) (by simp only [List.length_map]; first | omega | (simp; done) | (simp; omega)) (by kernel_rfl) ?_
        refine CH.go 1 hτ (by kernel_rfl) ?_
        obtain ⟨x27, hx27⟩ : ∃ x, Lv6[Int.toNat (v7 - 1)]? = some x := ⟨_, List.getElem?_eq_getElem (by first | omega | (simp; done) | (simp; omega))⟩
        refine CH.row hτ (d59 x27) (by kernel_rfl) (by kernel_rfl) (by rw [List.getElem?_map, hx27]; rfl) (by kernel_rfl) ?_
        refine CH.go 4 hτ (by kernel_rfl) ?_
        refine CH.endk ⟨[(0, .e (.c (.d (.sl (l.map d59))))), (3, .pt 64 0 0), (6, .e (.c (.ref 272))), (7, .e (.c (.d (.v (.int .i64 v7))))), (37, .e (.c (.d (.v (.bool (decide ((x27.f0 : Int) > b.f0)))))))], [(64, some (.box [.d (.v (.int .i64 b.f0)), .d (.v (.int .i64 b.f1)), .d (.v (.int .i64 b.f2)), .d (.v (.string b.f3)), .d (.v (.int .i64 b.f4.f0)), .d (.v (.int .i64 b.f4.f1)), .d (.sl (b.f4.f2.map dS)), .d (.v (.int .i64 b.f5.f0)), .d (.sl (b.f5.f1.map dS)), .d (.sl (b.f5.f2.map dI)), .d (.sl (b.f6.map d120)), .d (.v (.bool b.f7)), .d (.sl (b.f8.map d122)), .d (.v (.string b.f9))])), (272, some (.row 14 59 (Lv6.map d59) false true))], 576⟩ (by kernel_rfl) (by kernel_rfl) rfl ?_
        refine X.if_ (b := decide ((x27.f0 : Int) > b.f0)) (by kernel_rfl) (fun hb28 => ?_) (fun hb28 => ?_)
        · replace hb28 := of_decide_eq_true hb28
          refine X.skip ?_
          refine X.block ?_
          refine X.seq ?_
          refine X.rs 3 hτ hmix (by kernel_rfl) ?_
          refine CH.alt 40 (sV (.int .i64 (wrap64 (v7 - 1)))) (sV (.int .i64 ((v7 - 1)))) (by kernel_rfl) (by rw [w64 (n := (v7 - 1)) (by omega) (by omega)]) ?_
          refine CH.idxR hτ (rows := (Lv6.map d59)) (n := (v7 - 1)) (b := 272) (by kernel_rfl) (by kernel_rfl) (by first | omega | (simp; done) | (simp; omega)) (by simp only [List.length_map]; first | omega | (simp; done) | (simp; omega)) (by kernel_rfl) ?_
          refine CH.row hτ (d59 x27) (by kernel_rfl) (by kernel_rfl) (by rw [List.getElem?_map, hx27]; rfl) (by kernel_rfl) ?_
          refine CH.go 2 hτ (by kernel_rfl) ?_
          refine CH.endk ⟨[(0, .e (.c (.d (.sl (l.map d59))))), (3, .pt 64 0 0), (6, .e (.c (.ref 272))), (7, .e (.c (.d (.v (.int .i64 v7))))), (8, .pt 656 0 0)], [(64, some (.box [.d (.v (.int .i64 b.f0)), .d (.v (.int .i64 b.f1)), .d (.v (.int .i64 b.f2)), .d (.v (.string b.f3)), .d (.v (.int .i64 b.f4.f0)), .d (.v (.int .i64 b.f4.f1)), .d (.sl (b.f4.f2.map dS)), .d (.v (.int .i64 b.f5.f0)), .d (.sl (b.f5.f1.map dS)), .d (.sl (b.f5.f2.map dI)), .d (.sl (b.f6.map d120)), .d (.v (.bool b.f7)), .d (.sl (b.f8.map d122)), .d (.v (.string b.f9))])), (272, some (.row 14 59 (Lv6.map d59) false true)), (656, some (.box [.f (.v (.int .i64 x27.f0)), .f (.v (.int .i64 x27.f1)), .f (.v (.int .i64 x27.f2)), .f (.v (.string x27.f3)), .f (.v (.int .i64 x27.f4.f0)), .f (.v (.int .i64 x27.f4.f1)), .f (.sl (x27.f4.f2.map dS)), .f (.v (.int .i64 x27.f5.f0)), .f (.sl (x27.f5.f1.map dS)), .f (.sl (x27.f5.f2.map dI)), .f (.sl (x27.f6.map d120)), .f (.v (.bool x27.f7)), .f (.sl (x27.f8.map d122)), .f (.v (.string x27.f9))]))], 688⟩ (by kernel_rfl) (by kernel_rfl) rfl ?_
          refine X.seq ?_
          refine X.rs 5 hτ hmix (by kernel_rfl) ?_
          refine CH.idxR hτ (rows := (Lv6.map d59)) (n := v7) (b := 272) (by kernel_rfl) (by kernel_rfl) (by first | omega | (simp; done) | (simp; omega)) (by simp only [List.length_map]; first | omega | (simp; done) | (simp; omega)) (by kernel_rfl) ?_
          obtain ⟨x29, hx29⟩ : ∃ x, Lv6[Int.toNat v7]? = some x := ⟨_, List.getElem?_eq_getElem (by first | omega | (simp; done) | (simp; omega))⟩
          refine CH.row hτ (d59 x29) (by kernel_rfl) (by kernel_rfl) (by rw [List.getElem?_map, hx29]; rfl) (by kernel_rfl) ?_
          refine CH.alt 45 (sV (.int .i64 (wrap64 (v7 - 1)))) (sV (.int .i64 ((v7 - 1)))) (by kernel_rfl) (by rw [w64 (n := (v7 - 1)) (by omega) (by omega)]) ?_
          refine CH.idxR hτ (rows := (Lv6.map d59)) (n := (v7 - 1)) (b := 272) (by kernel_rfl) (by kernel_rfl) (by first | omega | (simp; done) | (simp; omega)) (by simp only [List.length_map]; first | omega | (simp; done) | (simp; omega)) (by kernel_rfl) ?_
          refine CH.row hτ (d59 x27) (by kernel_rfl) (by kernel_rfl) (by rw [List.getElem?_map, hx27]; rfl) (by kernel_rfl) ?_
          refine CH.endk ⟨[(0, .e (.c (.d (.sl (l.map d59))))), (3, .pt 64 0 0), (6, .e (.c (.ref 272))), (7, .e (.c (.d (.v (.int .i64 v7))))), (8, .pt 656 0 0)], [(64, some (.box [.d (.v (.int .i64 b.f0)), .d (.v (.int .i64 b.f1)), .d (.v (.int .i64 b.f2)), .d (.v (.string b.f3)), .d (.v (.int .i64 b.f4.f0)), .d (.v (.int .i64 b.f4.f1)), .d (.sl (b.f4.f2.map dS)), .d (.v (.int .i64 b.f5.f0)), .d (.sl (b.f5.f1.map dS)), .d (.sl (b.f5.f2.map dI)), .d (.sl (b.f6.map d120)), .d (.v (.bool b.f7)), .d (.sl (b.f8.map d122)), .d (.v (.string b.f9))])), (272, some (.row 14 59 ((Lv6.map d59).set (Int.toNat (v7 - 1)) (d59 x29)) false true)), (656, some (.box [.f (.v (.int .i64 x27.f0)), .f (.v (.int .i64 x27.f1)), .f (.v (.int .i64 x27.f2)), .f (.v (.string x27.f3)), .f (.v (.int .i64 x27.f4.f0)), .f (.v (.int .i64 x27.f4.f1)), .f (.sl (x27.f4.f2.map dS)), .f (.v (.int .i64 x27.f5.f0)), .f (.sl (x27.f5.f1.map dS)), .f (.sl (x27.f5.f2.map dI)), .f (.sl (x27.f6.map d120)), .f (.v (.bool x27.f7)), .f (.sl (x27.f8.map d122)), .f (.v (.string x27.f9))]))], 832⟩ (by kernel_rfl) (by kernel_rfl) (s2 := ⟨[(0, .e (.c (.d (.sl (l.map d59))))), (3, .pt 64 0 0), (6, .e (.c (.ref 272))), (7, .e (.c (.d (.v (.int .i64 v7))))), (8, .pt 656 0 0)], [(64, some (.box [.d (.v (.int .i64 b.f0)), .d (.v (.int .i64 b.f1)), .d (.v (.int .i64 b.f2)), .d (.v (.string b.f3)), .d (.v (.int .i64 b.f4.f0)), .d (.v (.int .i64 b.f4.f1)), .d (.sl (b.f4.f2.map dS)), .d (.v (.int .i64 b.f5.f0)), .d (.sl (b.f5.f1.map dS)), .d (.sl (b.f5.f2.map dI)), .d (.sl (b.f6.map d120)), .d (.v (.bool b.f7)), .d (.sl (b.f8.map d122)), .d (.v (.string b.f9))])), (272, some (.row 14 59 ((Lv6.set (Int.toNat (v7 - 1)) x29).map d59) false true)), (656, some (.box [.f (.v (.int .i64 x27.f0)), .f (.v (.int .i64 x27.f1)), .f (.v (.int .i64 x27.f2)), .f (.v (.string x27.f3)), .f (.v (.int .i64 x27.f4.f0)), .f (.v (.int .i64 x27.f4.f1)), .f (.sl (x27.f4.f2.map dS)), .f (.v (.int .i64 x27.f5.f0)), .f (.sl (x27.f5.f1.map dS)), .f (.sl (x27.f5.f2.map dI)), .f (.sl (x27.f6.map d120)), .f (.v (.bool x27.f7)), .f (.sl (x27.f8.map d122)), .f (.v (.string x27.f9))]))], 832⟩) (congrArg (fun z : List (List D) => (⟨[(0, .e (.c (.d (.sl (l.map d59))))), (3, .pt 64 0 0), (6, .e (.c (.ref 272))), (7, .e (.c (.d (.v (.int .i64 v7))))), (8, .pt 656 0 0)], [(64, some (.box [.d (.v (.int .i64 b.f0)), .d (.v (.int .i64 b.f1)), .d (.v (.int .i64 b.f2)), .d (.v (.string b.f3)), .d (.v (.int .i64 b.f4.f0)), .d (.v (.int .i64 b.f4.f1)), .d (.sl (b.f4.f2.map dS)), .d (.v (.int .i64 b.f5.f0)), .d (.sl (b.f5.f1.map dS)), .d (.sl (b.f5.f2.map dI)), .d (.sl (b.f6.map d120)), .d (.v (.bool b.f7)), .d (.sl (b.f8.map d122)), .d (.v (.string b.f9))])), (272, some (.row 14 59 z false true)), (656, some (.box [.f (.v (.int .i64 x27.f0)), .f (.v (.int .i64 x27.f1)), .f (.v (.int .i64 x27.f2)), .f (.v (.string x27.f3)), .f (.v (.int .i64 x27.f4.f0)), .f (.v (.int .i64 x27.f4.f1)), .f (.sl (x27.f4.f2.map dS)), .f (.v (.int .i64 x27.f5.f0)), .f (.sl (x27.f5.f1.map dS)), .f (.sl (x27.f5.f2.map dI)), .f (.sl (x27.f6.map d120)), .f (.v (.bool x27.f7)), .f (.sl (x27.f8.map d122)), .f (.v (.string x27.f9))]))], 832⟩ : St)) (show ((Lv6.map d59).set (Int.toNat (v7 - 1)) (d59 x29)) = ((Lv6.set (Int.toNat (v7 - 1)) x29).map d59) from List.map_set.symm)) ?_
          refine X.seq ?_
          refine X.rs 3 hτ hmix (by kernel_rfl) ?_
          refine CH.idxR hτ (rows := ((Lv6.set (Int.toNat (v7 - 1)) x29).map d59)) (n := v7) (b := 272) (by kernel_rfl) (by kernel_rfl) (by first | omega | (simp; done) | (simp; omega)) (by simp only [List.length_map]; first | omega | (simp; done) | (simp; omega)) (by kernel_rfl) ?_
          obtain ⟨x30, hx30⟩ : ∃ x, (Lv6.set (Int.toNat (v7 - 1)) x29)[Int.toNat v7]? = some x := ⟨_, List.getElem?_eq_getElem (by first | omega | (simp; done) | (simp; omega))⟩
          refine CH.row hτ (d59 x30) (by kernel_rfl) (by kernel_rfl) (by rw [List.getElem?_map, hx30]; rfl) (by kernel_rfl) ?_
          refine CH.endk ⟨[(0, .e (.c (.d (.sl (l.map d59))))), (3, .pt 64 0 0), (6, .e (.c (.ref 272))), (7, .e (.c (.d (.v (.int .i64 v7)))))], [(64, some (.box [.d (.v (.int .i64 b.f0)), .d (.v (.int .i64 b.f1)), .d (.v (.int .i64 b.f2)), .d (.v (.string b.f3)), .d (.v (.int .i64 b.f4.f0)), .d (.v (.int .i64 b.f4.f1)), .d (.sl (b.f4.f2.map dS)), .d (.v (.int .i64 b.f5.f0)), .d (.sl (b.f5.f1.map dS)), .d (.sl (b.f5.f2.map dI)), .d (.sl (b.f6.map d120)), .d (.v (.bool b.f7)), .d (.sl (b.f8.map d122)), .d (.v (.string b.f9))])), (272, some (.row 14 59 (((Lv6.set (Int.toNat (v7 - 1)) x29).map d59).set (Int.toNat v7) (d59 x27)) false true))], 912⟩ (by kernel_rfl) (by kernel_rfl) (s2 := ⟨[(0, .e (.c (.d (.sl (l.map d59))))), (3, .pt 64 0 0), (6, .e (.c (.ref 272))), (7, .e (.c (.d (.v (.int .i64 v7)))))], [(64, some (.box [.d (.v (.int .i64 b.f0)), .d (.v (.int .i64 b.f1)), .d (.v (.int .i64 b.f2)), .d (.v (.string b.f3)), .d (.v (.int .i64 b.f4.f0)), .d (.v (.int .i64 b.f4.f1)), .d (.sl (b.f4.f2.map dS)), .d (.v (.int .i64 b.f5.f0)), .d (.sl (b.f5.f1.map dS)), .d (.sl (b.f5.f2.map dI)), .d (.sl (b.f6.map d120)), .d (.v (.bool b.f7)), .d (.sl (b.f8.map d122)), .d (.v (.string b.f9))])), (272, some (.row 14 59 (((Lv6.set (Int.toNat (v7 - 1)) x29).set (Int.toNat v7) x27).map d59) false true))], 912⟩) (congrArg (fun z : List (List D) => (⟨[(0, .e (.c (.d (.sl (l.map d59))))), (3, .pt 64 0 0), (6, .e (.c (.ref 272))), (7, .e (.c (.d (.v (.int .i64 v7)))))], [(64, some (.box [.d (.v (.int .i64 b.f0)), .d (.v (.int .i64 b.f1)), .d (.v (.int .i64 b.f2)), .d (.v (.string b.f3)), .d (.v (.int .i64 b.f4.f0)), .d (.v (.int .i64 b.f4.f1)), .d (.sl (b.f4.f2.map dS)), .d (.v (.int .i64 b.f5.f0)), .d (.sl (b.f5.f1.map dS)), .d (.sl (b.f5.f2.map dI)), .d (.sl (b.f6.map d120)), .d (.v (.bool b.f7)), .d (.sl (b.f8.map d122)), .d (.v (.string b.f9))])), (272, some (.row 14 59 z false true))], 912⟩ : St)) (show (((Lv6.set (Int.toNat (v7 - 1)) x29).map d59).set (Int.toNat v7) (d59 x27)) = (((Lv6.set (Int.toNat (v7 - 1)) x29).set (Int.toNat v7) x27).map d59) from List.map_set.symm)) ?_
          refine X.rk ⟨[(0, .e (.c (.d (.sl (l.map d59))))), (3, .pt 64 0 0), (6, .e (.c (.ref 272))), (7, .e (.c (.d (.v (.int .i64 (wrap64 (v7 - 1)))))))], [(64, some (.box [.d (.v (.int .i64 b.f0)), .d (.v (.int .i64 b.f1)), .d (.v (.int .i64 b.f2)), .d (.v (.string b.f3)), .d (.v (.int .i64 b.f4.f0)), .d (.v (.int .i64 b.f4.f1)), .d (.sl (b.f4.f2.map dS)), .d (.v (.int .i64 b.f5.f0)), .d (.sl (b.f5.f1.map dS)), .d (.sl (b.f5.f2.map dI)), .d (.sl (b.f6.map d120)), .d (.v (.bool b.f7)), .d (.sl (b.f8.map d122)), .d (.v (.string b.f9))])), (272, some (.row 14 59 (((Lv6.set (Int.toNat (v7 - 1)) x29).set (Int.toNat v7) x27).map d59) false true))], 960⟩ hτ hmix (by kernel_rfl) (by kernel_rfl) (s2 := ⟨[(0, .e (.c (.d (.sl (l.map d59))))), (3, .pt 64 0 0), (6, .e (.c (.ref 272))), (7, .e (.c (.d (.v (.int .i64 (v7 - 1))))))], [(64, some (.box [.d (.v (.int .i64 b.f0)), .d (.v (.int .i64 b.f1)), .d (.v (.int .i64 b.f2)), .d (.v (.string b.f3)), .d (.v (.int .i64 b.f4.f0)), .d (.v (.int .i64 b.f4.f1)), .d (.sl (b.f4.f2.map dS)), .d (.v (.int .i64 b.f5.f0)), .d (.sl (b.f5.f1.map dS)), .d (.sl (b.f5.f2.map dI)), .d (.sl (b.f6.map d120)), .d (.v (.bool b.f7)), .d (.sl (b.f8.map d122)), .d (.v (.string b.f9))])), (272, some (.row 14 59 (((Lv6.set (Int.toNat (v7 - 1)) x29).set (Int.toNat v7) x27).map d59) false true))], 960⟩) (congrArg (fun z : Int => (⟨[(0, .e (.c (.d (.sl (l.map d59))))), (3, .pt 64 0 0), (6, .e (.c (.ref 272))), (7, .e (.c (.d (.v (.int .i64 z)))))], [(64, some (.box [.d (.v (.int .i64 b.f0)), .d (.v (.int .i64 b.f1)), .d (.v (.int .i64 b.f2)), .d (.v (.string b.f3)), .d (.v (.int .i64 b.f4.f0)), .d (.v (.int .i64 b.f4.f1)), .d (.sl (b.f4.f2.map dS)), .d (.v (.int .i64 b.f5.f0)), .d (.sl (b.f5.f1.map dS)), .d (.sl (b.f5.f2.map dI)), .d (.sl (b.f6.map d120)), .d (.v (.bool b.f7)), .d (.sl (b.f8.map d122)), .d (.v (.string b.f9))])), (272, some (.row 14 59 (((Lv6.set (Int.toNat (v7 - 1)) x29).set (Int.toNat v7) x27).map d59) false true))], 960⟩ : St)) (show wrap64 (v7 - 1) = (v7 - 1) by rw [w64 (n := (v7 - 1)) (by omega) (by omega)])) ?_
          refine ⟨⟨(((Lv6.set (Int.toNat (v7 - 1)) x29).set (Int.toNat v7) x27), (v7 - 1)), ⟨by simp; omega, by simp; omega, all_set (all_set hA (all_at hA ‹_›)) (all_at hA ‹_›)⟩⟩, by first | exact rfl | omega | (dsimp only; omega) | (simp only [List.length_append, List.length_cons, List.length_nil, List.length_set]; omega) | (simp; done) | (simp; omega), Wk.mk' [(64, 64), (272, 272)] (by kernel_rfl) (by kernel_rfl) (by kernel_rfl)⟩
        · replace hb28 := of_decide_eq_false hb28
          refine X.exit ?_
          refine X.seq ?_
          refine X.seq ?_
          refine X.rs 1 hτ hmix (by kernel_rfl) ?_
          obtain ⟨r31, hr33, hf32⟩ := s_TreeOk Lv6 (by exact ⟨by omega, fun x hx => (hA x hx).1⟩)
          refine CH.call hf32 Try.func21 ⟨rfl, rfl⟩ [] (by kernel_rfl) (by kernel_rfl) (by kernel_rfl) (by kernel_rfl) ?_
          refine CH.go 1 hτ (by kernel_rfl) ?_
          refine CH.endk ⟨[(0, .e (.c (.d (.sl (l.map d59))))), (6, .e (.c (.ref 272))), (59, .e (.c (.d (.v (.bool (!r31))))))], [(272, some (.row 14 59 (Lv6.map d59) false true))], 624⟩ (by kernel_rfl) (by kernel_rfl) rfl ?_
          refine X.if_ (b := !r31) (by kernel_rfl) (fun hb34 => ?_) (fun hb34 => ?_)
          · refine X.seq ?_
            refine X.rs 1 hτ hmix (by kernel_rfl) ?_
            obtain ⟨r35, hr37, hf36⟩ := s_l10Copy l (by assumption)
            replace hr37 := hr37.symm; subst hr37
            refine CH.call hf36 Try.func73 ⟨rfl, rfl⟩ [] (by kernel_rfl) (by kernel_rfl) (by kernel_rfl) (by kernel_rfl) ?_
            refine CH.go 2 hτ (by kernel_rfl) ?_
            refine CH.endk ⟨[(4, .e (.c (.ref 640))), (5, .e (.c (.d (.v (.bool false)))))], [(640, some (.row 14 59 (l.map d59) false true))], 688⟩ (by kernel_rfl) (by kernel_rfl) rfl ?_
            refine X.ret ?_
            exact ⟨trivial, _, _, ⟨l, false, by first | exact ⟨by omega, fun x hx => ⟨hl.2 x hx, .inl hx⟩⟩ | exact ⟨by omega, hA⟩, rfl, rfl⟩, .inl (Ret.mk' [(64, 640)] (by kernel_rfl) (by kernel_rfl) (by kernel_rfl))⟩
          · refine X.skip ?_
            refine X.seq ?_
            refine X.rk ⟨[(4, .e (.c (.ref 272))), (5, .e (.c (.d (.v (.bool true)))))], [(272, some (.row 14 59 (Lv6.map d59) false true))], 672⟩ hτ hmix (by kernel_rfl) (by kernel_rfl) rfl ?_
            refine X.ret ?_
            exact ⟨trivial, _, _, ⟨Lv6, true, by first | exact ⟨by omega, fun x hx => ⟨hl.2 x hx, .inl hx⟩⟩ | exact ⟨by omega, hA⟩, rfl, rfl⟩, .inl (Ret.mk' [(64, 272)] (by kernel_rfl) (by kernel_rfl) (by kernel_rfl))⟩
      · refine CH.alt 26 (sV (.bool (decide ((v7 : Int) > 0)))) (sV (.bool false)) (by kernel_rfl) (by rw [hb26]) ?_
        refine CH.alt 27 (sV (.bool (decide ((v7 : Int) > 0)))) (sV (.bool false)) (by kernel_rfl) (by rw [hb26]) ?_
        replace hb26 := of_decide_eq_false hb26
        refine CH.go 10 hτ (by kernel_rfl) ?_
        refine CH.endk ⟨[(0, .e (.c (.d (.sl (l.map d59))))), (3, .pt 64 0 0), (6, .e (.c (.ref 272))), (7, .e (.c (.d (.v (.int .i64 v7))))), (37, .e (.c (.d (.v (.bool false)))))], [(64, some (.box [.d (.v (.int .i64 b.f0)), .d (.v (.int .i64 b.f1)), .d (.v (.int .i64 b.f2)), .d (.v (.string b.f3)), .d (.v (.int .i64 b.f4.f0)), .d (.v (.int .i64 b.f4.f1)), .d (.sl (b.f4.f2.map dS)), .d (.v (.int .i64 b.f5.f0)), .d (.sl (b.f5.f1.map dS)), .d (.sl (b.f5.f2.map dI)), .d (.sl (b.f6.map d120)), .d (.v (.bool b.f7)), .d (.sl (b.f8.map d122)), .d (.v (.string b.f9))])), (272, some (.row 14 59 (Lv6.map d59) false true))], 576⟩ (by kernel_rfl) (by kernel_rfl) rfl ?_
        refine X.ifF (by kernel_rfl) ?_
        refine X.exit ?_
        refine X.seq ?_
        refine X.seq ?_
        refine X.rs 1 hτ hmix (by kernel_rfl) ?_
        obtain ⟨r39, hr41, hf40⟩ := s_TreeOk Lv6 (by exact ⟨by omega, fun x hx => (hA x hx).1⟩)
        refine CH.call hf40 Try.func21 ⟨rfl, rfl⟩ [] (by kernel_rfl) (by kernel_rfl) (by kernel_rfl) (by kernel_rfl) ?_
        refine CH.go 1 hτ (by kernel_rfl) ?_
        refine CH.endk ⟨[(0, .e (.c (.d (.sl (l.map d59))))), (6, .e (.c (.ref 272))), (59, .e (.c (.d (.v (.bool (!r39))))))], [(272, some (.row 14 59 (Lv6.map d59) false true))], 624⟩ (by kernel_rfl) (by kernel_rfl) rfl ?_
        refine X.if_ (b := !r39) (by kernel_rfl) (fun hb42 => ?_) (fun hb42 => ?_)
        · refine X.seq ?_
          refine X.rs 1 hτ hmix (by kernel_rfl) ?_
          obtain ⟨r43, hr45, hf44⟩ := s_l10Copy l (by assumption)
          replace hr45 := hr45.symm; subst hr45
          refine CH.call hf44 Try.func73 ⟨rfl, rfl⟩ [] (by kernel_rfl) (by kernel_rfl) (by kernel_rfl) (by kernel_rfl) ?_
          refine CH.go 2 hτ (by kernel_rfl) ?_
          refine CH.endk ⟨[(4, .e (.c (.ref 640))), (5, .e (.c (.d (.v (.bool false)))))], [(640, some (.row 14 59 (l.map d59) false true))], 688⟩ (by kernel_rfl) (by kernel_rfl) rfl ?_
          refine X.ret ?_
          exact ⟨trivial, _, _, ⟨l, false, by first | exact ⟨by omega, fun x hx => ⟨hl.2 x hx, .inl hx⟩⟩ | exact ⟨by omega, hA⟩, rfl, rfl⟩, .inl (Ret.mk' [(64, 640)] (by kernel_rfl) (by kernel_rfl) (by kernel_rfl))⟩
        · refine X.skip ?_
          refine X.seq ?_
          refine X.rk ⟨[(4, .e (.c (.ref 272))), (5, .e (.c (.d (.v (.bool true)))))], [(272, some (.row 14 59 (Lv6.map d59) false true))], 672⟩ hτ hmix (by kernel_rfl) (by kernel_rfl) rfl ?_
          refine X.ret ?_
          exact ⟨trivial, _, _, ⟨Lv6, true, by first | exact ⟨by omega, fun x hx => ⟨hl.2 x hx, .inl hx⟩⟩ | exact ⟨by omega, hA⟩, rfl, rfl⟩, .inl (Ret.mk' [(64, 272)] (by kernel_rfl) (by kernel_rfl) (by kernel_rfl))⟩
  obtain ⟨_, _, ⟨r0, r1, q1, rfl, rfl⟩, hf⟩ := key
  exact ⟨r0, r1, q1, hf⟩
end Go.Proofs.Ytnldeeefiidcaaa.Av
