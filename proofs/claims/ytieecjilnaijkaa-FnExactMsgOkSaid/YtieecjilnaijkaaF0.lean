/-
The types of the values, and what the reading of an argument gives of each.
Conditions: none.
-/
import Derived.Test.YtieecjilnaijkaaProg
import Derived.Below
import Derived.Deep.Draws
import Derived.Deep.AppendLies
import Derived.Maps.AppendAt
import Derived.OwnWalk
import Derived.Laws.BytesArg
import Derived.Laws.MakeOwn
import Derived.Laws.OwnMore
import Derived.Deep.OwnRows
import Derived.Tactics
import Derived.Lib.ConvBytes
import Derived.Laws.Slices
import Derived.WalkKit
import Derived.KernelRfl
import Derived.RowKit3
import Derived.Deep.LoopGhost
import Derived.Deep.QuietTactic
import Derived.BigQuiet
import Derived.WideLaws
import Derived.Deep.DeepCutAuto
import Derived.Deep.CutBlock
import Derived.Deep.RegionHeld3
import Derived.Laws.Rows
import Derived.Lib.AppendStr
import Derived.ArgAppend
import Derived.Laws.IdiomCopy
import Derived.OrdersHeld
import Derived.Laws.BitsLemmas
import Derived.RowKit
import Derived.Test.YtieecjilnaijkaaWWords
import Derived.Test.YtieecjilnaijkaaWLast
import Derived.Test.YtieecjilnaijkaaWTab
import Derived.Test.YtieecjilnaijkaaWEqStruct
import Derived.Test.YtieecjilnaijkaaWRepsOne
import Derived.Test.YtieecjilnaijkaaWInv
import Derived.Test.YtieecjilnaijkaaWGuard
import Derived.Test.YtieecjilnaijkaaBase
import Derived.Test.YtieecjilnaijkaaOpens
import Derived.Test.YtieecjilnaijkaaStr
import Derived.Test.YtieecjilnaijkaaBW
import Derived.Test.YtieecjilnaijkaaLoose
namespace Go.Proofs.Ytieecjilnaijkaa.F
open Go.RowKit Go.Proofs.YtieecjilnaijkaaW.PrintWords Go.Proofs.YtieecjilnaijkaaW.PrintLast
set_option linter.unusedVariables false
set_option linter.unusedSimpArgs false

def errW : Option Int → Value
  | none => .nilIface
  | some c => .iface 0 (.int .i64 c)
theorem errW_none : errW none = .nilIface := rfl
theorem errW_some (c : Int) : errW (some c) = .iface 0 (.int .i64 c) := rfl

theorem info3 : (Try.prog.info? 3).map (fun i => (i.zero, i.size, i.bytes)) = some (some (.int .i64 0), 1, 8) := by kernel_rfl
theorem info9 : (Try.prog.info? 9).map (fun i => (i.zero, i.size, i.bytes)) = some (some (.string ⟨#[]⟩), 1, 16) := by kernel_rfl
theorem info68 : (Try.prog.info? 68).map (fun i => (i.zero, i.size, i.bytes)) = some (some (.agg #[(.int .i64 0), (.int .i64 0), (.int .i64 0), (.string ⟨#[]⟩), (.int .i64 0), (.int .i64 0), (.slice none 0 0), (.int .i64 0), (.slice none 0 0), (.slice none 0 0), (.slice none 0 0), (.bool false), (.slice none 0 0), (.string ⟨#[]⟩)]), 14, 208) := by kernel_rfl
theorem info93 : (Try.prog.info? 93).map (fun i => (i.zero, i.size, i.bytes)) = some (some (.agg #[(.string ⟨#[]⟩), (.int .i64 0)]), 2, 24) := by kernel_rfl
theorem info106 : (Try.prog.info? 106).map (fun i => (i.zero, i.size, i.bytes)) = some (some (.agg #[(.int .i64 0), (.string ⟨#[]⟩), (.string ⟨#[]⟩), (.int .i64 0), (.int .i64 0)]), 5, 56) := by kernel_rfl
-- the values' own types
/-! #### struct type 92 -/
structure S92 where
  f0 : ByteArray
  f1 : Int
def z92 : S92 := ⟨(⟨#[]⟩ : ByteArray), (0 : Int)⟩
def k92 : Kd S92 := Kd.iso (Kd.pair Kd.string (Kd.int .i64)) (fun x : S92 => (x.f0, x.f1))
theorem k92_open {w : World} {x : S92} {cs : List Value} (h : k92.K w x cs) : cs = [.string x.f0, .int .i64 x.f1] := by
  obtain ⟨_, _, rfl, rfl, rfl⟩ := h
  exact rfl
theorem k92_mk (w : World) (x : S92)  : k92.K w x [.string x.f0, .int .i64 x.f1] := ⟨[.string x.f0], [.int .i64 x.f1], rfl, rfl, rfl⟩
def rd_T92 (xs : List S92) (i : Int) : S92 := xs.getD i.toNat z92
theorem at_T92 {w : World} {A : Option Addr} {n : Nat} {xs : List S92} (h : Kd.C k92 w A n xs) (i : Int) (h0 : 0 ≤ i) (h1 : i < n) : ∃ ad , A = some ad ∧ w.cell? (ad.add (i.toNat * 2)) = some (.string (rd_T92 xs i).f0) ∧ w.cell? ⟨(ad.add (i.toNat * 2)).block, (ad.add (i.toNat * 2)).off + 1, none⟩ = some (.int .i64 (rd_T92 xs i).f1) := by
  obtain ⟨ad, c, e, _, hK, hc0⟩ := Kd.C_get h z92 i h0 h1
  have hc : ∀ j u, c[j]? = some u → w.cell? (ad.add (i.toNat * 2 + j)) = some u := hc0
  obtain rfl := k92_open hK
  exact ⟨ad, e, hc 0 _ rfl, by rw [← add_field _ _ 1 (by omega)]; exact hc 1 _ rfl⟩

/-! #### struct type 93 -/
structure S93 where
  f0 : ByteArray
  f1 : Int
def z93 : S93 := ⟨(⟨#[]⟩ : ByteArray), (0 : Int)⟩
def k93 : Kd S93 := Kd.iso (Kd.pair Kd.string (Kd.int .i64)) (fun x : S93 => (x.f0, x.f1))
theorem k93_open {w : World} {x : S93} {cs : List Value} (h : k93.K w x cs) : cs = [.string x.f0, .int .i64 x.f1] := by
  obtain ⟨_, _, rfl, rfl, rfl⟩ := h
  exact rfl
theorem k93_mk (w : World) (x : S93)  : k93.K w x [.string x.f0, .int .i64 x.f1] := ⟨[.string x.f0], [.int .i64 x.f1], rfl, rfl, rfl⟩
theorem k93_mkM (w : World) (base : Nat) (ok : Nat → Prop) (x : S93)  : k93.M w base ok x [.string x.f0, .int .i64 x.f1] := ⟨[.string x.f0], [.int .i64 x.f1], rfl, rfl, rfl⟩
def rd_T93 (xs : List S93) (i : Int) : S93 := xs.getD i.toNat z93
theorem at_T93 {w : World} {A : Option Addr} {n : Nat} {xs : List S93} (h : Kd.C k93 w A n xs) (i : Int) (h0 : 0 ≤ i) (h1 : i < n) : ∃ ad , A = some ad ∧ w.cell? (ad.add (i.toNat * 2)) = some (.string (rd_T93 xs i).f0) ∧ w.cell? ⟨(ad.add (i.toNat * 2)).block, (ad.add (i.toNat * 2)).off + 1, none⟩ = some (.int .i64 (rd_T93 xs i).f1) := by
  obtain ⟨ad, c, e, _, hK, hc0⟩ := Kd.C_get h z93 i h0 h1
  have hc : ∀ j u, c[j]? = some u → w.cell? (ad.add (i.toNat * 2 + j)) = some u := hc0
  obtain rfl := k93_open hK
  exact ⟨ad, e, hc 0 _ rfl, by rw [← add_field _ _ 1 (by omega)]; exact hc 1 _ rfl⟩

/-! #### struct type 104 -/
structure S104 where
  f0 : Int
  f1 : ByteArray
  f2 : ByteArray
  f3 : Int
  f4 : Int
def z104 : S104 := ⟨(0 : Int), (⟨#[]⟩ : ByteArray), (⟨#[]⟩ : ByteArray), (0 : Int), (0 : Int)⟩
def k104 : Kd S104 := Kd.iso (Kd.pair (Kd.int .i64) (Kd.pair Kd.string (Kd.pair Kd.string (Kd.pair (Kd.int .i64) (Kd.int .i64))))) (fun x : S104 => (x.f0, x.f1, x.f2, x.f3, x.f4))
theorem k104_open {w : World} {x : S104} {cs : List Value} (h : k104.K w x cs) : cs = [.int .i64 x.f0, .string x.f1, .string x.f2, .int .i64 x.f3, .int .i64 x.f4] := by
  obtain ⟨_, _, rfl, rfl, ⟨_, _, rfl, rfl, ⟨_, _, rfl, rfl, ⟨_, _, rfl, rfl, rfl⟩⟩⟩⟩ := h
  exact rfl
theorem k104_mk (w : World) (x : S104)  : k104.K w x [.int .i64 x.f0, .string x.f1, .string x.f2, .int .i64 x.f3, .int .i64 x.f4] := ⟨[.int .i64 x.f0], [.string x.f1, .string x.f2, .int .i64 x.f3, .int .i64 x.f4], rfl, rfl, ⟨[.string x.f1], [.string x.f2, .int .i64 x.f3, .int .i64 x.f4], rfl, rfl, ⟨[.string x.f2], [.int .i64 x.f3, .int .i64 x.f4], rfl, rfl, ⟨[.int .i64 x.f3], [.int .i64 x.f4], rfl, rfl, rfl⟩⟩⟩⟩
def rd_T104 (xs : List S104) (i : Int) : S104 := xs.getD i.toNat z104
theorem at_T104 {w : World} {A : Option Addr} {n : Nat} {xs : List S104} (h : Kd.C k104 w A n xs) (i : Int) (h0 : 0 ≤ i) (h1 : i < n) : ∃ ad , A = some ad ∧ w.cell? (ad.add (i.toNat * 5)) = some (.int .i64 (rd_T104 xs i).f0) ∧ w.cell? ⟨(ad.add (i.toNat * 5)).block, (ad.add (i.toNat * 5)).off + 1, none⟩ = some (.string (rd_T104 xs i).f1) ∧ w.cell? ⟨(ad.add (i.toNat * 5)).block, (ad.add (i.toNat * 5)).off + 2, none⟩ = some (.string (rd_T104 xs i).f2) ∧ w.cell? ⟨(ad.add (i.toNat * 5)).block, (ad.add (i.toNat * 5)).off + 3, none⟩ = some (.int .i64 (rd_T104 xs i).f3) ∧ w.cell? ⟨(ad.add (i.toNat * 5)).block, (ad.add (i.toNat * 5)).off + 4, none⟩ = some (.int .i64 (rd_T104 xs i).f4) := by
  obtain ⟨ad, c, e, _, hK, hc0⟩ := Kd.C_get h z104 i h0 h1
  have hc : ∀ j u, c[j]? = some u → w.cell? (ad.add (i.toNat * 5 + j)) = some u := hc0
  obtain rfl := k104_open hK
  exact ⟨ad, e, hc 0 _ rfl, by rw [← add_field _ _ 1 (by omega)]; exact hc 1 _ rfl, by rw [← add_field _ _ 2 (by omega)]; exact hc 2 _ rfl, by rw [← add_field _ _ 3 (by omega)]; exact hc 3 _ rfl, by rw [← add_field _ _ 4 (by omega)]; exact hc 4 _ rfl⟩

/-! #### struct type 106 -/
structure S106 where
  f0 : Int
  f1 : ByteArray
  f2 : ByteArray
  f3 : Int
  f4 : Int
def z106 : S106 := ⟨(0 : Int), (⟨#[]⟩ : ByteArray), (⟨#[]⟩ : ByteArray), (0 : Int), (0 : Int)⟩
def k106 : Kd S106 := Kd.iso (Kd.pair (Kd.int .i64) (Kd.pair Kd.string (Kd.pair Kd.string (Kd.pair (Kd.int .i64) (Kd.int .i64))))) (fun x : S106 => (x.f0, x.f1, x.f2, x.f3, x.f4))
theorem k106_open {w : World} {x : S106} {cs : List Value} (h : k106.K w x cs) : cs = [.int .i64 x.f0, .string x.f1, .string x.f2, .int .i64 x.f3, .int .i64 x.f4] := by
  obtain ⟨_, _, rfl, rfl, ⟨_, _, rfl, rfl, ⟨_, _, rfl, rfl, ⟨_, _, rfl, rfl, rfl⟩⟩⟩⟩ := h
  exact rfl
theorem k106_mk (w : World) (x : S106)  : k106.K w x [.int .i64 x.f0, .string x.f1, .string x.f2, .int .i64 x.f3, .int .i64 x.f4] := ⟨[.int .i64 x.f0], [.string x.f1, .string x.f2, .int .i64 x.f3, .int .i64 x.f4], rfl, rfl, ⟨[.string x.f1], [.string x.f2, .int .i64 x.f3, .int .i64 x.f4], rfl, rfl, ⟨[.string x.f2], [.int .i64 x.f3, .int .i64 x.f4], rfl, rfl, ⟨[.int .i64 x.f3], [.int .i64 x.f4], rfl, rfl, rfl⟩⟩⟩⟩
theorem k106_mkM (w : World) (base : Nat) (ok : Nat → Prop) (x : S106)  : k106.M w base ok x [.int .i64 x.f0, .string x.f1, .string x.f2, .int .i64 x.f3, .int .i64 x.f4] := ⟨[.int .i64 x.f0], [.string x.f1, .string x.f2, .int .i64 x.f3, .int .i64 x.f4], rfl, rfl, ⟨[.string x.f1], [.string x.f2, .int .i64 x.f3, .int .i64 x.f4], rfl, rfl, ⟨[.string x.f2], [.int .i64 x.f3, .int .i64 x.f4], rfl, rfl, ⟨[.int .i64 x.f3], [.int .i64 x.f4], rfl, rfl, rfl⟩⟩⟩⟩
def rd_T106 (xs : List S106) (i : Int) : S106 := xs.getD i.toNat z106
theorem at_T106 {w : World} {A : Option Addr} {n : Nat} {xs : List S106} (h : Kd.C k106 w A n xs) (i : Int) (h0 : 0 ≤ i) (h1 : i < n) : ∃ ad , A = some ad ∧ w.cell? (ad.add (i.toNat * 5)) = some (.int .i64 (rd_T106 xs i).f0) ∧ w.cell? ⟨(ad.add (i.toNat * 5)).block, (ad.add (i.toNat * 5)).off + 1, none⟩ = some (.string (rd_T106 xs i).f1) ∧ w.cell? ⟨(ad.add (i.toNat * 5)).block, (ad.add (i.toNat * 5)).off + 2, none⟩ = some (.string (rd_T106 xs i).f2) ∧ w.cell? ⟨(ad.add (i.toNat * 5)).block, (ad.add (i.toNat * 5)).off + 3, none⟩ = some (.int .i64 (rd_T106 xs i).f3) ∧ w.cell? ⟨(ad.add (i.toNat * 5)).block, (ad.add (i.toNat * 5)).off + 4, none⟩ = some (.int .i64 (rd_T106 xs i).f4) := by
  obtain ⟨ad, c, e, _, hK, hc0⟩ := Kd.C_get h z106 i h0 h1
  have hc : ∀ j u, c[j]? = some u → w.cell? (ad.add (i.toNat * 5 + j)) = some u := hc0
  obtain rfl := k106_open hK
  exact ⟨ad, e, hc 0 _ rfl, by rw [← add_field _ _ 1 (by omega)]; exact hc 1 _ rfl, by rw [← add_field _ _ 2 (by omega)]; exact hc 2 _ rfl, by rw [← add_field _ _ 3 (by omega)]; exact hc 3 _ rfl, by rw [← add_field _ _ 4 (by omega)]; exact hc 4 _ rfl⟩

/-! #### struct type 54 -/
structure S54 where
  f0 : Int
  f1 : Int
  f2 : (List ByteArray)
def z54 : S54 := ⟨(0 : Int), (0 : Int), ([] : List ByteArray)⟩
def k54 : Kd S54 := Kd.iso (Kd.pair (Kd.int .i64) (Kd.pair (Kd.int .i64) (Kd.slice 9 Kd.string))) (fun x : S54 => (x.f0, x.f1, x.f2))
theorem k54_open {w : World} {x : S54} {cs : List Value} (h : k54.K w x cs) : ∃ A2 c2, cs = [.int .i64 x.f0, .int .i64 x.f1, .slice A2 x.f2.length c2] ∧ x.f2.length ≤ c2 ∧ Kd.string.C w A2 x.f2.length x.f2 := by
  obtain ⟨_, _, rfl, rfl, ⟨_, _, rfl, rfl, ⟨A2, c2, rfl, l2, g2⟩⟩⟩ := h
  exact ⟨A2, c2, rfl, l2, g2⟩
theorem k54_mk (w : World) (x : S54) {A2 : Option Addr} {c2 : Nat} (l2 : x.f2.length ≤ c2) (g2 : Kd.string.C w A2 x.f2.length x.f2) : k54.K w x [.int .i64 x.f0, .int .i64 x.f1, .slice A2 x.f2.length c2] := ⟨[.int .i64 x.f0], [.int .i64 x.f1, .slice A2 x.f2.length c2], rfl, rfl, ⟨[.int .i64 x.f1], [.slice A2 x.f2.length c2], rfl, rfl, ⟨A2, c2, rfl, l2, g2⟩⟩⟩
/-! #### struct type 33 -/
structure S33 where
  f0 : Int
  f1 : (List ByteArray)
  f2 : (List Int)
def z33 : S33 := ⟨(0 : Int), ([] : List ByteArray), ([] : List Int)⟩
def k33 : Kd S33 := Kd.iso (Kd.pair (Kd.int .i64) (Kd.pair (Kd.slice 9 Kd.string) (Kd.slice 3 (Kd.int .i64)))) (fun x : S33 => (x.f0, x.f1, x.f2))
theorem k33_open {w : World} {x : S33} {cs : List Value} (h : k33.K w x cs) : ∃ A1 c1 A2 c2, cs = [.int .i64 x.f0, .slice A1 x.f1.length c1, .slice A2 x.f2.length c2] ∧ x.f1.length ≤ c1 ∧ Kd.string.C w A1 x.f1.length x.f1 ∧ x.f2.length ≤ c2 ∧ (Kd.int .i64).C w A2 x.f2.length x.f2 := by
  obtain ⟨_, _, rfl, rfl, ⟨_, _, rfl, ⟨A1, c1, rfl, l1, g1⟩, ⟨A2, c2, rfl, l2, g2⟩⟩⟩ := h
  exact ⟨A1, c1, A2, c2, rfl, l1, g1, l2, g2⟩
theorem k33_mk (w : World) (x : S33) {A1 : Option Addr} {c1 : Nat} (l1 : x.f1.length ≤ c1) (g1 : Kd.string.C w A1 x.f1.length x.f1) {A2 : Option Addr} {c2 : Nat} (l2 : x.f2.length ≤ c2) (g2 : (Kd.int .i64).C w A2 x.f2.length x.f2) : k33.K w x [.int .i64 x.f0, .slice A1 x.f1.length c1, .slice A2 x.f2.length c2] := ⟨[.int .i64 x.f0], [.slice A1 x.f1.length c1, .slice A2 x.f2.length c2], rfl, rfl, ⟨[.slice A1 x.f1.length c1], [.slice A2 x.f2.length c2], rfl, ⟨A1, c1, rfl, l1, g1⟩, ⟨A2, c2, rfl, l2, g2⟩⟩⟩
/-! #### struct type 64 -/
structure S64 where
  f0 : Int
  f1 : Int
  f2 : Int
  f3 : ByteArray
  f4 : S54
  f5 : S33
  f6 : (List S104)
  f7 : Bool
  f8 : (List S92)
  f9 : ByteArray
def z64 : S64 := ⟨(0 : Int), (0 : Int), (0 : Int), (⟨#[]⟩ : ByteArray), z54, z33, ([] : List S104), false, ([] : List S92), (⟨#[]⟩ : ByteArray)⟩
def k64 : Kd S64 := Kd.iso (Kd.pair (Kd.int .i64) (Kd.pair (Kd.int .i64) (Kd.pair (Kd.int .i64) (Kd.pair Kd.string (Kd.pair k54 (Kd.pair k33 (Kd.pair (Kd.slice 104 k104) (Kd.pair Kd.bool (Kd.pair (Kd.slice 92 k92) Kd.string))))))))) (fun x : S64 => (x.f0, x.f1, x.f2, x.f3, x.f4, x.f5, x.f6, x.f7, x.f8, x.f9))
theorem k64_open {w : World} {x : S64} {cs : List Value} (h : k64.K w x cs) : ∃ A6 c6 A8 c8 A9 c9 A10 c10 A12 c12, cs = [.int .i64 x.f0, .int .i64 x.f1, .int .i64 x.f2, .string x.f3, .int .i64 x.f4.f0, .int .i64 x.f4.f1, .slice A6 x.f4.f2.length c6, .int .i64 x.f5.f0, .slice A8 x.f5.f1.length c8, .slice A9 x.f5.f2.length c9, .slice A10 x.f6.length c10, .bool x.f7, .slice A12 x.f8.length c12, .string x.f9] ∧ x.f4.f2.length ≤ c6 ∧ Kd.string.C w A6 x.f4.f2.length x.f4.f2 ∧ x.f5.f1.length ≤ c8 ∧ Kd.string.C w A8 x.f5.f1.length x.f5.f1 ∧ x.f5.f2.length ≤ c9 ∧ (Kd.int .i64).C w A9 x.f5.f2.length x.f5.f2 ∧ x.f6.length ≤ c10 ∧ k104.C w A10 x.f6.length x.f6 ∧ x.f8.length ≤ c12 ∧ k92.C w A12 x.f8.length x.f8 := by
  obtain ⟨_, _, rfl, rfl, ⟨_, _, rfl, rfl, ⟨_, _, rfl, rfl, ⟨_, _, rfl, rfl, ⟨_, _, rfl, s4, ⟨_, _, rfl, s7, ⟨_, _, rfl, ⟨A10, c10, rfl, l10, g10⟩, ⟨_, _, rfl, rfl, ⟨_, _, rfl, ⟨A12, c12, rfl, l12, g12⟩, rfl⟩⟩⟩⟩⟩⟩⟩⟩⟩ := h
  obtain ⟨A6, c6, rfl, l6, g6⟩ := k54_open s4
  obtain ⟨A8, c8, A9, c9, rfl, l8, g8, l9, g9⟩ := k33_open s7
  exact ⟨A6, c6, A8, c8, A9, c9, A10, c10, A12, c12, rfl, l6, g6, l8, g8, l9, g9, l10, g10, l12, g12⟩
theorem k64_mk (w : World) (x : S64) {A6 : Option Addr} {c6 : Nat} (l6 : x.f4.f2.length ≤ c6) (g6 : Kd.string.C w A6 x.f4.f2.length x.f4.f2) {A8 : Option Addr} {c8 : Nat} (l8 : x.f5.f1.length ≤ c8) (g8 : Kd.string.C w A8 x.f5.f1.length x.f5.f1) {A9 : Option Addr} {c9 : Nat} (l9 : x.f5.f2.length ≤ c9) (g9 : (Kd.int .i64).C w A9 x.f5.f2.length x.f5.f2) {A10 : Option Addr} {c10 : Nat} (l10 : x.f6.length ≤ c10) (g10 : k104.C w A10 x.f6.length x.f6) {A12 : Option Addr} {c12 : Nat} (l12 : x.f8.length ≤ c12) (g12 : k92.C w A12 x.f8.length x.f8) : k64.K w x [.int .i64 x.f0, .int .i64 x.f1, .int .i64 x.f2, .string x.f3, .int .i64 x.f4.f0, .int .i64 x.f4.f1, .slice A6 x.f4.f2.length c6, .int .i64 x.f5.f0, .slice A8 x.f5.f1.length c8, .slice A9 x.f5.f2.length c9, .slice A10 x.f6.length c10, .bool x.f7, .slice A12 x.f8.length c12, .string x.f9] := ⟨[.int .i64 x.f0], [.int .i64 x.f1, .int .i64 x.f2, .string x.f3, .int .i64 x.f4.f0, .int .i64 x.f4.f1, .slice A6 x.f4.f2.length c6, .int .i64 x.f5.f0, .slice A8 x.f5.f1.length c8, .slice A9 x.f5.f2.length c9, .slice A10 x.f6.length c10, .bool x.f7, .slice A12 x.f8.length c12, .string x.f9], rfl, rfl, ⟨[.int .i64 x.f1], [.int .i64 x.f2, .string x.f3, .int .i64 x.f4.f0, .int .i64 x.f4.f1, .slice A6 x.f4.f2.length c6, .int .i64 x.f5.f0, .slice A8 x.f5.f1.length c8, .slice A9 x.f5.f2.length c9, .slice A10 x.f6.length c10, .bool x.f7, .slice A12 x.f8.length c12, .string x.f9], rfl, rfl, ⟨[.int .i64 x.f2], [.string x.f3, .int .i64 x.f4.f0, .int .i64 x.f4.f1, .slice A6 x.f4.f2.length c6, .int .i64 x.f5.f0, .slice A8 x.f5.f1.length c8, .slice A9 x.f5.f2.length c9, .slice A10 x.f6.length c10, .bool x.f7, .slice A12 x.f8.length c12, .string x.f9], rfl, rfl, ⟨[.string x.f3], [.int .i64 x.f4.f0, .int .i64 x.f4.f1, .slice A6 x.f4.f2.length c6, .int .i64 x.f5.f0, .slice A8 x.f5.f1.length c8, .slice A9 x.f5.f2.length c9, .slice A10 x.f6.length c10, .bool x.f7, .slice A12 x.f8.length c12, .string x.f9], rfl, rfl, ⟨[.int .i64 x.f4.f0, .int .i64 x.f4.f1, .slice A6 x.f4.f2.length c6], [.int .i64 x.f5.f0, .slice A8 x.f5.f1.length c8, .slice A9 x.f5.f2.length c9, .slice A10 x.f6.length c10, .bool x.f7, .slice A12 x.f8.length c12, .string x.f9], rfl, (k54_mk w x.f4 l6 g6), ⟨[.int .i64 x.f5.f0, .slice A8 x.f5.f1.length c8, .slice A9 x.f5.f2.length c9], [.slice A10 x.f6.length c10, .bool x.f7, .slice A12 x.f8.length c12, .string x.f9], rfl, (k33_mk w x.f5 l8 g8 l9 g9), ⟨[.slice A10 x.f6.length c10], [.bool x.f7, .slice A12 x.f8.length c12, .string x.f9], rfl, ⟨A10, c10, rfl, l10, g10⟩, ⟨[.bool x.f7], [.slice A12 x.f8.length c12, .string x.f9], rfl, rfl, ⟨[.slice A12 x.f8.length c12], [.string x.f9], rfl, ⟨A12, c12, rfl, l12, g12⟩, rfl⟩⟩⟩⟩⟩⟩⟩⟩⟩
def rd_T64 (xs : List S64) (i : Int) : S64 := xs.getD i.toNat z64
theorem at_T64 {w : World} {A : Option Addr} {n : Nat} {xs : List S64} (h : Kd.C k64 w A n xs) (i : Int) (h0 : 0 ≤ i) (h1 : i < n) : ∃ ad A6 c6 A8 c8 A9 c9 A10 c10 A12 c12, A = some ad ∧ w.cell? (ad.add (i.toNat * 14)) = some (.int .i64 (rd_T64 xs i).f0) ∧ w.cell? ⟨(ad.add (i.toNat * 14)).block, (ad.add (i.toNat * 14)).off + 1, none⟩ = some (.int .i64 (rd_T64 xs i).f1) ∧ w.cell? ⟨(ad.add (i.toNat * 14)).block, (ad.add (i.toNat * 14)).off + 2, none⟩ = some (.int .i64 (rd_T64 xs i).f2) ∧ w.cell? ⟨(ad.add (i.toNat * 14)).block, (ad.add (i.toNat * 14)).off + 3, none⟩ = some (.string (rd_T64 xs i).f3) ∧ w.cell? ⟨(ad.add (i.toNat * 14)).block, (ad.add (i.toNat * 14)).off + 4, none⟩ = some (.int .i64 (rd_T64 xs i).f4.f0) ∧ w.cell? ⟨(ad.add (i.toNat * 14)).block, (ad.add (i.toNat * 14)).off + 5, none⟩ = some (.int .i64 (rd_T64 xs i).f4.f1) ∧ w.cell? ⟨(ad.add (i.toNat * 14)).block, (ad.add (i.toNat * 14)).off + 6, none⟩ = some (.slice A6 (rd_T64 xs i).f4.f2.length c6) ∧ w.cell? ⟨(ad.add (i.toNat * 14)).block, (ad.add (i.toNat * 14)).off + 7, none⟩ = some (.int .i64 (rd_T64 xs i).f5.f0) ∧ w.cell? ⟨(ad.add (i.toNat * 14)).block, (ad.add (i.toNat * 14)).off + 8, none⟩ = some (.slice A8 (rd_T64 xs i).f5.f1.length c8) ∧ w.cell? ⟨(ad.add (i.toNat * 14)).block, (ad.add (i.toNat * 14)).off + 9, none⟩ = some (.slice A9 (rd_T64 xs i).f5.f2.length c9) ∧ w.cell? ⟨(ad.add (i.toNat * 14)).block, (ad.add (i.toNat * 14)).off + 10, none⟩ = some (.slice A10 (rd_T64 xs i).f6.length c10) ∧ w.cell? ⟨(ad.add (i.toNat * 14)).block, (ad.add (i.toNat * 14)).off + 11, none⟩ = some (.bool (rd_T64 xs i).f7) ∧ w.cell? ⟨(ad.add (i.toNat * 14)).block, (ad.add (i.toNat * 14)).off + 12, none⟩ = some (.slice A12 (rd_T64 xs i).f8.length c12) ∧ w.cell? ⟨(ad.add (i.toNat * 14)).block, (ad.add (i.toNat * 14)).off + 13, none⟩ = some (.string (rd_T64 xs i).f9) ∧ (rd_T64 xs i).f4.f2.length ≤ c6 ∧ Kd.string.C w A6 (rd_T64 xs i).f4.f2.length (rd_T64 xs i).f4.f2 ∧ (rd_T64 xs i).f5.f1.length ≤ c8 ∧ Kd.string.C w A8 (rd_T64 xs i).f5.f1.length (rd_T64 xs i).f5.f1 ∧ (rd_T64 xs i).f5.f2.length ≤ c9 ∧ (Kd.int .i64).C w A9 (rd_T64 xs i).f5.f2.length (rd_T64 xs i).f5.f2 ∧ (rd_T64 xs i).f6.length ≤ c10 ∧ k104.C w A10 (rd_T64 xs i).f6.length (rd_T64 xs i).f6 ∧ (rd_T64 xs i).f8.length ≤ c12 ∧ k92.C w A12 (rd_T64 xs i).f8.length (rd_T64 xs i).f8 := by
  obtain ⟨ad, c, e, _, hK, hc0⟩ := Kd.C_get h z64 i h0 h1
  have hc : ∀ j u, c[j]? = some u → w.cell? (ad.add (i.toNat * 14 + j)) = some u := hc0
  obtain ⟨A6, c6, A8, c8, A9, c9, A10, c10, A12, c12, rfl, l6, g6, l8, g8, l9, g9, l10, g10, l12, g12⟩ := k64_open hK
  exact ⟨ad, A6, c6, A8, c8, A9, c9, A10, c10, A12, c12, e, hc 0 _ rfl, by rw [← add_field _ _ 1 (by omega)]; exact hc 1 _ rfl, by rw [← add_field _ _ 2 (by omega)]; exact hc 2 _ rfl, by rw [← add_field _ _ 3 (by omega)]; exact hc 3 _ rfl, by rw [← add_field _ _ 4 (by omega)]; exact hc 4 _ rfl, by rw [← add_field _ _ 5 (by omega)]; exact hc 5 _ rfl, by rw [← add_field _ _ 6 (by omega)]; exact hc 6 _ rfl, by rw [← add_field _ _ 7 (by omega)]; exact hc 7 _ rfl, by rw [← add_field _ _ 8 (by omega)]; exact hc 8 _ rfl, by rw [← add_field _ _ 9 (by omega)]; exact hc 9 _ rfl, by rw [← add_field _ _ 10 (by omega)]; exact hc 10 _ rfl, by rw [← add_field _ _ 11 (by omega)]; exact hc 11 _ rfl, by rw [← add_field _ _ 12 (by omega)]; exact hc 12 _ rfl, by rw [← add_field _ _ 13 (by omega)]; exact hc 13 _ rfl, l6, g6, l8, g8, l9, g9, l10, g10, l12, g12⟩

/-! #### struct type 57 -/
structure S57 where
  f0 : Int
  f1 : Int
  f2 : (List ByteArray)
def z57 : S57 := ⟨(0 : Int), (0 : Int), ([] : List ByteArray)⟩
def k57 : Kd S57 := Kd.iso (Kd.pair (Kd.int .i64) (Kd.pair (Kd.int .i64) (Kd.slice 9 Kd.string))) (fun x : S57 => (x.f0, x.f1, x.f2))
theorem k57_open {w : World} {x : S57} {cs : List Value} (h : k57.K w x cs) : ∃ A2 c2, cs = [.int .i64 x.f0, .int .i64 x.f1, .slice A2 x.f2.length c2] ∧ x.f2.length ≤ c2 ∧ Kd.string.C w A2 x.f2.length x.f2 := by
  obtain ⟨_, _, rfl, rfl, ⟨_, _, rfl, rfl, ⟨A2, c2, rfl, l2, g2⟩⟩⟩ := h
  exact ⟨A2, c2, rfl, l2, g2⟩
theorem k57_openM {w : World} {base : Nat} {ok : Nat → Prop} {x : S57} {cs : List Value} (h : k57.M w base ok x cs) : ∃ v2, cs = [.int .i64 x.f0, .int .i64 x.f1, v2] ∧ Kd.string.R 9 w base ok v2 x.f2 := by
  obtain ⟨_, _, rfl, rfl, ⟨_, _, rfl, rfl, ⟨v2, rfl, g2⟩⟩⟩ := h
  exact ⟨v2, rfl, g2⟩
theorem k57_mk (w : World) (x : S57) {A2 : Option Addr} {c2 : Nat} (l2 : x.f2.length ≤ c2) (g2 : Kd.string.C w A2 x.f2.length x.f2) : k57.K w x [.int .i64 x.f0, .int .i64 x.f1, .slice A2 x.f2.length c2] := ⟨[.int .i64 x.f0], [.int .i64 x.f1, .slice A2 x.f2.length c2], rfl, rfl, ⟨[.int .i64 x.f1], [.slice A2 x.f2.length c2], rfl, rfl, ⟨A2, c2, rfl, l2, g2⟩⟩⟩
theorem k57_mkM (w : World) (base : Nat) (ok : Nat → Prop) (x : S57) {v2 : Value} (g2 : Kd.string.R 9 w base ok v2 x.f2) : k57.M w base ok x [.int .i64 x.f0, .int .i64 x.f1, v2] := ⟨[.int .i64 x.f0], [.int .i64 x.f1, v2], rfl, rfl, ⟨[.int .i64 x.f1], [v2], rfl, rfl, ⟨v2, rfl, g2⟩⟩⟩
/-! #### struct type 36 -/
structure S36 where
  f0 : Int
  f1 : (List ByteArray)
  f2 : (List Int)
def z36 : S36 := ⟨(0 : Int), ([] : List ByteArray), ([] : List Int)⟩
def k36 : Kd S36 := Kd.iso (Kd.pair (Kd.int .i64) (Kd.pair (Kd.slice 9 Kd.string) (Kd.slice 3 (Kd.int .i64)))) (fun x : S36 => (x.f0, x.f1, x.f2))
theorem k36_open {w : World} {x : S36} {cs : List Value} (h : k36.K w x cs) : ∃ A1 c1 A2 c2, cs = [.int .i64 x.f0, .slice A1 x.f1.length c1, .slice A2 x.f2.length c2] ∧ x.f1.length ≤ c1 ∧ Kd.string.C w A1 x.f1.length x.f1 ∧ x.f2.length ≤ c2 ∧ (Kd.int .i64).C w A2 x.f2.length x.f2 := by
  obtain ⟨_, _, rfl, rfl, ⟨_, _, rfl, ⟨A1, c1, rfl, l1, g1⟩, ⟨A2, c2, rfl, l2, g2⟩⟩⟩ := h
  exact ⟨A1, c1, A2, c2, rfl, l1, g1, l2, g2⟩
theorem k36_openM {w : World} {base : Nat} {ok : Nat → Prop} {x : S36} {cs : List Value} (h : k36.M w base ok x cs) : ∃ v1 v2, cs = [.int .i64 x.f0, v1, v2] ∧ Kd.string.R 9 w base ok v1 x.f1 ∧ (Kd.int .i64).R 3 w base ok v2 x.f2 := by
  obtain ⟨_, _, rfl, rfl, ⟨_, _, rfl, ⟨v1, rfl, g1⟩, ⟨v2, rfl, g2⟩⟩⟩ := h
  exact ⟨v1, v2, rfl, g1, g2⟩
theorem k36_mk (w : World) (x : S36) {A1 : Option Addr} {c1 : Nat} (l1 : x.f1.length ≤ c1) (g1 : Kd.string.C w A1 x.f1.length x.f1) {A2 : Option Addr} {c2 : Nat} (l2 : x.f2.length ≤ c2) (g2 : (Kd.int .i64).C w A2 x.f2.length x.f2) : k36.K w x [.int .i64 x.f0, .slice A1 x.f1.length c1, .slice A2 x.f2.length c2] := ⟨[.int .i64 x.f0], [.slice A1 x.f1.length c1, .slice A2 x.f2.length c2], rfl, rfl, ⟨[.slice A1 x.f1.length c1], [.slice A2 x.f2.length c2], rfl, ⟨A1, c1, rfl, l1, g1⟩, ⟨A2, c2, rfl, l2, g2⟩⟩⟩
theorem k36_mkM (w : World) (base : Nat) (ok : Nat → Prop) (x : S36) {v1 : Value} (g1 : Kd.string.R 9 w base ok v1 x.f1) {v2 : Value} (g2 : (Kd.int .i64).R 3 w base ok v2 x.f2) : k36.M w base ok x [.int .i64 x.f0, v1, v2] := ⟨[.int .i64 x.f0], [v1, v2], rfl, rfl, ⟨[v1], [v2], rfl, ⟨v1, rfl, g1⟩, ⟨v2, rfl, g2⟩⟩⟩
/-! #### struct type 68 -/
structure S68 where
  f0 : Int
  f1 : Int
  f2 : Int
  f3 : ByteArray
  f4 : S57
  f5 : S36
  f6 : (List S106)
  f7 : Bool
  f8 : (List S93)
  f9 : ByteArray
def z68 : S68 := ⟨(0 : Int), (0 : Int), (0 : Int), (⟨#[]⟩ : ByteArray), z57, z36, ([] : List S106), false, ([] : List S93), (⟨#[]⟩ : ByteArray)⟩
def k68 : Kd S68 := Kd.iso (Kd.pair (Kd.int .i64) (Kd.pair (Kd.int .i64) (Kd.pair (Kd.int .i64) (Kd.pair Kd.string (Kd.pair k57 (Kd.pair k36 (Kd.pair (Kd.slice 106 k106) (Kd.pair Kd.bool (Kd.pair (Kd.slice 93 k93) Kd.string))))))))) (fun x : S68 => (x.f0, x.f1, x.f2, x.f3, x.f4, x.f5, x.f6, x.f7, x.f8, x.f9))
theorem k68_open {w : World} {x : S68} {cs : List Value} (h : k68.K w x cs) : ∃ A6 c6 A8 c8 A9 c9 A10 c10 A12 c12, cs = [.int .i64 x.f0, .int .i64 x.f1, .int .i64 x.f2, .string x.f3, .int .i64 x.f4.f0, .int .i64 x.f4.f1, .slice A6 x.f4.f2.length c6, .int .i64 x.f5.f0, .slice A8 x.f5.f1.length c8, .slice A9 x.f5.f2.length c9, .slice A10 x.f6.length c10, .bool x.f7, .slice A12 x.f8.length c12, .string x.f9] ∧ x.f4.f2.length ≤ c6 ∧ Kd.string.C w A6 x.f4.f2.length x.f4.f2 ∧ x.f5.f1.length ≤ c8 ∧ Kd.string.C w A8 x.f5.f1.length x.f5.f1 ∧ x.f5.f2.length ≤ c9 ∧ (Kd.int .i64).C w A9 x.f5.f2.length x.f5.f2 ∧ x.f6.length ≤ c10 ∧ k106.C w A10 x.f6.length x.f6 ∧ x.f8.length ≤ c12 ∧ k93.C w A12 x.f8.length x.f8 := by
  obtain ⟨_, _, rfl, rfl, ⟨_, _, rfl, rfl, ⟨_, _, rfl, rfl, ⟨_, _, rfl, rfl, ⟨_, _, rfl, s4, ⟨_, _, rfl, s7, ⟨_, _, rfl, ⟨A10, c10, rfl, l10, g10⟩, ⟨_, _, rfl, rfl, ⟨_, _, rfl, ⟨A12, c12, rfl, l12, g12⟩, rfl⟩⟩⟩⟩⟩⟩⟩⟩⟩ := h
  obtain ⟨A6, c6, rfl, l6, g6⟩ := k57_open s4
  obtain ⟨A8, c8, A9, c9, rfl, l8, g8, l9, g9⟩ := k36_open s7
  exact ⟨A6, c6, A8, c8, A9, c9, A10, c10, A12, c12, rfl, l6, g6, l8, g8, l9, g9, l10, g10, l12, g12⟩
theorem k68_mk (w : World) (x : S68) {A6 : Option Addr} {c6 : Nat} (l6 : x.f4.f2.length ≤ c6) (g6 : Kd.string.C w A6 x.f4.f2.length x.f4.f2) {A8 : Option Addr} {c8 : Nat} (l8 : x.f5.f1.length ≤ c8) (g8 : Kd.string.C w A8 x.f5.f1.length x.f5.f1) {A9 : Option Addr} {c9 : Nat} (l9 : x.f5.f2.length ≤ c9) (g9 : (Kd.int .i64).C w A9 x.f5.f2.length x.f5.f2) {A10 : Option Addr} {c10 : Nat} (l10 : x.f6.length ≤ c10) (g10 : k106.C w A10 x.f6.length x.f6) {A12 : Option Addr} {c12 : Nat} (l12 : x.f8.length ≤ c12) (g12 : k93.C w A12 x.f8.length x.f8) : k68.K w x [.int .i64 x.f0, .int .i64 x.f1, .int .i64 x.f2, .string x.f3, .int .i64 x.f4.f0, .int .i64 x.f4.f1, .slice A6 x.f4.f2.length c6, .int .i64 x.f5.f0, .slice A8 x.f5.f1.length c8, .slice A9 x.f5.f2.length c9, .slice A10 x.f6.length c10, .bool x.f7, .slice A12 x.f8.length c12, .string x.f9] := ⟨[.int .i64 x.f0], [.int .i64 x.f1, .int .i64 x.f2, .string x.f3, .int .i64 x.f4.f0, .int .i64 x.f4.f1, .slice A6 x.f4.f2.length c6, .int .i64 x.f5.f0, .slice A8 x.f5.f1.length c8, .slice A9 x.f5.f2.length c9, .slice A10 x.f6.length c10, .bool x.f7, .slice A12 x.f8.length c12, .string x.f9], rfl, rfl, ⟨[.int .i64 x.f1], [.int .i64 x.f2, .string x.f3, .int .i64 x.f4.f0, .int .i64 x.f4.f1, .slice A6 x.f4.f2.length c6, .int .i64 x.f5.f0, .slice A8 x.f5.f1.length c8, .slice A9 x.f5.f2.length c9, .slice A10 x.f6.length c10, .bool x.f7, .slice A12 x.f8.length c12, .string x.f9], rfl, rfl, ⟨[.int .i64 x.f2], [.string x.f3, .int .i64 x.f4.f0, .int .i64 x.f4.f1, .slice A6 x.f4.f2.length c6, .int .i64 x.f5.f0, .slice A8 x.f5.f1.length c8, .slice A9 x.f5.f2.length c9, .slice A10 x.f6.length c10, .bool x.f7, .slice A12 x.f8.length c12, .string x.f9], rfl, rfl, ⟨[.string x.f3], [.int .i64 x.f4.f0, .int .i64 x.f4.f1, .slice A6 x.f4.f2.length c6, .int .i64 x.f5.f0, .slice A8 x.f5.f1.length c8, .slice A9 x.f5.f2.length c9, .slice A10 x.f6.length c10, .bool x.f7, .slice A12 x.f8.length c12, .string x.f9], rfl, rfl, ⟨[.int .i64 x.f4.f0, .int .i64 x.f4.f1, .slice A6 x.f4.f2.length c6], [.int .i64 x.f5.f0, .slice A8 x.f5.f1.length c8, .slice A9 x.f5.f2.length c9, .slice A10 x.f6.length c10, .bool x.f7, .slice A12 x.f8.length c12, .string x.f9], rfl, (k57_mk w x.f4 l6 g6), ⟨[.int .i64 x.f5.f0, .slice A8 x.f5.f1.length c8, .slice A9 x.f5.f2.length c9], [.slice A10 x.f6.length c10, .bool x.f7, .slice A12 x.f8.length c12, .string x.f9], rfl, (k36_mk w x.f5 l8 g8 l9 g9), ⟨[.slice A10 x.f6.length c10], [.bool x.f7, .slice A12 x.f8.length c12, .string x.f9], rfl, ⟨A10, c10, rfl, l10, g10⟩, ⟨[.bool x.f7], [.slice A12 x.f8.length c12, .string x.f9], rfl, rfl, ⟨[.slice A12 x.f8.length c12], [.string x.f9], rfl, ⟨A12, c12, rfl, l12, g12⟩, rfl⟩⟩⟩⟩⟩⟩⟩⟩⟩
theorem k68_mkM (w : World) (base : Nat) (ok : Nat → Prop) (x : S68) {v6 : Value} (g6 : Kd.string.R 9 w base ok v6 x.f4.f2) {v8 : Value} (g8 : Kd.string.R 9 w base ok v8 x.f5.f1) {v9 : Value} (g9 : (Kd.int .i64).R 3 w base ok v9 x.f5.f2) {v10 : Value} (g10 : k106.R 106 w base ok v10 x.f6) {v12 : Value} (g12 : k93.R 93 w base ok v12 x.f8) : k68.M w base ok x [.int .i64 x.f0, .int .i64 x.f1, .int .i64 x.f2, .string x.f3, .int .i64 x.f4.f0, .int .i64 x.f4.f1, v6, .int .i64 x.f5.f0, v8, v9, v10, .bool x.f7, v12, .string x.f9] := ⟨[.int .i64 x.f0], [.int .i64 x.f1, .int .i64 x.f2, .string x.f3, .int .i64 x.f4.f0, .int .i64 x.f4.f1, v6, .int .i64 x.f5.f0, v8, v9, v10, .bool x.f7, v12, .string x.f9], rfl, rfl, ⟨[.int .i64 x.f1], [.int .i64 x.f2, .string x.f3, .int .i64 x.f4.f0, .int .i64 x.f4.f1, v6, .int .i64 x.f5.f0, v8, v9, v10, .bool x.f7, v12, .string x.f9], rfl, rfl, ⟨[.int .i64 x.f2], [.string x.f3, .int .i64 x.f4.f0, .int .i64 x.f4.f1, v6, .int .i64 x.f5.f0, v8, v9, v10, .bool x.f7, v12, .string x.f9], rfl, rfl, ⟨[.string x.f3], [.int .i64 x.f4.f0, .int .i64 x.f4.f1, v6, .int .i64 x.f5.f0, v8, v9, v10, .bool x.f7, v12, .string x.f9], rfl, rfl, ⟨[.int .i64 x.f4.f0, .int .i64 x.f4.f1, v6], [.int .i64 x.f5.f0, v8, v9, v10, .bool x.f7, v12, .string x.f9], rfl, (k57_mkM w base ok x.f4 g6), ⟨[.int .i64 x.f5.f0, v8, v9], [v10, .bool x.f7, v12, .string x.f9], rfl, (k36_mkM w base ok x.f5 g8 g9), ⟨[v10], [.bool x.f7, v12, .string x.f9], rfl, ⟨v10, rfl, g10⟩, ⟨[.bool x.f7], [v12, .string x.f9], rfl, rfl, ⟨[v12], [.string x.f9], rfl, ⟨v12, rfl, g12⟩, rfl⟩⟩⟩⟩⟩⟩⟩⟩⟩
def rd_T68 (xs : List S68) (i : Int) : S68 := xs.getD i.toNat z68
theorem at_T68 {w : World} {A : Option Addr} {n : Nat} {xs : List S68} (h : Kd.C k68 w A n xs) (i : Int) (h0 : 0 ≤ i) (h1 : i < n) : ∃ ad A6 c6 A8 c8 A9 c9 A10 c10 A12 c12, A = some ad ∧ w.cell? (ad.add (i.toNat * 14)) = some (.int .i64 (rd_T68 xs i).f0) ∧ w.cell? ⟨(ad.add (i.toNat * 14)).block, (ad.add (i.toNat * 14)).off + 1, none⟩ = some (.int .i64 (rd_T68 xs i).f1) ∧ w.cell? ⟨(ad.add (i.toNat * 14)).block, (ad.add (i.toNat * 14)).off + 2, none⟩ = some (.int .i64 (rd_T68 xs i).f2) ∧ w.cell? ⟨(ad.add (i.toNat * 14)).block, (ad.add (i.toNat * 14)).off + 3, none⟩ = some (.string (rd_T68 xs i).f3) ∧ w.cell? ⟨(ad.add (i.toNat * 14)).block, (ad.add (i.toNat * 14)).off + 4, none⟩ = some (.int .i64 (rd_T68 xs i).f4.f0) ∧ w.cell? ⟨(ad.add (i.toNat * 14)).block, (ad.add (i.toNat * 14)).off + 5, none⟩ = some (.int .i64 (rd_T68 xs i).f4.f1) ∧ w.cell? ⟨(ad.add (i.toNat * 14)).block, (ad.add (i.toNat * 14)).off + 6, none⟩ = some (.slice A6 (rd_T68 xs i).f4.f2.length c6) ∧ w.cell? ⟨(ad.add (i.toNat * 14)).block, (ad.add (i.toNat * 14)).off + 7, none⟩ = some (.int .i64 (rd_T68 xs i).f5.f0) ∧ w.cell? ⟨(ad.add (i.toNat * 14)).block, (ad.add (i.toNat * 14)).off + 8, none⟩ = some (.slice A8 (rd_T68 xs i).f5.f1.length c8) ∧ w.cell? ⟨(ad.add (i.toNat * 14)).block, (ad.add (i.toNat * 14)).off + 9, none⟩ = some (.slice A9 (rd_T68 xs i).f5.f2.length c9) ∧ w.cell? ⟨(ad.add (i.toNat * 14)).block, (ad.add (i.toNat * 14)).off + 10, none⟩ = some (.slice A10 (rd_T68 xs i).f6.length c10) ∧ w.cell? ⟨(ad.add (i.toNat * 14)).block, (ad.add (i.toNat * 14)).off + 11, none⟩ = some (.bool (rd_T68 xs i).f7) ∧ w.cell? ⟨(ad.add (i.toNat * 14)).block, (ad.add (i.toNat * 14)).off + 12, none⟩ = some (.slice A12 (rd_T68 xs i).f8.length c12) ∧ w.cell? ⟨(ad.add (i.toNat * 14)).block, (ad.add (i.toNat * 14)).off + 13, none⟩ = some (.string (rd_T68 xs i).f9) ∧ (rd_T68 xs i).f4.f2.length ≤ c6 ∧ Kd.string.C w A6 (rd_T68 xs i).f4.f2.length (rd_T68 xs i).f4.f2 ∧ (rd_T68 xs i).f5.f1.length ≤ c8 ∧ Kd.string.C w A8 (rd_T68 xs i).f5.f1.length (rd_T68 xs i).f5.f1 ∧ (rd_T68 xs i).f5.f2.length ≤ c9 ∧ (Kd.int .i64).C w A9 (rd_T68 xs i).f5.f2.length (rd_T68 xs i).f5.f2 ∧ (rd_T68 xs i).f6.length ≤ c10 ∧ k106.C w A10 (rd_T68 xs i).f6.length (rd_T68 xs i).f6 ∧ (rd_T68 xs i).f8.length ≤ c12 ∧ k93.C w A12 (rd_T68 xs i).f8.length (rd_T68 xs i).f8 := by
  obtain ⟨ad, c, e, _, hK, hc0⟩ := Kd.C_get h z68 i h0 h1
  have hc : ∀ j u, c[j]? = some u → w.cell? (ad.add (i.toNat * 14 + j)) = some u := hc0
  obtain ⟨A6, c6, A8, c8, A9, c9, A10, c10, A12, c12, rfl, l6, g6, l8, g8, l9, g9, l10, g10, l12, g12⟩ := k68_open hK
  exact ⟨ad, A6, c6, A8, c8, A9, c9, A10, c10, A12, c12, e, hc 0 _ rfl, by rw [← add_field _ _ 1 (by omega)]; exact hc 1 _ rfl, by rw [← add_field _ _ 2 (by omega)]; exact hc 2 _ rfl, by rw [← add_field _ _ 3 (by omega)]; exact hc 3 _ rfl, by rw [← add_field _ _ 4 (by omega)]; exact hc 4 _ rfl, by rw [← add_field _ _ 5 (by omega)]; exact hc 5 _ rfl, by rw [← add_field _ _ 6 (by omega)]; exact hc 6 _ rfl, by rw [← add_field _ _ 7 (by omega)]; exact hc 7 _ rfl, by rw [← add_field _ _ 8 (by omega)]; exact hc 8 _ rfl, by rw [← add_field _ _ 9 (by omega)]; exact hc 9 _ rfl, by rw [← add_field _ _ 10 (by omega)]; exact hc 10 _ rfl, by rw [← add_field _ _ 11 (by omega)]; exact hc 11 _ rfl, by rw [← add_field _ _ 12 (by omega)]; exact hc 12 _ rfl, by rw [← add_field _ _ 13 (by omega)]; exact hc 13 _ rfl, l6, g6, l8, g8, l9, g9, l10, g10, l12, g12⟩

/-! #### struct type 75 -/
structure S75 where
  f0 : Int
  f1 : Int
  f2 : ByteArray
def k75 : Kd S75 := Kd.iso (Kd.pair (Kd.int .i64) (Kd.pair (Kd.int .i64) Kd.string)) (fun x : S75 => (x.f0, x.f1, x.f2))
theorem k75_open {w : World} {x : S75} {cs : List Value} (h : k75.K w x cs) : cs = [.int .i64 x.f0, .int .i64 x.f1, .string x.f2] := by
  obtain ⟨_, _, rfl, rfl, ⟨_, _, rfl, rfl, rfl⟩⟩ := h
  exact rfl
theorem k75_mk (w : World) (x : S75)  : k75.K w x [.int .i64 x.f0, .int .i64 x.f1, .string x.f2] := ⟨[.int .i64 x.f0], [.int .i64 x.f1, .string x.f2], rfl, rfl, ⟨[.int .i64 x.f1], [.string x.f2], rfl, rfl, rfl⟩⟩
/-! #### struct type 77 -/
structure S77 where
  f0 : Int
  f1 : Int
  f2 : ByteArray
def k77 : Kd S77 := Kd.iso (Kd.pair (Kd.int .i64) (Kd.pair (Kd.int .i64) Kd.string)) (fun x : S77 => (x.f0, x.f1, x.f2))
theorem k77_open {w : World} {x : S77} {cs : List Value} (h : k77.K w x cs) : cs = [.int .i64 x.f0, .int .i64 x.f1, .string x.f2] := by
  obtain ⟨_, _, rfl, rfl, ⟨_, _, rfl, rfl, rfl⟩⟩ := h
  exact rfl
theorem k77_mk (w : World) (x : S77)  : k77.K w x [.int .i64 x.f0, .int .i64 x.f1, .string x.f2] := ⟨[.int .i64 x.f0], [.int .i64 x.f1, .string x.f2], rfl, rfl, ⟨[.int .i64 x.f1], [.string x.f2], rfl, rfl, rfl⟩⟩
/-! #### struct type 79 -/
structure S79 where
  f0 : Int
  f1 : ByteArray
  f2 : Int
  f3 : (List S64)
  f4 : S75
  f5 : S77
  f6 : S54
  f7 : S33
def k79 : Kd S79 := Kd.iso (Kd.pair (Kd.int .i64) (Kd.pair Kd.string (Kd.pair (Kd.int .i64) (Kd.pair (Kd.slice 64 k64) (Kd.pair k75 (Kd.pair k77 (Kd.pair k54 k33))))))) (fun x : S79 => (x.f0, x.f1, x.f2, x.f3, x.f4, x.f5, x.f6, x.f7))
theorem k79_open {w : World} {x : S79} {cs : List Value} (h : k79.K w x cs) : ∃ A3 c3 A12 c12 A14 c14 A15 c15, cs = [.int .i64 x.f0, .string x.f1, .int .i64 x.f2, .slice A3 x.f3.length c3, .int .i64 x.f4.f0, .int .i64 x.f4.f1, .string x.f4.f2, .int .i64 x.f5.f0, .int .i64 x.f5.f1, .string x.f5.f2, .int .i64 x.f6.f0, .int .i64 x.f6.f1, .slice A12 x.f6.f2.length c12, .int .i64 x.f7.f0, .slice A14 x.f7.f1.length c14, .slice A15 x.f7.f2.length c15] ∧ x.f3.length ≤ c3 ∧ k64.C w A3 x.f3.length x.f3 ∧ x.f6.f2.length ≤ c12 ∧ Kd.string.C w A12 x.f6.f2.length x.f6.f2 ∧ x.f7.f1.length ≤ c14 ∧ Kd.string.C w A14 x.f7.f1.length x.f7.f1 ∧ x.f7.f2.length ≤ c15 ∧ (Kd.int .i64).C w A15 x.f7.f2.length x.f7.f2 := by
  obtain ⟨_, _, rfl, rfl, ⟨_, _, rfl, rfl, ⟨_, _, rfl, rfl, ⟨_, _, rfl, ⟨A3, c3, rfl, l3, g3⟩, ⟨_, _, rfl, s4, ⟨_, _, rfl, s7, ⟨_, _, rfl, s10, s13⟩⟩⟩⟩⟩⟩⟩ := h
  obtain rfl := k75_open s4
  obtain rfl := k77_open s7
  obtain ⟨A12, c12, rfl, l12, g12⟩ := k54_open s10
  obtain ⟨A14, c14, A15, c15, rfl, l14, g14, l15, g15⟩ := k33_open s13
  exact ⟨A3, c3, A12, c12, A14, c14, A15, c15, rfl, l3, g3, l12, g12, l14, g14, l15, g15⟩
/-! #### struct type 83 -/
structure S83 where
  f0 : Int
  f1 : Int
  f2 : ByteArray
def k83 : Kd S83 := Kd.iso (Kd.pair (Kd.int .i64) (Kd.pair (Kd.int .i64) Kd.string)) (fun x : S83 => (x.f0, x.f1, x.f2))
theorem k83_open {w : World} {x : S83} {cs : List Value} (h : k83.K w x cs) : cs = [.int .i64 x.f0, .int .i64 x.f1, .string x.f2] := by
  obtain ⟨_, _, rfl, rfl, ⟨_, _, rfl, rfl, rfl⟩⟩ := h
  exact rfl
theorem k83_openM {w : World} {base : Nat} {ok : Nat → Prop} {x : S83} {cs : List Value} (h : k83.M w base ok x cs) : cs = [.int .i64 x.f0, .int .i64 x.f1, .string x.f2] := by
  obtain ⟨_, _, rfl, rfl, ⟨_, _, rfl, rfl, rfl⟩⟩ := h
  exact rfl
theorem k83_mk (w : World) (x : S83)  : k83.K w x [.int .i64 x.f0, .int .i64 x.f1, .string x.f2] := ⟨[.int .i64 x.f0], [.int .i64 x.f1, .string x.f2], rfl, rfl, ⟨[.int .i64 x.f1], [.string x.f2], rfl, rfl, rfl⟩⟩
theorem k83_mkM (w : World) (base : Nat) (ok : Nat → Prop) (x : S83)  : k83.M w base ok x [.int .i64 x.f0, .int .i64 x.f1, .string x.f2] := ⟨[.int .i64 x.f0], [.int .i64 x.f1, .string x.f2], rfl, rfl, ⟨[.int .i64 x.f1], [.string x.f2], rfl, rfl, rfl⟩⟩
/-! #### struct type 84 -/
structure S84 where
  f0 : Int
  f1 : Int
  f2 : ByteArray
def k84 : Kd S84 := Kd.iso (Kd.pair (Kd.int .i64) (Kd.pair (Kd.int .i64) Kd.string)) (fun x : S84 => (x.f0, x.f1, x.f2))
theorem k84_open {w : World} {x : S84} {cs : List Value} (h : k84.K w x cs) : cs = [.int .i64 x.f0, .int .i64 x.f1, .string x.f2] := by
  obtain ⟨_, _, rfl, rfl, ⟨_, _, rfl, rfl, rfl⟩⟩ := h
  exact rfl
theorem k84_openM {w : World} {base : Nat} {ok : Nat → Prop} {x : S84} {cs : List Value} (h : k84.M w base ok x cs) : cs = [.int .i64 x.f0, .int .i64 x.f1, .string x.f2] := by
  obtain ⟨_, _, rfl, rfl, ⟨_, _, rfl, rfl, rfl⟩⟩ := h
  exact rfl
theorem k84_mk (w : World) (x : S84)  : k84.K w x [.int .i64 x.f0, .int .i64 x.f1, .string x.f2] := ⟨[.int .i64 x.f0], [.int .i64 x.f1, .string x.f2], rfl, rfl, ⟨[.int .i64 x.f1], [.string x.f2], rfl, rfl, rfl⟩⟩
theorem k84_mkM (w : World) (base : Nat) (ok : Nat → Prop) (x : S84)  : k84.M w base ok x [.int .i64 x.f0, .int .i64 x.f1, .string x.f2] := ⟨[.int .i64 x.f0], [.int .i64 x.f1, .string x.f2], rfl, rfl, ⟨[.int .i64 x.f1], [.string x.f2], rfl, rfl, rfl⟩⟩
/-! #### struct type 86 -/
structure S86 where
  f0 : Int
  f1 : ByteArray
  f2 : Int
  f3 : (List S68)
  f4 : S83
  f5 : S84
  f6 : S57
  f7 : S36
def k86 : Kd S86 := Kd.iso (Kd.pair (Kd.int .i64) (Kd.pair Kd.string (Kd.pair (Kd.int .i64) (Kd.pair (Kd.slice 68 k68) (Kd.pair k83 (Kd.pair k84 (Kd.pair k57 k36))))))) (fun x : S86 => (x.f0, x.f1, x.f2, x.f3, x.f4, x.f5, x.f6, x.f7))
theorem k86_open {w : World} {x : S86} {cs : List Value} (h : k86.K w x cs) : ∃ A3 c3 A12 c12 A14 c14 A15 c15, cs = [.int .i64 x.f0, .string x.f1, .int .i64 x.f2, .slice A3 x.f3.length c3, .int .i64 x.f4.f0, .int .i64 x.f4.f1, .string x.f4.f2, .int .i64 x.f5.f0, .int .i64 x.f5.f1, .string x.f5.f2, .int .i64 x.f6.f0, .int .i64 x.f6.f1, .slice A12 x.f6.f2.length c12, .int .i64 x.f7.f0, .slice A14 x.f7.f1.length c14, .slice A15 x.f7.f2.length c15] ∧ x.f3.length ≤ c3 ∧ k68.C w A3 x.f3.length x.f3 ∧ x.f6.f2.length ≤ c12 ∧ Kd.string.C w A12 x.f6.f2.length x.f6.f2 ∧ x.f7.f1.length ≤ c14 ∧ Kd.string.C w A14 x.f7.f1.length x.f7.f1 ∧ x.f7.f2.length ≤ c15 ∧ (Kd.int .i64).C w A15 x.f7.f2.length x.f7.f2 := by
  obtain ⟨_, _, rfl, rfl, ⟨_, _, rfl, rfl, ⟨_, _, rfl, rfl, ⟨_, _, rfl, ⟨A3, c3, rfl, l3, g3⟩, ⟨_, _, rfl, s4, ⟨_, _, rfl, s7, ⟨_, _, rfl, s10, s13⟩⟩⟩⟩⟩⟩⟩ := h
  obtain rfl := k83_open s4
  obtain rfl := k84_open s7
  obtain ⟨A12, c12, rfl, l12, g12⟩ := k57_open s10
  obtain ⟨A14, c14, A15, c15, rfl, l14, g14, l15, g15⟩ := k36_open s13
  exact ⟨A3, c3, A12, c12, A14, c14, A15, c15, rfl, l3, g3, l12, g12, l14, g14, l15, g15⟩
theorem k86_openM {w : World} {base : Nat} {ok : Nat → Prop} {x : S86} {cs : List Value} (h : k86.M w base ok x cs) : ∃ v3 v12 v14 v15, cs = [.int .i64 x.f0, .string x.f1, .int .i64 x.f2, v3, .int .i64 x.f4.f0, .int .i64 x.f4.f1, .string x.f4.f2, .int .i64 x.f5.f0, .int .i64 x.f5.f1, .string x.f5.f2, .int .i64 x.f6.f0, .int .i64 x.f6.f1, v12, .int .i64 x.f7.f0, v14, v15] ∧ k68.R 68 w base ok v3 x.f3 ∧ Kd.string.R 9 w base ok v12 x.f6.f2 ∧ Kd.string.R 9 w base ok v14 x.f7.f1 ∧ (Kd.int .i64).R 3 w base ok v15 x.f7.f2 := by
  obtain ⟨_, _, rfl, rfl, ⟨_, _, rfl, rfl, ⟨_, _, rfl, rfl, ⟨_, _, rfl, ⟨v3, rfl, g3⟩, ⟨_, _, rfl, s4, ⟨_, _, rfl, s7, ⟨_, _, rfl, s10, s13⟩⟩⟩⟩⟩⟩⟩ := h
  obtain rfl := k83_openM s4
  obtain rfl := k84_openM s7
  obtain ⟨v12, rfl, g12⟩ := k57_openM s10
  obtain ⟨v14, v15, rfl, g14, g15⟩ := k36_openM s13
  exact ⟨v3, v12, v14, v15, rfl, g3, g12, g14, g15⟩
theorem k86_mkM (w : World) (base : Nat) (ok : Nat → Prop) (x : S86) {v3 : Value} (g3 : k68.R 68 w base ok v3 x.f3) {v12 : Value} (g12 : Kd.string.R 9 w base ok v12 x.f6.f2) {v14 : Value} (g14 : Kd.string.R 9 w base ok v14 x.f7.f1) {v15 : Value} (g15 : (Kd.int .i64).R 3 w base ok v15 x.f7.f2) : k86.M w base ok x [.int .i64 x.f0, .string x.f1, .int .i64 x.f2, v3, .int .i64 x.f4.f0, .int .i64 x.f4.f1, .string x.f4.f2, .int .i64 x.f5.f0, .int .i64 x.f5.f1, .string x.f5.f2, .int .i64 x.f6.f0, .int .i64 x.f6.f1, v12, .int .i64 x.f7.f0, v14, v15] := ⟨[.int .i64 x.f0], [.string x.f1, .int .i64 x.f2, v3, .int .i64 x.f4.f0, .int .i64 x.f4.f1, .string x.f4.f2, .int .i64 x.f5.f0, .int .i64 x.f5.f1, .string x.f5.f2, .int .i64 x.f6.f0, .int .i64 x.f6.f1, v12, .int .i64 x.f7.f0, v14, v15], rfl, rfl, ⟨[.string x.f1], [.int .i64 x.f2, v3, .int .i64 x.f4.f0, .int .i64 x.f4.f1, .string x.f4.f2, .int .i64 x.f5.f0, .int .i64 x.f5.f1, .string x.f5.f2, .int .i64 x.f6.f0, .int .i64 x.f6.f1, v12, .int .i64 x.f7.f0, v14, v15], rfl, rfl, ⟨[.int .i64 x.f2], [v3, .int .i64 x.f4.f0, .int .i64 x.f4.f1, .string x.f4.f2, .int .i64 x.f5.f0, .int .i64 x.f5.f1, .string x.f5.f2, .int .i64 x.f6.f0, .int .i64 x.f6.f1, v12, .int .i64 x.f7.f0, v14, v15], rfl, rfl, ⟨[v3], [.int .i64 x.f4.f0, .int .i64 x.f4.f1, .string x.f4.f2, .int .i64 x.f5.f0, .int .i64 x.f5.f1, .string x.f5.f2, .int .i64 x.f6.f0, .int .i64 x.f6.f1, v12, .int .i64 x.f7.f0, v14, v15], rfl, ⟨v3, rfl, g3⟩, ⟨[.int .i64 x.f4.f0, .int .i64 x.f4.f1, .string x.f4.f2], [.int .i64 x.f5.f0, .int .i64 x.f5.f1, .string x.f5.f2, .int .i64 x.f6.f0, .int .i64 x.f6.f1, v12, .int .i64 x.f7.f0, v14, v15], rfl, (k83_mkM w base ok x.f4 ), ⟨[.int .i64 x.f5.f0, .int .i64 x.f5.f1, .string x.f5.f2], [.int .i64 x.f6.f0, .int .i64 x.f6.f1, v12, .int .i64 x.f7.f0, v14, v15], rfl, (k84_mkM w base ok x.f5 ), ⟨[.int .i64 x.f6.f0, .int .i64 x.f6.f1, v12], [.int .i64 x.f7.f0, v14, v15], rfl, (k57_mkM w base ok x.f6 g12), (k36_mkM w base ok x.f7 g14 g15)⟩⟩⟩⟩⟩⟩⟩
open Go.Proofs.Ytieecjilnaijkaa.Opens

/-- What the reading gives of a value of struct type 92. -/
def w92 (x : S92) : Prop := (x.f0.size ≤ maxLen) ∧ ((Lit.int .i64 x.f1).wf = true)

set_option maxRecDepth 10000 in
theorem o92 : Opens Try.prog 92 k92 w92 := by
  refine opens_struct Try.underlying92 (by kernel_rfl) (opensAt_cons rfl (opens_string Try.underlying9 (by kernel_rfl)) (opensAt_one rfl (opens_int .i64 Try.underlying3 (by kernel_rfl)))) _ (fun p => ⟨p.1, p.2⟩) ?_ ?_
  · exact fun _ => rfl
  · exact fun _ h => h

/-- What the reading gives of a value of struct type 33. -/
def w33 (x : S33) : Prop := ((Lit.int .i64 x.f0).wf = true) ∧ (fun l : List ByteArray => l.length ≤ maxLen ∧ ∀ x ∈ l, (fun s : ByteArray => s.size ≤ maxLen) x) x.f1 ∧ (fun l : List Int => l.length ≤ maxLen ∧ ∀ x ∈ l, (fun n : Int => (Lit.int .i64 n).wf = true) x) x.f2

set_option maxRecDepth 10000 in
theorem o33 : Opens Try.prog 33 k33 w33 := by
  refine opens_struct Try.underlying33 (by kernel_rfl) (opensAt_cons rfl (opens_int .i64 Try.underlying3 (by kernel_rfl)) (opensAt_cons rfl (opens_slice Try.underlying30 (by kernel_rfl) (opens_string Try.underlying9 (by kernel_rfl))) (opensAt_one rfl (opens_slice Try.underlying31 (by kernel_rfl) (opens_int .i64 Try.underlying3 (by kernel_rfl)))))) _ (fun p => ⟨p.1, p.2.1, p.2.2⟩) ?_ ?_
  · exact fun _ => rfl
  · exact fun _ h => h

/-- What the reading gives of a value of struct type 104. -/
def w104 (x : S104) : Prop := ((Lit.int .i64 x.f0).wf = true) ∧ (x.f1.size ≤ maxLen) ∧ (x.f2.size ≤ maxLen) ∧ ((Lit.int .i64 x.f3).wf = true) ∧ ((Lit.int .i64 x.f4).wf = true)

set_option maxRecDepth 10000 in
theorem o104 : Opens Try.prog 104 k104 w104 := by
  refine opens_struct Try.underlying104 (by kernel_rfl) (opensAt_cons rfl (opens_int .i64 Try.underlying3 (by kernel_rfl)) (opensAt_cons rfl (opens_string Try.underlying9 (by kernel_rfl)) (opensAt_cons rfl (opens_string Try.underlying9 (by kernel_rfl)) (opensAt_cons rfl (opens_int .i64 Try.underlying3 (by kernel_rfl)) (opensAt_one rfl (opens_int .i64 Try.underlying3 (by kernel_rfl))))))) _ (fun p => ⟨p.1, p.2.1, p.2.2.1, p.2.2.2.1, p.2.2.2.2⟩) ?_ ?_
  · exact fun _ => rfl
  · exact fun _ h => h

/-- What the reading gives of a value of struct type 54. -/
def w54 (x : S54) : Prop := ((Lit.int .i64 x.f0).wf = true) ∧ ((Lit.int .i64 x.f1).wf = true) ∧ (fun l : List ByteArray => l.length ≤ maxLen ∧ ∀ x ∈ l, (fun s : ByteArray => s.size ≤ maxLen) x) x.f2

set_option maxRecDepth 10000 in
theorem o54 : Opens Try.prog 54 k54 w54 := by
  refine opens_struct Try.underlying54 (by kernel_rfl) (opensAt_cons rfl (opens_int .i64 Try.underlying3 (by kernel_rfl)) (opensAt_cons rfl (opens_int .i64 Try.underlying3 (by kernel_rfl)) (opensAt_one rfl (opens_slice Try.underlying30 (by kernel_rfl) (opens_string Try.underlying9 (by kernel_rfl)))))) _ (fun p => ⟨p.1, p.2.1, p.2.2⟩) ?_ ?_
  · exact fun _ => rfl
  · exact fun _ h => h

/-- What the reading gives of a value of struct type 64. -/
def w64 (x : S64) : Prop := ((Lit.int .i64 x.f0).wf = true) ∧ ((Lit.int .i64 x.f1).wf = true) ∧ ((Lit.int .i64 x.f2).wf = true) ∧ (x.f3.size ≤ maxLen) ∧ w54 x.f4 ∧ w33 x.f5 ∧ (fun l : List S104 => l.length ≤ maxLen ∧ ∀ x ∈ l, w104 x) x.f6 ∧ True ∧ (fun l : List S92 => l.length ≤ maxLen ∧ ∀ x ∈ l, w92 x) x.f8 ∧ (x.f9.size ≤ maxLen)

set_option maxRecDepth 10000 in
theorem o64 : Opens Try.prog 64 k64 w64 := by
  refine opens_struct Try.underlying64 (by kernel_rfl) (opensAt_cons rfl (opens_int .i64 Try.underlying3 (by kernel_rfl)) (opensAt_cons rfl (opens_int .i64 Try.underlying3 (by kernel_rfl)) (opensAt_cons rfl (opens_int .i64 Try.underlying3 (by kernel_rfl)) (opensAt_cons rfl (opens_string Try.underlying9 (by kernel_rfl)) (opensAt_cons rfl o54 (opensAt_cons rfl o33 (opensAt_cons rfl (opens_slice Try.underlying46 (by kernel_rfl) o104) (opensAt_cons rfl (opens_bool Try.underlying4 (by kernel_rfl)) (opensAt_cons rfl (opens_slice Try.underlying22 (by kernel_rfl) o92) (opensAt_one rfl (opens_string Try.underlying9 (by kernel_rfl)))))))))))) _ (fun p => ⟨p.1, p.2.1, p.2.2.1, p.2.2.2.1, p.2.2.2.2.1, p.2.2.2.2.2.1, p.2.2.2.2.2.2.1, p.2.2.2.2.2.2.2.1, p.2.2.2.2.2.2.2.2.1, p.2.2.2.2.2.2.2.2.2⟩) ?_ ?_
  · exact fun _ => rfl
  · exact fun _ h => h

/-- What the reading gives of a value of struct type 75. -/
def w75 (x : S75) : Prop := ((Lit.int .i64 x.f0).wf = true) ∧ ((Lit.int .i64 x.f1).wf = true) ∧ (x.f2.size ≤ maxLen)

set_option maxRecDepth 10000 in
theorem o75 : Opens Try.prog 75 k75 w75 := by
  refine opens_struct Try.underlying75 (by kernel_rfl) (opensAt_cons rfl (opens_int .i64 Try.underlying3 (by kernel_rfl)) (opensAt_cons rfl (opens_int .i64 Try.underlying3 (by kernel_rfl)) (opensAt_one rfl (opens_string Try.underlying9 (by kernel_rfl))))) _ (fun p => ⟨p.1, p.2.1, p.2.2⟩) ?_ ?_
  · exact fun _ => rfl
  · exact fun _ h => h

/-- What the reading gives of a value of struct type 77. -/
def w77 (x : S77) : Prop := ((Lit.int .i64 x.f0).wf = true) ∧ ((Lit.int .i64 x.f1).wf = true) ∧ (x.f2.size ≤ maxLen)

set_option maxRecDepth 10000 in
theorem o77 : Opens Try.prog 77 k77 w77 := by
  refine opens_struct Try.underlying77 (by kernel_rfl) (opensAt_cons rfl (opens_int .i64 Try.underlying3 (by kernel_rfl)) (opensAt_cons rfl (opens_int .i64 Try.underlying3 (by kernel_rfl)) (opensAt_one rfl (opens_string Try.underlying9 (by kernel_rfl))))) _ (fun p => ⟨p.1, p.2.1, p.2.2⟩) ?_ ?_
  · exact fun _ => rfl
  · exact fun _ h => h

/-- What the reading gives of a value of struct type 79. -/
def w79 (x : S79) : Prop := ((Lit.int .i64 x.f0).wf = true) ∧ (x.f1.size ≤ maxLen) ∧ ((Lit.int .i64 x.f2).wf = true) ∧ (fun l : List S64 => l.length ≤ maxLen ∧ ∀ x ∈ l, w64 x) x.f3 ∧ w75 x.f4 ∧ w77 x.f5 ∧ w54 x.f6 ∧ w33 x.f7

set_option maxRecDepth 10000 in
theorem o79 : Opens Try.prog 79 k79 w79 := by
  refine opens_struct Try.underlying79 (by kernel_rfl) (opensAt_cons rfl (opens_int .i64 Try.underlying3 (by kernel_rfl)) (opensAt_cons rfl (opens_string Try.underlying9 (by kernel_rfl)) (opensAt_cons rfl (opens_int .i64 Try.underlying3 (by kernel_rfl)) (opensAt_cons rfl (opens_slice Try.underlying73 (by kernel_rfl) o64) (opensAt_cons rfl o75 (opensAt_cons rfl o77 (opensAt_cons rfl o54 (opensAt_one rfl o33)))))))) _ (fun p => ⟨p.1, p.2.1, p.2.2.1, p.2.2.2.1, p.2.2.2.2.1, p.2.2.2.2.2.1, p.2.2.2.2.2.2.1, p.2.2.2.2.2.2.2⟩) ?_ ?_
  · exact fun _ => rfl
  · exact fun _ h => h

theorem eqA83 (d : Nat) (w : World) (x0 y0 : Int) (x1 y1 : Int) (x2 y2 : ByteArray) :
    (Op.equalIn (d + 2) 83 (.agg #[.int .i64 x0, .int .i64 x1, .string x2]) (.agg #[.int .i64 y0, .int .i64 y1, .string y2])).run Try.prog w = .ok (x0 == y0 && (x1 == y1 && (x2.toList == y2.toList))) w := by
  refine eqA_of Try.underlying83 (by kernel_rfl) ?_
  refine eqf_cons (by rfl) (by go_simp; rfl) (by go_simp; rfl) (by go_simp) ?_
  refine eqf_cons (by rfl) (by go_simp; rfl) (by go_simp; rfl) (by go_simp) ?_
  exact eqf_last (by rfl) (by go_simp; rfl) (by go_simp; rfl) (by go_simp)

theorem eqA84 (d : Nat) (w : World) (x0 y0 : Int) (x1 y1 : Int) (x2 y2 : ByteArray) :
    (Op.equalIn (d + 2) 84 (.agg #[.int .i64 x0, .int .i64 x1, .string x2]) (.agg #[.int .i64 y0, .int .i64 y1, .string y2])).run Try.prog w = .ok (x0 == y0 && (x1 == y1 && (x2.toList == y2.toList))) w := by
  refine eqA_of Try.underlying84 (by kernel_rfl) ?_
  refine eqf_cons (by rfl) (by go_simp; rfl) (by go_simp; rfl) (by go_simp) ?_
  refine eqf_cons (by rfl) (by go_simp; rfl) (by go_simp; rfl) (by go_simp) ?_
  exact eqf_last (by rfl) (by go_simp; rfl) (by go_simp; rfl) (by go_simp)

end Go.Proofs.Ytieecjilnaijkaa.F
