/-
  No cell of these rows narrows 'for every input' (looked for: loops, veiled, ifaces, maps, wideKeys, modest, calm, conditions, laid).
  DERIVED. THE GIVEN ROWS OF THIS SEAT. 4 by the template 'for every input the law returns true; each argument reads behind the call as it read before'; 0 by the template 'total and deterministic' (their statements: YtggmeldoecnkaaaTotals.lean).
  GIVEN WITH THE SEED: the statements are not yours to turn. If you find one false, say at which input.
  Laid BY PROGRAM, IN A SANDBOX (cutbox-rows.mjs): the forced cells as the released guide's own fill.sh prints them over the translation ac9472df3d4ce393… (all of the seat's roots in one cut). By AI agents, Wed Nov 11 2026. No macro, syntax, notation, axiom, sorry.
-/
import Derived.Test.YtggmeldoecnkaaaChecked
import GoSem.Claim
import GoSem.ClaimJoined
import GoSem.ClaimMapViews
import Derived.JoinedTies
import Derived.KernelRfl
namespace Go.Proofs.Ytggmeldoecnkaaa
/- THE CELL 'sum', in the pinned program and in every row, IS THE sha256 OF THE DUMP (.gsa) THAT YtggmeldoecnkaaaProg.lean LOADS. Nothing in Lean hashes anything: it is a label: what it is worth is what the hold of that sum in a sandbox is worth. -/
noncomputable def Try.pinned : Pinned := { name := "ytggmeldoecnkaaa", sum := "ac9472df3d4ce393531e2669aa71bb9c7d4aecae24b0bf46050b1af2c5db4898", checked := Try.checked }
namespace Rows
def none {H : Type} : Left H := { results := [], args := [] }

/-- 'laws.FnFitting': WHATEVER THE INPUT: true; the input reads as it did. -/
def fnFittingSpec : ChangeSpec := { name := "fnFitting", fn := fun _ => fun
  | [d] => { results := [.lit (.bool true)], args := [d] }
  | _ => none }
def fnFittingRow : OpenClaim := { program := "ytggmeldoecnkaaa", sum := "ac9472df3d4ce393531e2669aa71bb9c7d4aecae24b0bf46050b1af2c5db4898", func := "loop.example/g00194/laws.FnFitting", spec := "fnFitting", inPlace := ["slices.overlaps[loop.example/g00194/impl.Acct]", "slices.overlaps[loop.example/g00194/impl.Leave]"], unfollowed := true, recurses := true, apart := false }
def FnFittingSaid : Prop := fnFittingRow.holds Try.pinned (OpenSpec.ofChange fnFittingSpec)

/-- ITS FALSE NEIGHBOUR: 'it returns false'. Refute it at one input. -/
def fnFittingWrong : ChangeSpec := { name := "fnFitting", fn := fun _ => fun
  | [d] => { results := [.lit (.bool false)], args := [d] }
  | _ => none }
def FnFittingWrongFalsely : Prop := fnFittingRow.holds Try.pinned (OpenSpec.ofChange fnFittingWrong)

/-- 'laws.FnExactPoolFit': WHATEVER THE INPUT: true; the input reads as it did. -/
def fnExactPoolFitSpec : ChangeSpec := { name := "fnExactPoolFit", fn := fun _ => fun
  | [d1, d2] => { results := [.lit (.bool true)], args := [d1, d2] }
  | _ => none }
def fnExactPoolFitRow : OpenClaim := { program := "ytggmeldoecnkaaa", sum := "ac9472df3d4ce393531e2669aa71bb9c7d4aecae24b0bf46050b1af2c5db4898", func := "loop.example/g00194/laws.FnExactPoolFit", spec := "fnExactPoolFit", inPlace := ["slices.overlaps[loop.example/g00194/impl.Acct]", "slices.overlaps[loop.example/g00194/impl.Leave]"], unfollowed := true, recurses := true, apart := false }
def FnExactPoolFitSaid : Prop := fnExactPoolFitRow.holds Try.pinned (OpenSpec.ofChange fnExactPoolFitSpec)

/-- ITS FALSE NEIGHBOUR: 'it returns false'. Refute it at one input. -/
def fnExactPoolFitWrong : ChangeSpec := { name := "fnExactPoolFit", fn := fun _ => fun
  | [d1, d2] => { results := [.lit (.bool false)], args := [d1, d2] }
  | _ => none }
def FnExactPoolFitWrongFalsely : Prop := fnExactPoolFitRow.holds Try.pinned (OpenSpec.ofChange fnExactPoolFitWrong)

/-- 'laws.FnExactAddTo': WHATEVER THE INPUT: true; the input reads as it did. -/
def fnExactAddToSpec : ChangeSpec := { name := "fnExactAddTo", fn := fun _ => fun
  | [d1, d2] => { results := [.lit (.bool true)], args := [d1, d2] }
  | _ => none }
def fnExactAddToRow : OpenClaim := { program := "ytggmeldoecnkaaa", sum := "ac9472df3d4ce393531e2669aa71bb9c7d4aecae24b0bf46050b1af2c5db4898", func := "loop.example/g00194/laws.FnExactAddTo", spec := "fnExactAddTo", inPlace := ["slices.overlaps[loop.example/g00194/impl.Block]"], unfollowed := true, recurses := true, apart := false }
def FnExactAddToSaid : Prop := fnExactAddToRow.holds Try.pinned (OpenSpec.ofChange fnExactAddToSpec)

/-- ITS FALSE NEIGHBOUR: 'it returns false'. Refute it at one input. -/
def fnExactAddToWrong : ChangeSpec := { name := "fnExactAddTo", fn := fun _ => fun
  | [d1, d2] => { results := [.lit (.bool false)], args := [d1, d2] }
  | _ => none }
def FnExactAddToWrongFalsely : Prop := fnExactAddToRow.holds Try.pinned (OpenSpec.ofChange fnExactAddToWrong)

/-- 'laws.FnExactNodeNew': WHATEVER THE INPUT: true; the input reads as it did. -/
def fnExactNodeNewSpec : ChangeSpec := { name := "fnExactNodeNew", fn := fun _ => fun
  | [d1, d2] => { results := [.lit (.bool true)], args := [d1, d2] }
  | _ => none }
def fnExactNodeNewRow : OpenClaim := { program := "ytggmeldoecnkaaa", sum := "ac9472df3d4ce393531e2669aa71bb9c7d4aecae24b0bf46050b1af2c5db4898", func := "loop.example/g00194/laws.FnExactNodeNew", spec := "fnExactNodeNew", apart := false }
def FnExactNodeNewSaid : Prop := fnExactNodeNewRow.holds Try.pinned (OpenSpec.ofChange fnExactNodeNewSpec)

/-- ITS FALSE NEIGHBOUR: 'it returns false'. Refute it at one input. -/
def fnExactNodeNewWrong : ChangeSpec := { name := "fnExactNodeNew", fn := fun _ => fun
  | [d1, d2] => { results := [.lit (.bool false)], args := [d1, d2] }
  | _ => none }
def FnExactNodeNewWrongFalsely : Prop := fnExactNodeNewRow.holds Try.pinned (OpenSpec.ofChange fnExactNodeNewWrong)

/- THE SECOND FORM. 'bulk': how many values and letters a reading holds, each counted each time it is reached (what is shared counts as often as it is met; a slice's spare places count too). A statement '..UptoSaid' is the law's where the arguments, and the package variables that the reading takes, are together of bulk at most 1048576: NARROWER than '..Said'. Prove '..Said' where nothing that the law and all that it calls make is longer than what came in: it says more and counts as full. Else prove '..UptoSaid'. A law counts once. -/
mutual
def uptoBulk {H : Type} : DataW H → Nat
  | .lit (.string bytes) => bytes.length + 1
  | .lit _ => 1
  | .nil => 1
  | .ptr d => uptoBulk d + 1
  | .slice elems spare => uptoBulkAll elems + uptoBulkAll spare + 1
  | .agg parts => uptoBulkAll parts + 1
  | .iface _ d => uptoBulk d + 1
  | .map entries => uptoBulkEntries entries + 1
  | .held _ => 1
def uptoBulkAll {H : Type} : List (DataW H) → Nat
  | [] => 0
  | d :: r => uptoBulk d + uptoBulkAll r
def uptoBulkEntries {H : Type} : List (Lit × DataW H) → Nat
  | [] => 0
  | x :: r => uptoBulkEntry x + uptoBulkEntries r
def uptoBulkEntry {H : Type} : Lit × DataW H → Nat
  | (.string bytes, d) => bytes.length + uptoBulk d + 1
  | (_, d) => uptoBulk d + 1
 end
def uptoSmall : (H : Type) → List (DataW H) → Bool := fun _ ds => decide (uptoBulkAll ds ≤ 1048576)
def OpenSpec.upto (s : _root_.Go.ChangeSpec) : _root_.Go.OpenSpec := { _root_.Go.OpenSpec.ofChange s with cond := some uptoSmall }

/-- 'laws.FnFitting', WHERE WHAT IT READS IS OF BULK AT MOST 1048576: true; the input reads as it did. -/
def fnFittingUptoRow : OpenClaim := { program := "ytggmeldoecnkaaa", sum := "ac9472df3d4ce393531e2669aa71bb9c7d4aecae24b0bf46050b1af2c5db4898", func := "loop.example/g00194/laws.FnFitting", spec := "fnFitting", inPlace := ["slices.overlaps[loop.example/g00194/impl.Acct]", "slices.overlaps[loop.example/g00194/impl.Leave]"], unfollowed := true, recurses := true, apart := false, narrowed := true }
def FnFittingUptoSaid : Prop := fnFittingUptoRow.holds Try.pinned (OpenSpec.upto fnFittingSpec)

/-- 'laws.FnExactPoolFit', WHERE WHAT IT READS IS OF BULK AT MOST 1048576: true; the input reads as it did. -/
def fnExactPoolFitUptoRow : OpenClaim := { program := "ytggmeldoecnkaaa", sum := "ac9472df3d4ce393531e2669aa71bb9c7d4aecae24b0bf46050b1af2c5db4898", func := "loop.example/g00194/laws.FnExactPoolFit", spec := "fnExactPoolFit", inPlace := ["slices.overlaps[loop.example/g00194/impl.Acct]", "slices.overlaps[loop.example/g00194/impl.Leave]"], unfollowed := true, recurses := true, apart := false, narrowed := true }
def FnExactPoolFitUptoSaid : Prop := fnExactPoolFitUptoRow.holds Try.pinned (OpenSpec.upto fnExactPoolFitSpec)

/-- 'laws.FnExactAddTo', WHERE WHAT IT READS IS OF BULK AT MOST 1048576: true; the input reads as it did. -/
def fnExactAddToUptoRow : OpenClaim := { program := "ytggmeldoecnkaaa", sum := "ac9472df3d4ce393531e2669aa71bb9c7d4aecae24b0bf46050b1af2c5db4898", func := "loop.example/g00194/laws.FnExactAddTo", spec := "fnExactAddTo", inPlace := ["slices.overlaps[loop.example/g00194/impl.Block]"], unfollowed := true, recurses := true, apart := false, narrowed := true }
def FnExactAddToUptoSaid : Prop := fnExactAddToUptoRow.holds Try.pinned (OpenSpec.upto fnExactAddToSpec)

/-- 'laws.FnExactNodeNew', WHERE WHAT IT READS IS OF BULK AT MOST 1048576: true; the input reads as it did. -/
def fnExactNodeNewUptoRow : OpenClaim := { program := "ytggmeldoecnkaaa", sum := "ac9472df3d4ce393531e2669aa71bb9c7d4aecae24b0bf46050b1af2c5db4898", func := "loop.example/g00194/laws.FnExactNodeNew", spec := "fnExactNodeNew", apart := false, narrowed := true }
def FnExactNodeNewUptoSaid : Prop := fnExactNodeNewUptoRow.holds Try.pinned (OpenSpec.upto fnExactNodeNewSpec)

end Rows
end Go.Proofs.Ytggmeldoecnkaaa
