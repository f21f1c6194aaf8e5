/-
  No cell of these rows narrows 'for every input' (looked for: loops, veiled, ifaces, maps, wideKeys, modest, calm, conditions, laid).
  DERIVED. THE GIVEN ROWS OF THIS SEAT. 7 by the template 'for every input the law returns true; each argument reads behind the call as it read before'; 0 by the template 'total and deterministic' (their statements: YtnieghbgcjbnhaaTotals.lean).
  GIVEN WITH THE SEED: the statements are not yours to turn. If you find one false, say at which input.
  Laid BY PROGRAM, IN A SANDBOX (cutbox-rows.mjs): the forced cells as the released guide's own fill.sh prints them over the translation a32bd2b40e63615a… (all of the seat's roots in one cut). By AI agents, Wed Nov 11 2026. No macro, syntax, notation, axiom, sorry.
-/
import Derived.Test.YtnieghbgcjbnhaaChecked
import GoSem.Claim
import GoSem.ClaimJoined
import GoSem.ClaimMapViews
import Derived.JoinedTies
import Derived.KernelRfl
namespace Go.Proofs.Ytnieghbgcjbnhaa
/- THE CELL 'sum', in the pinned program and in every row, IS THE sha256 OF THE DUMP (.gsa) THAT YtnieghbgcjbnhaaProg.lean LOADS. Nothing in Lean hashes anything: it is a label: what it is worth is what the hold of that sum in a sandbox is worth. -/
noncomputable def Try.pinned : Pinned := { name := "ytnieghbgcjbnhaa", sum := "a32bd2b40e63615a9bfe3fadf0eb0656a359fb8123623b7b077e338165263e2b", checked := Try.checked }
namespace Rows
def none {H : Type} : Left H := { results := [], args := [] }

/-- 'laws.FnPooled': WHATEVER THE INPUT: true; the input reads as it did. -/
def fnPooledSpec : ChangeSpec := { name := "fnPooled", fn := fun _ => fun
  | [d] => { results := [.lit (.bool true)], args := [d] }
  | _ => none }
def fnPooledRow : OpenClaim := { program := "ytnieghbgcjbnhaa", sum := "a32bd2b40e63615a9bfe3fadf0eb0656a359fb8123623b7b077e338165263e2b", func := "loop.example/g00194/laws.FnPooled", spec := "fnPooled", inPlace := ["slices.overlaps[loop.example/g00194/impl.Tx]"], unfollowed := true, recurses := true, apart := false }
def FnPooledSaid : Prop := fnPooledRow.holds Try.pinned (OpenSpec.ofChange fnPooledSpec)

/-- ITS FALSE NEIGHBOUR: 'it returns false'. Refute it at one input. -/
def fnPooledWrong : ChangeSpec := { name := "fnPooled", fn := fun _ => fun
  | [d] => { results := [.lit (.bool false)], args := [d] }
  | _ => none }
def FnPooledWrongFalsely : Prop := fnPooledRow.holds Try.pinned (OpenSpec.ofChange fnPooledWrong)

/-- 'laws.FnExactPoolAdd': WHATEVER THE INPUT: true; the input reads as it did. -/
def fnExactPoolAddSpec : ChangeSpec := { name := "fnExactPoolAdd", fn := fun _ => fun
  | [d1, d2] => { results := [.lit (.bool true)], args := [d1, d2] }
  | _ => none }
def fnExactPoolAddRow : OpenClaim := { program := "ytnieghbgcjbnhaa", sum := "a32bd2b40e63615a9bfe3fadf0eb0656a359fb8123623b7b077e338165263e2b", func := "loop.example/g00194/laws.FnExactPoolAdd", spec := "fnExactPoolAdd", inPlace := ["slices.overlaps[loop.example/g00194/impl.Tx]"], unfollowed := true, recurses := true, apart := false }
def FnExactPoolAddSaid : Prop := fnExactPoolAddRow.holds Try.pinned (OpenSpec.ofChange fnExactPoolAddSpec)

/-- ITS FALSE NEIGHBOUR: 'it returns false'. Refute it at one input. -/
def fnExactPoolAddWrong : ChangeSpec := { name := "fnExactPoolAdd", fn := fun _ => fun
  | [d1, d2] => { results := [.lit (.bool false)], args := [d1, d2] }
  | _ => none }
def FnExactPoolAddWrongFalsely : Prop := fnExactPoolAddRow.holds Try.pinned (OpenSpec.ofChange fnExactPoolAddWrong)

/-- 'laws.FnBlocks': WHATEVER THE INPUT: true; the input reads as it did. -/
def fnBlocksSpec : ChangeSpec := { name := "fnBlocks", fn := fun _ => fun
  | [d] => { results := [.lit (.bool true)], args := [d] }
  | _ => none }
def fnBlocksRow : OpenClaim := { program := "ytnieghbgcjbnhaa", sum := "a32bd2b40e63615a9bfe3fadf0eb0656a359fb8123623b7b077e338165263e2b", func := "loop.example/g00194/laws.FnBlocks", spec := "fnBlocks", apart := false }
def FnBlocksSaid : Prop := fnBlocksRow.holds Try.pinned (OpenSpec.ofChange fnBlocksSpec)

/-- ITS FALSE NEIGHBOUR: 'it returns false'. Refute it at one input. -/
def fnBlocksWrong : ChangeSpec := { name := "fnBlocks", fn := fun _ => fun
  | [d] => { results := [.lit (.bool false)], args := [d] }
  | _ => none }
def FnBlocksWrongFalsely : Prop := fnBlocksRow.holds Try.pinned (OpenSpec.ofChange fnBlocksWrong)

/-- 'laws.FnFitting': WHATEVER THE INPUT: true; the input reads as it did. -/
def fnFittingSpec : ChangeSpec := { name := "fnFitting", fn := fun _ => fun
  | [d] => { results := [.lit (.bool true)], args := [d] }
  | _ => none }
def fnFittingRow : OpenClaim := { program := "ytnieghbgcjbnhaa", sum := "a32bd2b40e63615a9bfe3fadf0eb0656a359fb8123623b7b077e338165263e2b", func := "loop.example/g00194/laws.FnFitting", spec := "fnFitting", inPlace := ["slices.overlaps[loop.example/g00194/impl.Acct]", "slices.overlaps[loop.example/g00194/impl.Leave]"], unfollowed := true, recurses := true, apart := false }
def FnFittingSaid : Prop := fnFittingRow.holds Try.pinned (OpenSpec.ofChange fnFittingSpec)

/-- ITS FALSE NEIGHBOUR: 'it returns false'. Refute it at one input. -/
def fnFittingWrong : ChangeSpec := { name := "fnFitting", fn := fun _ => fun
  | [d] => { results := [.lit (.bool false)], args := [d] }
  | _ => none }
def FnFittingWrongFalsely : Prop := fnFittingRow.holds Try.pinned (OpenSpec.ofChange fnFittingWrong)

/-- 'laws.FnRead': WHATEVER THE INPUT: true; the input reads as it did. -/
def fnReadSpec : ChangeSpec := { name := "fnRead", fn := fun _ => fun
  | [d] => { results := [.lit (.bool true)], args := [d] }
  | _ => none }
def fnReadRow : OpenClaim := { program := "ytnieghbgcjbnhaa", sum := "a32bd2b40e63615a9bfe3fadf0eb0656a359fb8123623b7b077e338165263e2b", func := "loop.example/g00194/laws.FnRead", spec := "fnRead", apart := false }
def FnReadSaid : Prop := fnReadRow.holds Try.pinned (OpenSpec.ofChange fnReadSpec)

/-- ITS FALSE NEIGHBOUR: 'it returns false'. Refute it at one input. -/
def fnReadWrong : ChangeSpec := { name := "fnRead", fn := fun _ => fun
  | [d] => { results := [.lit (.bool false)], args := [d] }
  | _ => none }
def FnReadWrongFalsely : Prop := fnReadRow.holds Try.pinned (OpenSpec.ofChange fnReadWrong)

/-- 'laws.FnExactPoolFit': WHATEVER THE INPUT: true; the input reads as it did. -/
def fnExactPoolFitSpec : ChangeSpec := { name := "fnExactPoolFit", fn := fun _ => fun
  | [d1, d2] => { results := [.lit (.bool true)], args := [d1, d2] }
  | _ => none }
def fnExactPoolFitRow : OpenClaim := { program := "ytnieghbgcjbnhaa", sum := "a32bd2b40e63615a9bfe3fadf0eb0656a359fb8123623b7b077e338165263e2b", func := "loop.example/g00194/laws.FnExactPoolFit", spec := "fnExactPoolFit", inPlace := ["slices.overlaps[loop.example/g00194/impl.Acct]", "slices.overlaps[loop.example/g00194/impl.Leave]"], unfollowed := true, recurses := true, apart := false }
def FnExactPoolFitSaid : Prop := fnExactPoolFitRow.holds Try.pinned (OpenSpec.ofChange fnExactPoolFitSpec)

/-- ITS FALSE NEIGHBOUR: 'it returns false'. Refute it at one input. -/
def fnExactPoolFitWrong : ChangeSpec := { name := "fnExactPoolFit", fn := fun _ => fun
  | [d1, d2] => { results := [.lit (.bool false)], args := [d1, d2] }
  | _ => none }
def FnExactPoolFitWrongFalsely : Prop := fnExactPoolFitRow.holds Try.pinned (OpenSpec.ofChange fnExactPoolFitWrong)

/-- 'laws.FnExactGetBlock': WHATEVER THE INPUT: true; the input reads as it did. -/
def fnExactGetBlockSpec : ChangeSpec := { name := "fnExactGetBlock", fn := fun _ => fun
  | [d] => { results := [.lit (.bool true)], args := [d] }
  | _ => none }
def fnExactGetBlockRow : OpenClaim := { program := "ytnieghbgcjbnhaa", sum := "a32bd2b40e63615a9bfe3fadf0eb0656a359fb8123623b7b077e338165263e2b", func := "loop.example/g00194/laws.FnExactGetBlock", spec := "fnExactGetBlock", apart := false }
def FnExactGetBlockSaid : Prop := fnExactGetBlockRow.holds Try.pinned (OpenSpec.ofChange fnExactGetBlockSpec)

/-- ITS FALSE NEIGHBOUR: 'it returns false'. Refute it at one input. -/
def fnExactGetBlockWrong : ChangeSpec := { name := "fnExactGetBlock", fn := fun _ => fun
  | [d] => { results := [.lit (.bool false)], args := [d] }
  | _ => none }
def FnExactGetBlockWrongFalsely : Prop := fnExactGetBlockRow.holds Try.pinned (OpenSpec.ofChange fnExactGetBlockWrong)

/- THE SECOND FORM. 'bulk': how many values and letters a reading holds, each counted each time it is reached (what is shared counts as often as it is met; a slice's spare places count too). A statement '..UptoSaid' is the law's where the arguments, and the package variables that the reading takes, are together of bulk at most 1048576: NARROWER than '..Said'. Prove '..Said' where nothing that the law and all that it calls make is longer than what came in: it says more and counts as full. Else prove '..UptoSaid'. A law counts once. -/
mutual
def uptoBulk {H : Type} : DataW H → Nat
  | .lit (.string bytes) => bytes.length + 1
  | .lit _ => 1
  | .nil => 1
  | .ptr d => uptoBulk d + 1
  | .slice elems spare => uptoBulkAll elems + uptoBulkAll spare + 1
  | .agg parts => uptoBulkAll parts + 1
  | .iface _ d => uptoBulk d + 1
  | .map entries => uptoBulkEntries entries + 1
  | .held _ => 1
def uptoBulkAll {H : Type} : List (DataW H) → Nat
  | [] => 0
  | d :: r => uptoBulk d + uptoBulkAll r
def uptoBulkEntries {H : Type} : List (Lit × DataW H) → Nat
  | [] => 0
  | x :: r => uptoBulkEntry x + uptoBulkEntries r
def uptoBulkEntry {H : Type} : Lit × DataW H → Nat
  | (.string bytes, d) => bytes.length + uptoBulk d + 1
  | (_, d) => uptoBulk d + 1
 end
def uptoSmall : (H : Type) → List (DataW H) → Bool := fun _ ds => decide (uptoBulkAll ds ≤ 1048576)
def OpenSpec.upto (s : _root_.Go.ChangeSpec) : _root_.Go.OpenSpec := { _root_.Go.OpenSpec.ofChange s with cond := some uptoSmall }

/-- 'laws.FnPooled', WHERE WHAT IT READS IS OF BULK AT MOST 1048576: true; the input reads as it did. -/
def fnPooledUptoRow : OpenClaim := { program := "ytnieghbgcjbnhaa", sum := "a32bd2b40e63615a9bfe3fadf0eb0656a359fb8123623b7b077e338165263e2b", func := "loop.example/g00194/laws.FnPooled", spec := "fnPooled", inPlace := ["slices.overlaps[loop.example/g00194/impl.Tx]"], unfollowed := true, recurses := true, apart := false, narrowed := true }
def FnPooledUptoSaid : Prop := fnPooledUptoRow.holds Try.pinned (OpenSpec.upto fnPooledSpec)

/-- 'laws.FnExactPoolAdd', WHERE WHAT IT READS IS OF BULK AT MOST 1048576: true; the input reads as it did. -/
def fnExactPoolAddUptoRow : OpenClaim := { program := "ytnieghbgcjbnhaa", sum := "a32bd2b40e63615a9bfe3fadf0eb0656a359fb8123623b7b077e338165263e2b", func := "loop.example/g00194/laws.FnExactPoolAdd", spec := "fnExactPoolAdd", inPlace := ["slices.overlaps[loop.example/g00194/impl.Tx]"], unfollowed := true, recurses := true, apart := false, narrowed := true }
def FnExactPoolAddUptoSaid : Prop := fnExactPoolAddUptoRow.holds Try.pinned (OpenSpec.upto fnExactPoolAddSpec)

/-- 'laws.FnBlocks', WHERE WHAT IT READS IS OF BULK AT MOST 1048576: true; the input reads as it did. -/
def fnBlocksUptoRow : OpenClaim := { program := "ytnieghbgcjbnhaa", sum := "a32bd2b40e63615a9bfe3fadf0eb0656a359fb8123623b7b077e338165263e2b", func := "loop.example/g00194/laws.FnBlocks", spec := "fnBlocks", apart := false, narrowed := true }
def FnBlocksUptoSaid : Prop := fnBlocksUptoRow.holds Try.pinned (OpenSpec.upto fnBlocksSpec)

/-- 'laws.FnFitting', WHERE WHAT IT READS IS OF BULK AT MOST 1048576: true; the input reads as it did. -/
def fnFittingUptoRow : OpenClaim := { program := "ytnieghbgcjbnhaa", sum := "a32bd2b40e63615a9bfe3fadf0eb0656a359fb8123623b7b077e338165263e2b", func := "loop.example/g00194/laws.FnFitting", spec := "fnFitting", inPlace := ["slices.overlaps[loop.example/g00194/impl.Acct]", "slices.overlaps[loop.example/g00194/impl.Leave]"], unfollowed := true, recurses := true, apart := false, narrowed := true }
def FnFittingUptoSaid : Prop := fnFittingUptoRow.holds Try.pinned (OpenSpec.upto fnFittingSpec)

/-- 'laws.FnRead', WHERE WHAT IT READS IS OF BULK AT MOST 1048576: true; the input reads as it did. -/
def fnReadUptoRow : OpenClaim := { program := "ytnieghbgcjbnhaa", sum := "a32bd2b40e63615a9bfe3fadf0eb0656a359fb8123623b7b077e338165263e2b", func := "loop.example/g00194/laws.FnRead", spec := "fnRead", apart := false, narrowed := true }
def FnReadUptoSaid : Prop := fnReadUptoRow.holds Try.pinned (OpenSpec.upto fnReadSpec)

/-- 'laws.FnExactPoolFit', WHERE WHAT IT READS IS OF BULK AT MOST 1048576: true; the input reads as it did. -/
def fnExactPoolFitUptoRow : OpenClaim := { program := "ytnieghbgcjbnhaa", sum := "a32bd2b40e63615a9bfe3fadf0eb0656a359fb8123623b7b077e338165263e2b", func := "loop.example/g00194/laws.FnExactPoolFit", spec := "fnExactPoolFit", inPlace := ["slices.overlaps[loop.example/g00194/impl.Acct]", "slices.overlaps[loop.example/g00194/impl.Leave]"], unfollowed := true, recurses := true, apart := false, narrowed := true }
def FnExactPoolFitUptoSaid : Prop := fnExactPoolFitUptoRow.holds Try.pinned (OpenSpec.upto fnExactPoolFitSpec)

/-- 'laws.FnExactGetBlock', WHERE WHAT IT READS IS OF BULK AT MOST 1048576: true; the input reads as it did. -/
def fnExactGetBlockUptoRow : OpenClaim := { program := "ytnieghbgcjbnhaa", sum := "a32bd2b40e63615a9bfe3fadf0eb0656a359fb8123623b7b077e338165263e2b", func := "loop.example/g00194/laws.FnExactGetBlock", spec := "fnExactGetBlock", apart := false, narrowed := true }
def FnExactGetBlockUptoSaid : Prop := fnExactGetBlockUptoRow.holds Try.pinned (OpenSpec.upto fnExactGetBlockSpec)

end Rows
end Go.Proofs.Ytnieghbgcjbnhaa
