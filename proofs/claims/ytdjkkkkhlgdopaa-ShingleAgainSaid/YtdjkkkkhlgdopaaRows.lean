/-
  No cell of these rows narrows 'for every input' (looked for: loops, veiled, ifaces, maps, wideKeys, modest, calm, conditions, laid).
  DERIVED. THE GIVEN ROWS OF THIS SEAT. 8 by the template 'for every input the law returns true; each argument reads behind the call as it read before'; 0 by the template 'total and deterministic' (their statements: YtdjkkkkhlgdopaaTotals.lean).
  GIVEN WITH THE SEED: the statements are not yours to turn. If you find one false, say at which input.
  Laid BY PROGRAM, IN A SANDBOX (cutbox-rows.mjs): the forced cells as the released guide's own fill.sh prints them over the translation c00f1c5e61b7d11e… (all of the seat's roots in one cut). By AI agents, Wed Nov 11 2026. No macro, syntax, notation, axiom, sorry.
-/
import Derived.Test.YtdjkkkkhlgdopaaChecked
import GoSem.Claim
import GoSem.ClaimJoined
import GoSem.ClaimMapViews
import Derived.JoinedTies
import Derived.KernelRfl
namespace Go.Proofs.Ytdjkkkkhlgdopaa
/- THE CELL 'sum', in the pinned program and in every row, IS THE sha256 OF THE DUMP (.gsa) THAT YtdjkkkkhlgdopaaProg.lean LOADS. Nothing in Lean hashes anything: it is a label: what it is worth is what the hold of that sum in a sandbox is worth. -/
noncomputable def Try.pinned : Pinned := { name := "ytdjkkkkhlgdopaa", sum := "c00f1c5e61b7d11e4ead439f9c6c4f40bf5058c1f0ba4b8ba419380d3ad9c045", checked := Try.checked }
namespace Rows
def none {H : Type} : Left H := { results := [], args := [] }

/-- 'platterlaw09.ShingleKeeps': WHATEVER THE INPUT: true; the input reads as it did. -/
def shingleKeepsSpec : ChangeSpec := { name := "shingleKeeps", fn := fun _ => fun
  | [d1, d2, d3] => { results := [.lit (.bool true)], args := [d1, d2, d3] }
  | _ => none }
def shingleKeepsRow : OpenClaim := { program := "ytdjkkkkhlgdopaa", sum := "c00f1c5e61b7d11e4ead439f9c6c4f40bf5058c1f0ba4b8ba419380d3ad9c045", func := "platter/platterlaw09.ShingleKeeps", spec := "shingleKeeps", unfollowed := true, recurses := true, apart := false }
def ShingleKeepsSaid : Prop := shingleKeepsRow.holds Try.pinned (OpenSpec.ofChange shingleKeepsSpec)

/-- ITS FALSE NEIGHBOUR: 'it returns false'. Refute it at one input. -/
def shingleKeepsWrong : ChangeSpec := { name := "shingleKeeps", fn := fun _ => fun
  | [d1, d2, d3] => { results := [.lit (.bool false)], args := [d1, d2, d3] }
  | _ => none }
def ShingleKeepsWrongFalsely : Prop := shingleKeepsRow.holds Try.pinned (OpenSpec.ofChange shingleKeepsWrong)

/-- 'platterlaw09.ShingleFlushed': WHATEVER THE INPUT: true; the input reads as it did. -/
def shingleFlushedSpec : ChangeSpec := { name := "shingleFlushed", fn := fun _ => fun
  | [d1, d2, d3] => { results := [.lit (.bool true)], args := [d1, d2, d3] }
  | _ => none }
def shingleFlushedRow : OpenClaim := { program := "ytdjkkkkhlgdopaa", sum := "c00f1c5e61b7d11e4ead439f9c6c4f40bf5058c1f0ba4b8ba419380d3ad9c045", func := "platter/platterlaw09.ShingleFlushed", spec := "shingleFlushed", unfollowed := true, recurses := true, apart := false }
def ShingleFlushedSaid : Prop := shingleFlushedRow.holds Try.pinned (OpenSpec.ofChange shingleFlushedSpec)

/-- ITS FALSE NEIGHBOUR: 'it returns false'. Refute it at one input. -/
def shingleFlushedWrong : ChangeSpec := { name := "shingleFlushed", fn := fun _ => fun
  | [d1, d2, d3] => { results := [.lit (.bool false)], args := [d1, d2, d3] }
  | _ => none }
def ShingleFlushedWrongFalsely : Prop := shingleFlushedRow.holds Try.pinned (OpenSpec.ofChange shingleFlushedWrong)

/-- 'platterlaw09.ShingleCheapest': WHATEVER THE INPUT: true; the input reads as it did. -/
def shingleCheapestSpec : ChangeSpec := { name := "shingleCheapest", fn := fun _ => fun
  | [d1, d2, d3] => { results := [.lit (.bool true)], args := [d1, d2, d3] }
  | _ => none }
def shingleCheapestRow : OpenClaim := { program := "ytdjkkkkhlgdopaa", sum := "c00f1c5e61b7d11e4ead439f9c6c4f40bf5058c1f0ba4b8ba419380d3ad9c045", func := "platter/platterlaw09.ShingleCheapest", spec := "shingleCheapest", unfollowed := true, recurses := true, apart := false }
def ShingleCheapestSaid : Prop := shingleCheapestRow.holds Try.pinned (OpenSpec.ofChange shingleCheapestSpec)

/-- ITS FALSE NEIGHBOUR: 'it returns false'. Refute it at one input. -/
def shingleCheapestWrong : ChangeSpec := { name := "shingleCheapest", fn := fun _ => fun
  | [d1, d2, d3] => { results := [.lit (.bool false)], args := [d1, d2, d3] }
  | _ => none }
def ShingleCheapestWrongFalsely : Prop := shingleCheapestRow.holds Try.pinned (OpenSpec.ofChange shingleCheapestWrong)

/-- 'platterlaw09.ShingleAgain': WHATEVER THE INPUT: true; the input reads as it did. -/
def shingleAgainSpec : ChangeSpec := { name := "shingleAgain", fn := fun _ => fun
  | [d1, d2, d3] => { results := [.lit (.bool true)], args := [d1, d2, d3] }
  | _ => none }
def shingleAgainRow : OpenClaim := { program := "ytdjkkkkhlgdopaa", sum := "c00f1c5e61b7d11e4ead439f9c6c4f40bf5058c1f0ba4b8ba419380d3ad9c045", func := "platter/platterlaw09.ShingleAgain", spec := "shingleAgain", unfollowed := true, recurses := true, apart := false }
def ShingleAgainSaid : Prop := shingleAgainRow.holds Try.pinned (OpenSpec.ofChange shingleAgainSpec)

/-- ITS FALSE NEIGHBOUR: 'it returns false'. Refute it at one input. -/
def shingleAgainWrong : ChangeSpec := { name := "shingleAgain", fn := fun _ => fun
  | [d1, d2, d3] => { results := [.lit (.bool false)], args := [d1, d2, d3] }
  | _ => none }
def ShingleAgainWrongFalsely : Prop := shingleAgainRow.holds Try.pinned (OpenSpec.ofChange shingleAgainWrong)

/-- 'platterlaw09.ShingleAsks': WHATEVER THE INPUT: true; the input reads as it did. -/
def shingleAsksSpec : ChangeSpec := { name := "shingleAsks", fn := fun _ => fun
  | [d1, d2, d3] => { results := [.lit (.bool true)], args := [d1, d2, d3] }
  | _ => none }
def shingleAsksRow : OpenClaim := { program := "ytdjkkkkhlgdopaa", sum := "c00f1c5e61b7d11e4ead439f9c6c4f40bf5058c1f0ba4b8ba419380d3ad9c045", func := "platter/platterlaw09.ShingleAsks", spec := "shingleAsks", unfollowed := true, recurses := true, apart := false }
def ShingleAsksSaid : Prop := shingleAsksRow.holds Try.pinned (OpenSpec.ofChange shingleAsksSpec)

/-- ITS FALSE NEIGHBOUR: 'it returns false'. Refute it at one input. -/
def shingleAsksWrong : ChangeSpec := { name := "shingleAsks", fn := fun _ => fun
  | [d1, d2, d3] => { results := [.lit (.bool false)], args := [d1, d2, d3] }
  | _ => none }
def ShingleAsksWrongFalsely : Prop := shingleAsksRow.holds Try.pinned (OpenSpec.ofChange shingleAsksWrong)

/-- 'platterlaw09.ShingleRuns': WHATEVER THE INPUT: true; the input reads as it did. -/
def shingleRunsSpec : ChangeSpec := { name := "shingleRuns", fn := fun _ => fun
  | [d1, d2] => { results := [.lit (.bool true)], args := [d1, d2] }
  | _ => none }
def shingleRunsRow : OpenClaim := { program := "ytdjkkkkhlgdopaa", sum := "c00f1c5e61b7d11e4ead439f9c6c4f40bf5058c1f0ba4b8ba419380d3ad9c045", func := "platter/platterlaw09.ShingleRuns", spec := "shingleRuns", unfollowed := true, recurses := true, apart := false }
def ShingleRunsSaid : Prop := shingleRunsRow.holds Try.pinned (OpenSpec.ofChange shingleRunsSpec)

/-- ITS FALSE NEIGHBOUR: 'it returns false'. Refute it at one input. -/
def shingleRunsWrong : ChangeSpec := { name := "shingleRuns", fn := fun _ => fun
  | [d1, d2] => { results := [.lit (.bool false)], args := [d1, d2] }
  | _ => none }
def ShingleRunsWrongFalsely : Prop := shingleRunsRow.holds Try.pinned (OpenSpec.ofChange shingleRunsWrong)

/-- 'platterlaw09.ShingleSqueezed': WHATEVER THE INPUT: true; the input reads as it did. -/
def shingleSqueezedSpec : ChangeSpec := { name := "shingleSqueezed", fn := fun _ => fun
  | [d1, d2, d3] => { results := [.lit (.bool true)], args := [d1, d2, d3] }
  | _ => none }
def shingleSqueezedRow : OpenClaim := { program := "ytdjkkkkhlgdopaa", sum := "c00f1c5e61b7d11e4ead439f9c6c4f40bf5058c1f0ba4b8ba419380d3ad9c045", func := "platter/platterlaw09.ShingleSqueezed", spec := "shingleSqueezed", unfollowed := true, recurses := true, apart := false }
def ShingleSqueezedSaid : Prop := shingleSqueezedRow.holds Try.pinned (OpenSpec.ofChange shingleSqueezedSpec)

/-- ITS FALSE NEIGHBOUR: 'it returns false'. Refute it at one input. -/
def shingleSqueezedWrong : ChangeSpec := { name := "shingleSqueezed", fn := fun _ => fun
  | [d1, d2, d3] => { results := [.lit (.bool false)], args := [d1, d2, d3] }
  | _ => none }
def ShingleSqueezedWrongFalsely : Prop := shingleSqueezedRow.holds Try.pinned (OpenSpec.ofChange shingleSqueezedWrong)

/-- 'platterlaw09.ShinglePrices': WHATEVER THE INPUT: true; the input reads as it did. -/
def shinglePricesSpec : ChangeSpec := { name := "shinglePrices", fn := fun _ => fun
  | [d1, d2] => { results := [.lit (.bool true)], args := [d1, d2] }
  | _ => none }
def shinglePricesRow : OpenClaim := { program := "ytdjkkkkhlgdopaa", sum := "c00f1c5e61b7d11e4ead439f9c6c4f40bf5058c1f0ba4b8ba419380d3ad9c045", func := "platter/platterlaw09.ShinglePrices", spec := "shinglePrices", unfollowed := true, recurses := true, apart := false }
def ShinglePricesSaid : Prop := shinglePricesRow.holds Try.pinned (OpenSpec.ofChange shinglePricesSpec)

/-- ITS FALSE NEIGHBOUR: 'it returns false'. Refute it at one input. -/
def shinglePricesWrong : ChangeSpec := { name := "shinglePrices", fn := fun _ => fun
  | [d1, d2] => { results := [.lit (.bool false)], args := [d1, d2] }
  | _ => none }
def ShinglePricesWrongFalsely : Prop := shinglePricesRow.holds Try.pinned (OpenSpec.ofChange shinglePricesWrong)

/- THE SECOND FORM. 'bulk': how many values and letters a reading holds, each counted each time it is reached (what is shared counts as often as it is met; a slice's spare places count too). A statement '..UptoSaid' is the law's where the arguments, and the package variables that the reading takes, are together of bulk at most 1048576: NARROWER than '..Said'. Prove '..Said' where nothing that the law and all that it calls make is longer than what came in: it says more and counts as full. Else prove '..UptoSaid'. A law counts once. -/
mutual
def uptoBulk {H : Type} : DataW H → Nat
  | .lit (.string bytes) => bytes.length + 1
  | .lit _ => 1
  | .nil => 1
  | .ptr d => uptoBulk d + 1
  | .slice elems spare => uptoBulkAll elems + uptoBulkAll spare + 1
  | .agg parts => uptoBulkAll parts + 1
  | .iface _ d => uptoBulk d + 1
  | .map entries => uptoBulkEntries entries + 1
  | .held _ => 1
def uptoBulkAll {H : Type} : List (DataW H) → Nat
  | [] => 0
  | d :: r => uptoBulk d + uptoBulkAll r
def uptoBulkEntries {H : Type} : List (Lit × DataW H) → Nat
  | [] => 0
  | x :: r => uptoBulkEntry x + uptoBulkEntries r
def uptoBulkEntry {H : Type} : Lit × DataW H → Nat
  | (.string bytes, d) => bytes.length + uptoBulk d + 1
  | (_, d) => uptoBulk d + 1
 end
def uptoSmall : (H : Type) → List (DataW H) → Bool := fun _ ds => decide (uptoBulkAll ds ≤ 1048576)
def OpenSpec.upto (s : _root_.Go.ChangeSpec) : _root_.Go.OpenSpec := { _root_.Go.OpenSpec.ofChange s with cond := some uptoSmall }

/-- 'platterlaw09.ShingleKeeps', WHERE WHAT IT READS IS OF BULK AT MOST 1048576: true; the input reads as it did. -/
def shingleKeepsUptoRow : OpenClaim := { program := "ytdjkkkkhlgdopaa", sum := "c00f1c5e61b7d11e4ead439f9c6c4f40bf5058c1f0ba4b8ba419380d3ad9c045", func := "platter/platterlaw09.ShingleKeeps", spec := "shingleKeeps", unfollowed := true, recurses := true, apart := false, narrowed := true }
def ShingleKeepsUptoSaid : Prop := shingleKeepsUptoRow.holds Try.pinned (OpenSpec.upto shingleKeepsSpec)

/-- 'platterlaw09.ShingleFlushed', WHERE WHAT IT READS IS OF BULK AT MOST 1048576: true; the input reads as it did. -/
def shingleFlushedUptoRow : OpenClaim := { program := "ytdjkkkkhlgdopaa", sum := "c00f1c5e61b7d11e4ead439f9c6c4f40bf5058c1f0ba4b8ba419380d3ad9c045", func := "platter/platterlaw09.ShingleFlushed", spec := "shingleFlushed", unfollowed := true, recurses := true, apart := false, narrowed := true }
def ShingleFlushedUptoSaid : Prop := shingleFlushedUptoRow.holds Try.pinned (OpenSpec.upto shingleFlushedSpec)

/-- 'platterlaw09.ShingleCheapest', WHERE WHAT IT READS IS OF BULK AT MOST 1048576: true; the input reads as it did. -/
def shingleCheapestUptoRow : OpenClaim := { program := "ytdjkkkkhlgdopaa", sum := "c00f1c5e61b7d11e4ead439f9c6c4f40bf5058c1f0ba4b8ba419380d3ad9c045", func := "platter/platterlaw09.ShingleCheapest", spec := "shingleCheapest", unfollowed := true, recurses := true, apart := false, narrowed := true }
def ShingleCheapestUptoSaid : Prop := shingleCheapestUptoRow.holds Try.pinned (OpenSpec.upto shingleCheapestSpec)

/-- 'platterlaw09.ShingleAgain', WHERE WHAT IT READS IS OF BULK AT MOST 1048576: true; the input reads as it did. -/
def shingleAgainUptoRow : OpenClaim := { program := "ytdjkkkkhlgdopaa", sum := "c00f1c5e61b7d11e4ead439f9c6c4f40bf5058c1f0ba4b8ba419380d3ad9c045", func := "platter/platterlaw09.ShingleAgain", spec := "shingleAgain", unfollowed := true, recurses := true, apart := false, narrowed := true }
def ShingleAgainUptoSaid : Prop := shingleAgainUptoRow.holds Try.pinned (OpenSpec.upto shingleAgainSpec)

/-- 'platterlaw09.ShingleAsks', WHERE WHAT IT READS IS OF BULK AT MOST 1048576: true; the input reads as it did. -/
def shingleAsksUptoRow : OpenClaim := { program := "ytdjkkkkhlgdopaa", sum := "c00f1c5e61b7d11e4ead439f9c6c4f40bf5058c1f0ba4b8ba419380d3ad9c045", func := "platter/platterlaw09.ShingleAsks", spec := "shingleAsks", unfollowed := true, recurses := true, apart := false, narrowed := true }
def ShingleAsksUptoSaid : Prop := shingleAsksUptoRow.holds Try.pinned (OpenSpec.upto shingleAsksSpec)

/-- 'platterlaw09.ShingleRuns', WHERE WHAT IT READS IS OF BULK AT MOST 1048576: true; the input reads as it did. -/
def shingleRunsUptoRow : OpenClaim := { program := "ytdjkkkkhlgdopaa", sum := "c00f1c5e61b7d11e4ead439f9c6c4f40bf5058c1f0ba4b8ba419380d3ad9c045", func := "platter/platterlaw09.ShingleRuns", spec := "shingleRuns", unfollowed := true, recurses := true, apart := false, narrowed := true }
def ShingleRunsUptoSaid : Prop := shingleRunsUptoRow.holds Try.pinned (OpenSpec.upto shingleRunsSpec)

/-- 'platterlaw09.ShingleSqueezed', WHERE WHAT IT READS IS OF BULK AT MOST 1048576: true; the input reads as it did. -/
def shingleSqueezedUptoRow : OpenClaim := { program := "ytdjkkkkhlgdopaa", sum := "c00f1c5e61b7d11e4ead439f9c6c4f40bf5058c1f0ba4b8ba419380d3ad9c045", func := "platter/platterlaw09.ShingleSqueezed", spec := "shingleSqueezed", unfollowed := true, recurses := true, apart := false, narrowed := true }
def ShingleSqueezedUptoSaid : Prop := shingleSqueezedUptoRow.holds Try.pinned (OpenSpec.upto shingleSqueezedSpec)

/-- 'platterlaw09.ShinglePrices', WHERE WHAT IT READS IS OF BULK AT MOST 1048576: true; the input reads as it did. -/
def shinglePricesUptoRow : OpenClaim := { program := "ytdjkkkkhlgdopaa", sum := "c00f1c5e61b7d11e4ead439f9c6c4f40bf5058c1f0ba4b8ba419380d3ad9c045", func := "platter/platterlaw09.ShinglePrices", spec := "shinglePrices", unfollowed := true, recurses := true, apart := false, narrowed := true }
def ShinglePricesUptoSaid : Prop := shinglePricesUptoRow.holds Try.pinned (OpenSpec.upto shinglePricesSpec)

end Rows
end Go.Proofs.Ytdjkkkkhlgdopaa
