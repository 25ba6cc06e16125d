/-
  No cell of these rows narrows 'for every input' (looked for: loops, veiled, ifaces, maps, wideKeys, modest, calm, conditions, laid).
  DERIVED. THE GIVEN ROWS OF THIS SEAT. 5 by the template 'for every input the law returns true; each argument reads behind the call as it read before'; 0 by the template 'total and deterministic' (their statements: YthjcfbkgfnnkkaaTotals.lean).
  GIVEN WITH THE SEED: the statements are not yours to turn. If you find one false, say at which input.
  Laid BY PROGRAM, IN A SANDBOX (cutbox-rows.mjs): the forced cells as the released guide's own fill.sh prints them over the translation 035a685f6c161275… (all of the seat's roots in one cut). By AI agents, Wed Nov 11 2026. No macro, syntax, notation, axiom, sorry.
-/
import Derived.Test.YthjcfbkgfnnkkaaChecked
import GoSem.Claim
import GoSem.ClaimJoined
import GoSem.ClaimMapViews
import Derived.JoinedTies
import Derived.KernelRfl
namespace Go.Proofs.Ythjcfbkgfnnkkaa
/- THE CELL 'sum', in the pinned program and in every row, IS THE sha256 OF THE DUMP (.gsa) THAT YthjcfbkgfnnkkaaProg.lean LOADS. Nothing in Lean hashes anything: it is a label: what it is worth is what the hold of that sum in a sandbox is worth. -/
noncomputable def Try.pinned : Pinned := { name := "ythjcfbkgfnnkkaa", sum := "035a685f6c16127546dc115b5cd40ce7fbe9269d7c8c06bf049706ea78fc7467", checked := Try.checked }
namespace Rows
def none {H : Type} : Left H := { results := [], args := [] }

/-- 'platterlaw07.QueueTrue': WHATEVER THE INPUT: true; the input reads as it did. -/
def queueTrueSpec : ChangeSpec := { name := "queueTrue", fn := fun _ => fun
  | [d1, d2] => { results := [.lit (.bool true)], args := [d1, d2] }
  | _ => none }
def queueTrueRow : OpenClaim := { program := "ythjcfbkgfnnkkaa", sum := "035a685f6c16127546dc115b5cd40ce7fbe9269d7c8c06bf049706ea78fc7467", func := "platter/platterlaw07.QueueTrue", spec := "queueTrue", unfollowed := true, recurses := true, apart := false }
def QueueTrueSaid : Prop := queueTrueRow.holds Try.pinned (OpenSpec.ofChange queueTrueSpec)

/-- ITS FALSE NEIGHBOUR: 'it returns false'. Refute it at one input. -/
def queueTrueWrong : ChangeSpec := { name := "queueTrue", fn := fun _ => fun
  | [d1, d2] => { results := [.lit (.bool false)], args := [d1, d2] }
  | _ => none }
def QueueTrueWrongFalsely : Prop := queueTrueRow.holds Try.pinned (OpenSpec.ofChange queueTrueWrong)

/-- 'platterlaw07.QueueEasier': WHATEVER THE INPUT: true; the input reads as it did. -/
def queueEasierSpec : ChangeSpec := { name := "queueEasier", fn := fun _ => fun
  | [d1, d2, d3] => { results := [.lit (.bool true)], args := [d1, d2, d3] }
  | _ => none }
def queueEasierRow : OpenClaim := { program := "ythjcfbkgfnnkkaa", sum := "035a685f6c16127546dc115b5cd40ce7fbe9269d7c8c06bf049706ea78fc7467", func := "platter/platterlaw07.QueueEasier", spec := "queueEasier", unfollowed := true, recurses := true, apart := false }
def QueueEasierSaid : Prop := queueEasierRow.holds Try.pinned (OpenSpec.ofChange queueEasierSpec)

/-- ITS FALSE NEIGHBOUR: 'it returns false'. Refute it at one input. -/
def queueEasierWrong : ChangeSpec := { name := "queueEasier", fn := fun _ => fun
  | [d1, d2, d3] => { results := [.lit (.bool false)], args := [d1, d2, d3] }
  | _ => none }
def QueueEasierWrongFalsely : Prop := queueEasierRow.holds Try.pinned (OpenSpec.ofChange queueEasierWrong)

/-- 'platterlaw07.QueueFair': WHATEVER THE INPUT: true; the input reads as it did. -/
def queueFairSpec : ChangeSpec := { name := "queueFair", fn := fun _ => fun
  | [d1, d2] => { results := [.lit (.bool true)], args := [d1, d2] }
  | _ => none }
def queueFairRow : OpenClaim := { program := "ythjcfbkgfnnkkaa", sum := "035a685f6c16127546dc115b5cd40ce7fbe9269d7c8c06bf049706ea78fc7467", func := "platter/platterlaw07.QueueFair", spec := "queueFair", unfollowed := true, recurses := true, apart := false }
def QueueFairSaid : Prop := queueFairRow.holds Try.pinned (OpenSpec.ofChange queueFairSpec)

/-- ITS FALSE NEIGHBOUR: 'it returns false'. Refute it at one input. -/
def queueFairWrong : ChangeSpec := { name := "queueFair", fn := fun _ => fun
  | [d1, d2] => { results := [.lit (.bool false)], args := [d1, d2] }
  | _ => none }
def QueueFairWrongFalsely : Prop := queueFairRow.holds Try.pinned (OpenSpec.ofChange queueFairWrong)

/-- 'platterlaw07.QueueBarrier': WHATEVER THE INPUT: true; the input reads as it did. -/
def queueBarrierSpec : ChangeSpec := { name := "queueBarrier", fn := fun _ => fun
  | [d1, d2] => { results := [.lit (.bool true)], args := [d1, d2] }
  | _ => none }
def queueBarrierRow : OpenClaim := { program := "ythjcfbkgfnnkkaa", sum := "035a685f6c16127546dc115b5cd40ce7fbe9269d7c8c06bf049706ea78fc7467", func := "platter/platterlaw07.QueueBarrier", spec := "queueBarrier", unfollowed := true, recurses := true, apart := false }
def QueueBarrierSaid : Prop := queueBarrierRow.holds Try.pinned (OpenSpec.ofChange queueBarrierSpec)

/-- ITS FALSE NEIGHBOUR: 'it returns false'. Refute it at one input. -/
def queueBarrierWrong : ChangeSpec := { name := "queueBarrier", fn := fun _ => fun
  | [d1, d2] => { results := [.lit (.bool false)], args := [d1, d2] }
  | _ => none }
def QueueBarrierWrongFalsely : Prop := queueBarrierRow.holds Try.pinned (OpenSpec.ofChange queueBarrierWrong)

/-- 'platterlaw07.QueueSure': WHATEVER THE INPUT: true; the input reads as it did. -/
def queueSureSpec : ChangeSpec := { name := "queueSure", fn := fun _ => fun
  | [d1, d2] => { results := [.lit (.bool true)], args := [d1, d2] }
  | _ => none }
def queueSureRow : OpenClaim := { program := "ythjcfbkgfnnkkaa", sum := "035a685f6c16127546dc115b5cd40ce7fbe9269d7c8c06bf049706ea78fc7467", func := "platter/platterlaw07.QueueSure", spec := "queueSure", unfollowed := true, recurses := true, apart := false }
def QueueSureSaid : Prop := queueSureRow.holds Try.pinned (OpenSpec.ofChange queueSureSpec)

/-- ITS FALSE NEIGHBOUR: 'it returns false'. Refute it at one input. -/
def queueSureWrong : ChangeSpec := { name := "queueSure", fn := fun _ => fun
  | [d1, d2] => { results := [.lit (.bool false)], args := [d1, d2] }
  | _ => none }
def QueueSureWrongFalsely : Prop := queueSureRow.holds Try.pinned (OpenSpec.ofChange queueSureWrong)

/- THE SECOND FORM. 'bulk': how many values and letters a reading holds, each counted each time it is reached (what is shared counts as often as it is met; a slice's spare places count too). A statement '..UptoSaid' is the law's where the arguments, and the package variables that the reading takes, are together of bulk at most 1048576: NARROWER than '..Said'. Prove '..Said' where nothing that the law and all that it calls make is longer than what came in: it says more and counts as full. Else prove '..UptoSaid'. A law counts once. -/
mutual
def uptoBulk {H : Type} : DataW H → Nat
  | .lit (.string bytes) => bytes.length + 1
  | .lit _ => 1
  | .nil => 1
  | .ptr d => uptoBulk d + 1
  | .slice elems spare => uptoBulkAll elems + uptoBulkAll spare + 1
  | .agg parts => uptoBulkAll parts + 1
  | .iface _ d => uptoBulk d + 1
  | .map entries => uptoBulkEntries entries + 1
  | .held _ => 1
def uptoBulkAll {H : Type} : List (DataW H) → Nat
  | [] => 0
  | d :: r => uptoBulk d + uptoBulkAll r
def uptoBulkEntries {H : Type} : List (Lit × DataW H) → Nat
  | [] => 0
  | x :: r => uptoBulkEntry x + uptoBulkEntries r
def uptoBulkEntry {H : Type} : Lit × DataW H → Nat
  | (.string bytes, d) => bytes.length + uptoBulk d + 1
  | (_, d) => uptoBulk d + 1
 end
def uptoSmall : (H : Type) → List (DataW H) → Bool := fun _ ds => decide (uptoBulkAll ds ≤ 1048576)
def OpenSpec.upto (s : _root_.Go.ChangeSpec) : _root_.Go.OpenSpec := { _root_.Go.OpenSpec.ofChange s with cond := some uptoSmall }

/-- 'platterlaw07.QueueTrue', WHERE WHAT IT READS IS OF BULK AT MOST 1048576: true; the input reads as it did. -/
def queueTrueUptoRow : OpenClaim := { program := "ythjcfbkgfnnkkaa", sum := "035a685f6c16127546dc115b5cd40ce7fbe9269d7c8c06bf049706ea78fc7467", func := "platter/platterlaw07.QueueTrue", spec := "queueTrue", unfollowed := true, recurses := true, apart := false, narrowed := true }
def QueueTrueUptoSaid : Prop := queueTrueUptoRow.holds Try.pinned (OpenSpec.upto queueTrueSpec)

/-- 'platterlaw07.QueueEasier', WHERE WHAT IT READS IS OF BULK AT MOST 1048576: true; the input reads as it did. -/
def queueEasierUptoRow : OpenClaim := { program := "ythjcfbkgfnnkkaa", sum := "035a685f6c16127546dc115b5cd40ce7fbe9269d7c8c06bf049706ea78fc7467", func := "platter/platterlaw07.QueueEasier", spec := "queueEasier", unfollowed := true, recurses := true, apart := false, narrowed := true }
def QueueEasierUptoSaid : Prop := queueEasierUptoRow.holds Try.pinned (OpenSpec.upto queueEasierSpec)

/-- 'platterlaw07.QueueFair', WHERE WHAT IT READS IS OF BULK AT MOST 1048576: true; the input reads as it did. -/
def queueFairUptoRow : OpenClaim := { program := "ythjcfbkgfnnkkaa", sum := "035a685f6c16127546dc115b5cd40ce7fbe9269d7c8c06bf049706ea78fc7467", func := "platter/platterlaw07.QueueFair", spec := "queueFair", unfollowed := true, recurses := true, apart := false, narrowed := true }
def QueueFairUptoSaid : Prop := queueFairUptoRow.holds Try.pinned (OpenSpec.upto queueFairSpec)

/-- 'platterlaw07.QueueBarrier', WHERE WHAT IT READS IS OF BULK AT MOST 1048576: true; the input reads as it did. -/
def queueBarrierUptoRow : OpenClaim := { program := "ythjcfbkgfnnkkaa", sum := "035a685f6c16127546dc115b5cd40ce7fbe9269d7c8c06bf049706ea78fc7467", func := "platter/platterlaw07.QueueBarrier", spec := "queueBarrier", unfollowed := true, recurses := true, apart := false, narrowed := true }
def QueueBarrierUptoSaid : Prop := queueBarrierUptoRow.holds Try.pinned (OpenSpec.upto queueBarrierSpec)

/-- 'platterlaw07.QueueSure', WHERE WHAT IT READS IS OF BULK AT MOST 1048576: true; the input reads as it did. -/
def queueSureUptoRow : OpenClaim := { program := "ythjcfbkgfnnkkaa", sum := "035a685f6c16127546dc115b5cd40ce7fbe9269d7c8c06bf049706ea78fc7467", func := "platter/platterlaw07.QueueSure", spec := "queueSure", unfollowed := true, recurses := true, apart := false, narrowed := true }
def QueueSureUptoSaid : Prop := queueSureUptoRow.holds Try.pinned (OpenSpec.upto queueSureSpec)

end Rows
end Go.Proofs.Ythjcfbkgfnnkkaa
