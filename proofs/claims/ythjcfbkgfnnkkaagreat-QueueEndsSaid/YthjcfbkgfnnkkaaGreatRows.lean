/-
  No cell of these rows narrows 'for every input' (looked for: loops, veiled, ifaces, maps, wideKeys, modest, calm, conditions, laid).
  DERIVED. THE GIVEN ROWS OF THIS SEAT. 4 by the template 'for every input the law returns true; each argument reads behind the call as it read before'; 0 by the template 'total and deterministic' (their statements: YthjcfbkgfnnkkaaGreatTotals.lean).
  GIVEN WITH THE SEED: the statements are not yours to turn. If you find one false, say at which input.
  Laid BY PROGRAM, IN A SANDBOX (cutbox-rows.mjs): the forced cells as the released guide's own fill.sh prints them over the translation 3eb8298e5716746b… (all of the seat's roots in one cut). By AI agents, Wed Nov 11 2026. No macro, syntax, notation, axiom, sorry.
-/
import Derived.Test.YthjcfbkgfnnkkaaGreatChecked
import GoSem.Claim
import GoSem.ClaimJoined
import GoSem.ClaimMapViews
import Derived.JoinedTies
import Derived.KernelRfl
namespace Go.Proofs.YthjcfbkgfnnkkaaGreat
/- THE CELL 'sum', in the pinned program and in every row, IS THE sha256 OF THE DUMP (.gsa) THAT YthjcfbkgfnnkkaaGreatProg.lean LOADS. Nothing in Lean hashes anything: it is a label: what it is worth is what the hold of that sum in a sandbox is worth. -/
noncomputable def Tryz.pinned : Pinned := { name := "ythjcfbkgfnnkkaagreat", sum := "3eb8298e5716746bf2cd359a2a979e1b75871e78e8e487de5e38e55067b5a9c9", checked := Tryz.checked }
namespace Rows
def none {H : Type} : Left H := { results := [], args := [] }

/-- 'platterlaw07.QueueEnds': WHATEVER THE INPUT: true; the input reads as it did. -/
def queueEndsSpec : ChangeSpec := { name := "queueEnds", fn := fun _ => fun
  | [d1, d2] => { results := [.lit (.bool true)], args := [d1, d2] }
  | _ => none }
def queueEndsRow : OpenClaim := { program := "ythjcfbkgfnnkkaagreat", sum := "3eb8298e5716746bf2cd359a2a979e1b75871e78e8e487de5e38e55067b5a9c9", func := "platter/platterlaw07.QueueEnds", spec := "queueEnds", unfollowed := true, recurses := true, apart := false }
def QueueEndsSaid : Prop := queueEndsRow.holds Tryz.pinned (OpenSpec.ofChange queueEndsSpec)

/-- ITS FALSE NEIGHBOUR: 'it returns false'. Refute it at one input. -/
def queueEndsWrong : ChangeSpec := { name := "queueEnds", fn := fun _ => fun
  | [d1, d2] => { results := [.lit (.bool false)], args := [d1, d2] }
  | _ => none }
def QueueEndsWrongFalsely : Prop := queueEndsRow.holds Tryz.pinned (OpenSpec.ofChange queueEndsWrong)

/-- 'platterlaw07.QueueBest': WHATEVER THE INPUT: true; the input reads as it did. -/
def queueBestSpec : ChangeSpec := { name := "queueBest", fn := fun _ => fun
  | [d1, d2] => { results := [.lit (.bool true)], args := [d1, d2] }
  | _ => none }
def queueBestRow : OpenClaim := { program := "ythjcfbkgfnnkkaagreat", sum := "3eb8298e5716746bf2cd359a2a979e1b75871e78e8e487de5e38e55067b5a9c9", func := "platter/platterlaw07.QueueBest", spec := "queueBest", unfollowed := true, recurses := true, apart := false }
def QueueBestSaid : Prop := queueBestRow.holds Tryz.pinned (OpenSpec.ofChange queueBestSpec)

/-- ITS FALSE NEIGHBOUR: 'it returns false'. Refute it at one input. -/
def queueBestWrong : ChangeSpec := { name := "queueBest", fn := fun _ => fun
  | [d1, d2] => { results := [.lit (.bool false)], args := [d1, d2] }
  | _ => none }
def QueueBestWrongFalsely : Prop := queueBestRow.holds Tryz.pinned (OpenSpec.ofChange queueBestWrong)

/-- 'platterlaw07.QueueBounds': WHATEVER THE INPUT: true; the input reads as it did. -/
def queueBoundsSpec : ChangeSpec := { name := "queueBounds", fn := fun _ => fun
  | [d1, d2] => { results := [.lit (.bool true)], args := [d1, d2] }
  | _ => none }
def queueBoundsRow : OpenClaim := { program := "ythjcfbkgfnnkkaagreat", sum := "3eb8298e5716746bf2cd359a2a979e1b75871e78e8e487de5e38e55067b5a9c9", func := "platter/platterlaw07.QueueBounds", spec := "queueBounds", unfollowed := true, recurses := true, apart := false }
def QueueBoundsSaid : Prop := queueBoundsRow.holds Tryz.pinned (OpenSpec.ofChange queueBoundsSpec)

/-- ITS FALSE NEIGHBOUR: 'it returns false'. Refute it at one input. -/
def queueBoundsWrong : ChangeSpec := { name := "queueBounds", fn := fun _ => fun
  | [d1, d2] => { results := [.lit (.bool false)], args := [d1, d2] }
  | _ => none }
def QueueBoundsWrongFalsely : Prop := queueBoundsRow.holds Tryz.pinned (OpenSpec.ofChange queueBoundsWrong)

/-- 'platterlaw07.QueueOrders': WHATEVER THE INPUT: true; the input reads as it did. -/
def queueOrdersSpec : ChangeSpec := { name := "queueOrders", fn := fun _ => fun
  | [d] => { results := [.lit (.bool true)], args := [d] }
  | _ => none }
def queueOrdersRow : OpenClaim := { program := "ythjcfbkgfnnkkaagreat", sum := "3eb8298e5716746bf2cd359a2a979e1b75871e78e8e487de5e38e55067b5a9c9", func := "platter/platterlaw07.QueueOrders", spec := "queueOrders", unfollowed := true, recurses := true, apart := false }
def QueueOrdersSaid : Prop := queueOrdersRow.holds Tryz.pinned (OpenSpec.ofChange queueOrdersSpec)

/-- ITS FALSE NEIGHBOUR: 'it returns false'. Refute it at one input. -/
def queueOrdersWrong : ChangeSpec := { name := "queueOrders", fn := fun _ => fun
  | [d] => { results := [.lit (.bool false)], args := [d] }
  | _ => none }
def QueueOrdersWrongFalsely : Prop := queueOrdersRow.holds Tryz.pinned (OpenSpec.ofChange queueOrdersWrong)

/- THE SECOND FORM. 'bulk': how many values and letters a reading holds, each counted each time it is reached (what is shared counts as often as it is met; a slice's spare places count too). A statement '..UptoSaid' is the law's where the arguments, and the package variables that the reading takes, are together of bulk at most 1048576: NARROWER than '..Said'. Prove '..Said' where nothing that the law and all that it calls make is longer than what came in: it says more and counts as full. Else prove '..UptoSaid'. A law counts once. -/
mutual
def uptoBulk {H : Type} : DataW H → Nat
  | .lit (.string bytes) => bytes.length + 1
  | .lit _ => 1
  | .nil => 1
  | .ptr d => uptoBulk d + 1
  | .slice elems spare => uptoBulkAll elems + uptoBulkAll spare + 1
  | .agg parts => uptoBulkAll parts + 1
  | .iface _ d => uptoBulk d + 1
  | .map entries => uptoBulkEntries entries + 1
  | .held _ => 1
def uptoBulkAll {H : Type} : List (DataW H) → Nat
  | [] => 0
  | d :: r => uptoBulk d + uptoBulkAll r
def uptoBulkEntries {H : Type} : List (Lit × DataW H) → Nat
  | [] => 0
  | x :: r => uptoBulkEntry x + uptoBulkEntries r
def uptoBulkEntry {H : Type} : Lit × DataW H → Nat
  | (.string bytes, d) => bytes.length + uptoBulk d + 1
  | (_, d) => uptoBulk d + 1
 end
def uptoSmall : (H : Type) → List (DataW H) → Bool := fun _ ds => decide (uptoBulkAll ds ≤ 1048576)
def OpenSpec.upto (s : _root_.Go.ChangeSpec) : _root_.Go.OpenSpec := { _root_.Go.OpenSpec.ofChange s with cond := some uptoSmall }

/-- 'platterlaw07.QueueEnds', WHERE WHAT IT READS IS OF BULK AT MOST 1048576: true; the input reads as it did. -/
def queueEndsUptoRow : OpenClaim := { program := "ythjcfbkgfnnkkaagreat", sum := "3eb8298e5716746bf2cd359a2a979e1b75871e78e8e487de5e38e55067b5a9c9", func := "platter/platterlaw07.QueueEnds", spec := "queueEnds", unfollowed := true, recurses := true, apart := false, narrowed := true }
def QueueEndsUptoSaid : Prop := queueEndsUptoRow.holds Tryz.pinned (OpenSpec.upto queueEndsSpec)

/-- 'platterlaw07.QueueBest', WHERE WHAT IT READS IS OF BULK AT MOST 1048576: true; the input reads as it did. -/
def queueBestUptoRow : OpenClaim := { program := "ythjcfbkgfnnkkaagreat", sum := "3eb8298e5716746bf2cd359a2a979e1b75871e78e8e487de5e38e55067b5a9c9", func := "platter/platterlaw07.QueueBest", spec := "queueBest", unfollowed := true, recurses := true, apart := false, narrowed := true }
def QueueBestUptoSaid : Prop := queueBestUptoRow.holds Tryz.pinned (OpenSpec.upto queueBestSpec)

/-- 'platterlaw07.QueueBounds', WHERE WHAT IT READS IS OF BULK AT MOST 1048576: true; the input reads as it did. -/
def queueBoundsUptoRow : OpenClaim := { program := "ythjcfbkgfnnkkaagreat", sum := "3eb8298e5716746bf2cd359a2a979e1b75871e78e8e487de5e38e55067b5a9c9", func := "platter/platterlaw07.QueueBounds", spec := "queueBounds", unfollowed := true, recurses := true, apart := false, narrowed := true }
def QueueBoundsUptoSaid : Prop := queueBoundsUptoRow.holds Tryz.pinned (OpenSpec.upto queueBoundsSpec)

/-- 'platterlaw07.QueueOrders', WHERE WHAT IT READS IS OF BULK AT MOST 1048576: true; the input reads as it did. -/
def queueOrdersUptoRow : OpenClaim := { program := "ythjcfbkgfnnkkaagreat", sum := "3eb8298e5716746bf2cd359a2a979e1b75871e78e8e487de5e38e55067b5a9c9", func := "platter/platterlaw07.QueueOrders", spec := "queueOrders", unfollowed := true, recurses := true, apart := false, narrowed := true }
def QueueOrdersUptoSaid : Prop := queueOrdersUptoRow.holds Tryz.pinned (OpenSpec.upto queueOrdersSpec)

end Rows
end Go.Proofs.YthjcfbkgfnnkkaaGreat
