/-
  No cell of these rows narrows 'for every input' (looked for: loops, veiled, ifaces, maps, wideKeys, modest, calm, conditions, laid).
  DERIVED. THE GIVEN ROWS OF THIS SEAT. 4 by the template 'for every input the law returns true; each argument reads behind the call as it read before'; 0 by the template 'total and deterministic' (their statements: YtbdcjkcmpcdipaaTotals.lean).
  GIVEN WITH THE SEED: the statements are not yours to turn. If you find one false, say at which input.
  Laid BY PROGRAM, IN A SANDBOX (cutbox-rows.mjs): the forced cells as the released guide's own fill.sh prints them over the translation 432edaf96a908362… (all of the seat's roots in one cut). By AI agents, Wed Nov 11 2026. No macro, syntax, notation, axiom, sorry.
-/
import Derived.Test.YtbdcjkcmpcdipaaChecked
import GoSem.Claim
import GoSem.ClaimJoined
import GoSem.ClaimMapViews
import Derived.JoinedTies
import Derived.KernelRfl
namespace Go.Proofs.Ytbdcjkcmpcdipaa
/- THE CELL 'sum', in the pinned program and in every row, IS THE sha256 OF THE DUMP (.gsa) THAT YtbdcjkcmpcdipaaProg.lean LOADS. Nothing in Lean hashes anything: it is a label: what it is worth is what the hold of that sum in a sandbox is worth. -/
noncomputable def Try.pinned : Pinned := { name := "ytbdcjkcmpcdipaa", sum := "432edaf96a9083628f32e3775e33e5b8bb6ab6d746658984dd8b16aba664b6f9", checked := Try.checked }
namespace Rows
def none {H : Type} : Left H := { results := [], args := [] }

/-- 'platterlaw17.HostKnown': WHATEVER THE INPUT: true; the input reads as it did. -/
def hostKnownSpec : ChangeSpec := { name := "hostKnown", fn := fun _ => fun
  | [d1, d2] => { results := [.lit (.bool true)], args := [d1, d2] }
  | _ => none }
def hostKnownRow : OpenClaim := { program := "ytbdcjkcmpcdipaa", sum := "432edaf96a9083628f32e3775e33e5b8bb6ab6d746658984dd8b16aba664b6f9", func := "platter/platterlaw17.HostKnown", spec := "hostKnown", unfollowed := true, recurses := true, plainKeys := false, apart := false }
def HostKnownSaid : Prop := hostKnownRow.holds Try.pinned (OpenSpec.ofChange hostKnownSpec)

/-- ITS FALSE NEIGHBOUR: 'it returns false'. Refute it at one input. -/
def hostKnownWrong : ChangeSpec := { name := "hostKnown", fn := fun _ => fun
  | [d1, d2] => { results := [.lit (.bool false)], args := [d1, d2] }
  | _ => none }
def HostKnownWrongFalsely : Prop := hostKnownRow.holds Try.pinned (OpenSpec.ofChange hostKnownWrong)

/-- 'platterlaw17.HostOpen': WHATEVER THE INPUT: true; the input reads as it did. -/
def hostOpenSpec : ChangeSpec := { name := "hostOpen", fn := fun _ => fun
  | [d1, d2, d3] => { results := [.lit (.bool true)], args := [d1, d2, d3] }
  | _ => none }
def hostOpenRow : OpenClaim := { program := "ytbdcjkcmpcdipaa", sum := "432edaf96a9083628f32e3775e33e5b8bb6ab6d746658984dd8b16aba664b6f9", func := "platter/platterlaw17.HostOpen", spec := "hostOpen", unfollowed := true, recurses := true, plainKeys := false, apart := false }
def HostOpenSaid : Prop := hostOpenRow.holds Try.pinned (OpenSpec.ofChange hostOpenSpec)

/-- ITS FALSE NEIGHBOUR: 'it returns false'. Refute it at one input. -/
def hostOpenWrong : ChangeSpec := { name := "hostOpen", fn := fun _ => fun
  | [d1, d2, d3] => { results := [.lit (.bool false)], args := [d1, d2, d3] }
  | _ => none }
def HostOpenWrongFalsely : Prop := hostOpenRow.holds Try.pinned (OpenSpec.ofChange hostOpenWrong)

/-- 'platterlaw17.HostMoved': WHATEVER THE INPUT: true; the input reads as it did. -/
def hostMovedSpec : ChangeSpec := { name := "hostMoved", fn := fun _ => fun
  | [d1, d2] => { results := [.lit (.bool true)], args := [d1, d2] }
  | _ => none }
def hostMovedRow : OpenClaim := { program := "ytbdcjkcmpcdipaa", sum := "432edaf96a9083628f32e3775e33e5b8bb6ab6d746658984dd8b16aba664b6f9", func := "platter/platterlaw17.HostMoved", spec := "hostMoved", unfollowed := true, recurses := true, plainKeys := false, apart := false }
def HostMovedSaid : Prop := hostMovedRow.holds Try.pinned (OpenSpec.ofChange hostMovedSpec)

/-- ITS FALSE NEIGHBOUR: 'it returns false'. Refute it at one input. -/
def hostMovedWrong : ChangeSpec := { name := "hostMoved", fn := fun _ => fun
  | [d1, d2] => { results := [.lit (.bool false)], args := [d1, d2] }
  | _ => none }
def HostMovedWrongFalsely : Prop := hostMovedRow.holds Try.pinned (OpenSpec.ofChange hostMovedWrong)

/-- 'platterlaw17.HostAcked': WHATEVER THE INPUT: true; the input reads as it did. -/
def hostAckedSpec : ChangeSpec := { name := "hostAcked", fn := fun _ => fun
  | [d1, d2] => { results := [.lit (.bool true)], args := [d1, d2] }
  | _ => none }
def hostAckedRow : OpenClaim := { program := "ytbdcjkcmpcdipaa", sum := "432edaf96a9083628f32e3775e33e5b8bb6ab6d746658984dd8b16aba664b6f9", func := "platter/platterlaw17.HostAcked", spec := "hostAcked", unfollowed := true, recurses := true, plainKeys := false, apart := false }
def HostAckedSaid : Prop := hostAckedRow.holds Try.pinned (OpenSpec.ofChange hostAckedSpec)

/-- ITS FALSE NEIGHBOUR: 'it returns false'. Refute it at one input. -/
def hostAckedWrong : ChangeSpec := { name := "hostAcked", fn := fun _ => fun
  | [d1, d2] => { results := [.lit (.bool false)], args := [d1, d2] }
  | _ => none }
def HostAckedWrongFalsely : Prop := hostAckedRow.holds Try.pinned (OpenSpec.ofChange hostAckedWrong)

/- THE SECOND FORM. 'bulk': how many values and letters a reading holds, each counted each time it is reached (what is shared counts as often as it is met; a slice's spare places count too). A statement '..UptoSaid' is the law's where the arguments, and the package variables that the reading takes, are together of bulk at most 1048576: NARROWER than '..Said'. Prove '..Said' where nothing that the law and all that it calls make is longer than what came in: it says more and counts as full. Else prove '..UptoSaid'. A law counts once. -/
mutual
def uptoBulk {H : Type} : DataW H → Nat
  | .lit (.string bytes) => bytes.length + 1
  | .lit _ => 1
  | .nil => 1
  | .ptr d => uptoBulk d + 1
  | .slice elems spare => uptoBulkAll elems + uptoBulkAll spare + 1
  | .agg parts => uptoBulkAll parts + 1
  | .iface _ d => uptoBulk d + 1
  | .map entries => uptoBulkEntries entries + 1
  | .held _ => 1
def uptoBulkAll {H : Type} : List (DataW H) → Nat
  | [] => 0
  | d :: r => uptoBulk d + uptoBulkAll r
def uptoBulkEntries {H : Type} : List (Lit × DataW H) → Nat
  | [] => 0
  | x :: r => uptoBulkEntry x + uptoBulkEntries r
def uptoBulkEntry {H : Type} : Lit × DataW H → Nat
  | (.string bytes, d) => bytes.length + uptoBulk d + 1
  | (_, d) => uptoBulk d + 1
 end
def uptoSmall : (H : Type) → List (DataW H) → Bool := fun _ ds => decide (uptoBulkAll ds ≤ 1048576)
def OpenSpec.upto (s : _root_.Go.ChangeSpec) : _root_.Go.OpenSpec := { _root_.Go.OpenSpec.ofChange s with cond := some uptoSmall }

/-- 'platterlaw17.HostKnown', WHERE WHAT IT READS IS OF BULK AT MOST 1048576: true; the input reads as it did. -/
def hostKnownUptoRow : OpenClaim := { program := "ytbdcjkcmpcdipaa", sum := "432edaf96a9083628f32e3775e33e5b8bb6ab6d746658984dd8b16aba664b6f9", func := "platter/platterlaw17.HostKnown", spec := "hostKnown", unfollowed := true, recurses := true, plainKeys := false, apart := false, narrowed := true }
def HostKnownUptoSaid : Prop := hostKnownUptoRow.holds Try.pinned (OpenSpec.upto hostKnownSpec)

/-- 'platterlaw17.HostOpen', WHERE WHAT IT READS IS OF BULK AT MOST 1048576: true; the input reads as it did. -/
def hostOpenUptoRow : OpenClaim := { program := "ytbdcjkcmpcdipaa", sum := "432edaf96a9083628f32e3775e33e5b8bb6ab6d746658984dd8b16aba664b6f9", func := "platter/platterlaw17.HostOpen", spec := "hostOpen", unfollowed := true, recurses := true, plainKeys := false, apart := false, narrowed := true }
def HostOpenUptoSaid : Prop := hostOpenUptoRow.holds Try.pinned (OpenSpec.upto hostOpenSpec)

/-- 'platterlaw17.HostMoved', WHERE WHAT IT READS IS OF BULK AT MOST 1048576: true; the input reads as it did. -/
def hostMovedUptoRow : OpenClaim := { program := "ytbdcjkcmpcdipaa", sum := "432edaf96a9083628f32e3775e33e5b8bb6ab6d746658984dd8b16aba664b6f9", func := "platter/platterlaw17.HostMoved", spec := "hostMoved", unfollowed := true, recurses := true, plainKeys := false, apart := false, narrowed := true }
def HostMovedUptoSaid : Prop := hostMovedUptoRow.holds Try.pinned (OpenSpec.upto hostMovedSpec)

/-- 'platterlaw17.HostAcked', WHERE WHAT IT READS IS OF BULK AT MOST 1048576: true; the input reads as it did. -/
def hostAckedUptoRow : OpenClaim := { program := "ytbdcjkcmpcdipaa", sum := "432edaf96a9083628f32e3775e33e5b8bb6ab6d746658984dd8b16aba664b6f9", func := "platter/platterlaw17.HostAcked", spec := "hostAcked", unfollowed := true, recurses := true, plainKeys := false, apart := false, narrowed := true }
def HostAckedUptoSaid : Prop := hostAckedUptoRow.holds Try.pinned (OpenSpec.upto hostAckedSpec)

end Rows
end Go.Proofs.Ytbdcjkcmpcdipaa
