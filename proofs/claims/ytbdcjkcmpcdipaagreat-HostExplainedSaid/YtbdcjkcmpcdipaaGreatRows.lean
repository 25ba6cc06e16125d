/-
  No cell of these rows narrows 'for every input' (looked for: loops, veiled, ifaces, maps, wideKeys, modest, calm, conditions, laid).
  DERIVED. THE GIVEN ROWS OF THIS SEAT. 6 by the template 'for every input the law returns true; each argument reads behind the call as it read before'; 0 by the template 'total and deterministic' (their statements: YtbdcjkcmpcdipaaGreatTotals.lean).
  GIVEN WITH THE SEED: the statements are not yours to turn. If you find one false, say at which input.
  Laid BY PROGRAM, IN A SANDBOX (cutbox-rows.mjs): the forced cells as the released guide's own fill.sh prints them over the translation 625a98a2173eb1b9… (all of the seat's roots in one cut). By AI agents, Wed Nov 11 2026. No macro, syntax, notation, axiom, sorry.
-/
import Derived.Test.YtbdcjkcmpcdipaaGreatChecked
import GoSem.Claim
import GoSem.ClaimJoined
import GoSem.ClaimMapViews
import Derived.JoinedTies
import Derived.KernelRfl
namespace Go.Proofs.YtbdcjkcmpcdipaaGreat
/- THE CELL 'sum', in the pinned program and in every row, IS THE sha256 OF THE DUMP (.gsa) THAT YtbdcjkcmpcdipaaGreatProg.lean LOADS. Nothing in Lean hashes anything: it is a label: what it is worth is what the hold of that sum in a sandbox is worth. -/
noncomputable def Tryz.pinned : Pinned := { name := "ytbdcjkcmpcdipaagreat", sum := "625a98a2173eb1b9889ee0cb6be115faac9c524c93a4c2d6eff13c5e0f509e37", checked := Tryz.checked }
namespace Rows
def none {H : Type} : Left H := { results := [], args := [] }

/-- 'platterlaw17.HostLegal': WHATEVER THE INPUT: true; the input reads as it did. -/
def hostLegalSpec : ChangeSpec := { name := "hostLegal", fn := fun _ => fun
  | [d1, d2] => { results := [.lit (.bool true)], args := [d1, d2] }
  | _ => none }
def hostLegalRow : OpenClaim := { program := "ytbdcjkcmpcdipaagreat", sum := "625a98a2173eb1b9889ee0cb6be115faac9c524c93a4c2d6eff13c5e0f509e37", func := "platter/platterlaw17.HostLegal", spec := "hostLegal", unfollowed := true, recurses := true, plainKeys := false, apart := false }
def HostLegalSaid : Prop := hostLegalRow.holds Tryz.pinned (OpenSpec.ofChange hostLegalSpec)

/-- ITS FALSE NEIGHBOUR: 'it returns false'. Refute it at one input. -/
def hostLegalWrong : ChangeSpec := { name := "hostLegal", fn := fun _ => fun
  | [d1, d2] => { results := [.lit (.bool false)], args := [d1, d2] }
  | _ => none }
def HostLegalWrongFalsely : Prop := hostLegalRow.holds Tryz.pinned (OpenSpec.ofChange hostLegalWrong)

/-- 'platterlaw17.HostHonest': WHATEVER THE INPUT: true; the input reads as it did. -/
def hostHonestSpec : ChangeSpec := { name := "hostHonest", fn := fun _ => fun
  | [d1, d2] => { results := [.lit (.bool true)], args := [d1, d2] }
  | _ => none }
def hostHonestRow : OpenClaim := { program := "ytbdcjkcmpcdipaagreat", sum := "625a98a2173eb1b9889ee0cb6be115faac9c524c93a4c2d6eff13c5e0f509e37", func := "platter/platterlaw17.HostHonest", spec := "hostHonest", unfollowed := true, recurses := true, plainKeys := false, apart := false }
def HostHonestSaid : Prop := hostHonestRow.holds Tryz.pinned (OpenSpec.ofChange hostHonestSpec)

/-- ITS FALSE NEIGHBOUR: 'it returns false'. Refute it at one input. -/
def hostHonestWrong : ChangeSpec := { name := "hostHonest", fn := fun _ => fun
  | [d1, d2] => { results := [.lit (.bool false)], args := [d1, d2] }
  | _ => none }
def HostHonestWrongFalsely : Prop := hostHonestRow.holds Tryz.pinned (OpenSpec.ofChange hostHonestWrong)

/-- 'platterlaw17.HostNext': WHATEVER THE INPUT: true; the input reads as it did. -/
def hostNextSpec : ChangeSpec := { name := "hostNext", fn := fun _ => fun
  | [d1, d2, d3] => { results := [.lit (.bool true)], args := [d1, d2, d3] }
  | _ => none }
def hostNextRow : OpenClaim := { program := "ytbdcjkcmpcdipaagreat", sum := "625a98a2173eb1b9889ee0cb6be115faac9c524c93a4c2d6eff13c5e0f509e37", func := "platter/platterlaw17.HostNext", spec := "hostNext", unfollowed := true, recurses := true, plainKeys := false, apart := false }
def HostNextSaid : Prop := hostNextRow.holds Tryz.pinned (OpenSpec.ofChange hostNextSpec)

/-- ITS FALSE NEIGHBOUR: 'it returns false'. Refute it at one input. -/
def hostNextWrong : ChangeSpec := { name := "hostNext", fn := fun _ => fun
  | [d1, d2, d3] => { results := [.lit (.bool false)], args := [d1, d2, d3] }
  | _ => none }
def HostNextWrongFalsely : Prop := hostNextRow.holds Tryz.pinned (OpenSpec.ofChange hostNextWrong)

/-- 'platterlaw17.HostReads': WHATEVER THE INPUT: true; the input reads as it did. -/
def hostReadsSpec : ChangeSpec := { name := "hostReads", fn := fun _ => fun
  | [d1, d2] => { results := [.lit (.bool true)], args := [d1, d2] }
  | _ => none }
def hostReadsRow : OpenClaim := { program := "ytbdcjkcmpcdipaagreat", sum := "625a98a2173eb1b9889ee0cb6be115faac9c524c93a4c2d6eff13c5e0f509e37", func := "platter/platterlaw17.HostReads", spec := "hostReads", unfollowed := true, recurses := true, plainKeys := false, apart := false }
def HostReadsSaid : Prop := hostReadsRow.holds Tryz.pinned (OpenSpec.ofChange hostReadsSpec)

/-- ITS FALSE NEIGHBOUR: 'it returns false'. Refute it at one input. -/
def hostReadsWrong : ChangeSpec := { name := "hostReads", fn := fun _ => fun
  | [d1, d2] => { results := [.lit (.bool false)], args := [d1, d2] }
  | _ => none }
def HostReadsWrongFalsely : Prop := hostReadsRow.holds Tryz.pinned (OpenSpec.ofChange hostReadsWrong)

/-- 'platterlaw17.HostExplains': WHATEVER THE INPUT: true; the input reads as it did. -/
def hostExplainsSpec : ChangeSpec := { name := "hostExplains", fn := fun _ => fun
  | [d] => { results := [.lit (.bool true)], args := [d] }
  | _ => none }
def hostExplainsRow : OpenClaim := { program := "ytbdcjkcmpcdipaagreat", sum := "625a98a2173eb1b9889ee0cb6be115faac9c524c93a4c2d6eff13c5e0f509e37", func := "platter/platterlaw17.HostExplains", spec := "hostExplains", unfollowed := true, recurses := true, plainKeys := false, apart := false }
def HostExplainsSaid : Prop := hostExplainsRow.holds Tryz.pinned (OpenSpec.ofChange hostExplainsSpec)

/-- ITS FALSE NEIGHBOUR: 'it returns false'. Refute it at one input. -/
def hostExplainsWrong : ChangeSpec := { name := "hostExplains", fn := fun _ => fun
  | [d] => { results := [.lit (.bool false)], args := [d] }
  | _ => none }
def HostExplainsWrongFalsely : Prop := hostExplainsRow.holds Tryz.pinned (OpenSpec.ofChange hostExplainsWrong)

/-- 'platterlaw17.HostExplained': WHATEVER THE INPUT: true; the input reads as it did. -/
def hostExplainedSpec : ChangeSpec := { name := "hostExplained", fn := fun _ => fun
  | [d] => { results := [.lit (.bool true)], args := [d] }
  | _ => none }
def hostExplainedRow : OpenClaim := { program := "ytbdcjkcmpcdipaagreat", sum := "625a98a2173eb1b9889ee0cb6be115faac9c524c93a4c2d6eff13c5e0f509e37", func := "platter/platterlaw17.HostExplained", spec := "hostExplained", unfollowed := true, recurses := true, plainKeys := false, apart := false }
def HostExplainedSaid : Prop := hostExplainedRow.holds Tryz.pinned (OpenSpec.ofChange hostExplainedSpec)

/-- ITS FALSE NEIGHBOUR: 'it returns false'. Refute it at one input. -/
def hostExplainedWrong : ChangeSpec := { name := "hostExplained", fn := fun _ => fun
  | [d] => { results := [.lit (.bool false)], args := [d] }
  | _ => none }
def HostExplainedWrongFalsely : Prop := hostExplainedRow.holds Tryz.pinned (OpenSpec.ofChange hostExplainedWrong)

/- THE SECOND FORM. 'bulk': how many values and letters a reading holds, each counted each time it is reached (what is shared counts as often as it is met; a slice's spare places count too). A statement '..UptoSaid' is the law's where the arguments, and the package variables that the reading takes, are together of bulk at most 1048576: NARROWER than '..Said'. Prove '..Said' where nothing that the law and all that it calls make is longer than what came in: it says more and counts as full. Else prove '..UptoSaid'. A law counts once. -/
mutual
def uptoBulk {H : Type} : DataW H → Nat
  | .lit (.string bytes) => bytes.length + 1
  | .lit _ => 1
  | .nil => 1
  | .ptr d => uptoBulk d + 1
  | .slice elems spare => uptoBulkAll elems + uptoBulkAll spare + 1
  | .agg parts => uptoBulkAll parts + 1
  | .iface _ d => uptoBulk d + 1
  | .map entries => uptoBulkEntries entries + 1
  | .held _ => 1
def uptoBulkAll {H : Type} : List (DataW H) → Nat
  | [] => 0
  | d :: r => uptoBulk d + uptoBulkAll r
def uptoBulkEntries {H : Type} : List (Lit × DataW H) → Nat
  | [] => 0
  | x :: r => uptoBulkEntry x + uptoBulkEntries r
def uptoBulkEntry {H : Type} : Lit × DataW H → Nat
  | (.string bytes, d) => bytes.length + uptoBulk d + 1
  | (_, d) => uptoBulk d + 1
 end
def uptoSmall : (H : Type) → List (DataW H) → Bool := fun _ ds => decide (uptoBulkAll ds ≤ 1048576)
def OpenSpec.upto (s : _root_.Go.ChangeSpec) : _root_.Go.OpenSpec := { _root_.Go.OpenSpec.ofChange s with cond := some uptoSmall }

/-- 'platterlaw17.HostLegal', WHERE WHAT IT READS IS OF BULK AT MOST 1048576: true; the input reads as it did. -/
def hostLegalUptoRow : OpenClaim := { program := "ytbdcjkcmpcdipaagreat", sum := "625a98a2173eb1b9889ee0cb6be115faac9c524c93a4c2d6eff13c5e0f509e37", func := "platter/platterlaw17.HostLegal", spec := "hostLegal", unfollowed := true, recurses := true, plainKeys := false, apart := false, narrowed := true }
def HostLegalUptoSaid : Prop := hostLegalUptoRow.holds Tryz.pinned (OpenSpec.upto hostLegalSpec)

/-- 'platterlaw17.HostHonest', WHERE WHAT IT READS IS OF BULK AT MOST 1048576: true; the input reads as it did. -/
def hostHonestUptoRow : OpenClaim := { program := "ytbdcjkcmpcdipaagreat", sum := "625a98a2173eb1b9889ee0cb6be115faac9c524c93a4c2d6eff13c5e0f509e37", func := "platter/platterlaw17.HostHonest", spec := "hostHonest", unfollowed := true, recurses := true, plainKeys := false, apart := false, narrowed := true }
def HostHonestUptoSaid : Prop := hostHonestUptoRow.holds Tryz.pinned (OpenSpec.upto hostHonestSpec)

/-- 'platterlaw17.HostNext', WHERE WHAT IT READS IS OF BULK AT MOST 1048576: true; the input reads as it did. -/
def hostNextUptoRow : OpenClaim := { program := "ytbdcjkcmpcdipaagreat", sum := "625a98a2173eb1b9889ee0cb6be115faac9c524c93a4c2d6eff13c5e0f509e37", func := "platter/platterlaw17.HostNext", spec := "hostNext", unfollowed := true, recurses := true, plainKeys := false, apart := false, narrowed := true }
def HostNextUptoSaid : Prop := hostNextUptoRow.holds Tryz.pinned (OpenSpec.upto hostNextSpec)

/-- 'platterlaw17.HostReads', WHERE WHAT IT READS IS OF BULK AT MOST 1048576: true; the input reads as it did. -/
def hostReadsUptoRow : OpenClaim := { program := "ytbdcjkcmpcdipaagreat", sum := "625a98a2173eb1b9889ee0cb6be115faac9c524c93a4c2d6eff13c5e0f509e37", func := "platter/platterlaw17.HostReads", spec := "hostReads", unfollowed := true, recurses := true, plainKeys := false, apart := false, narrowed := true }
def HostReadsUptoSaid : Prop := hostReadsUptoRow.holds Tryz.pinned (OpenSpec.upto hostReadsSpec)

/-- 'platterlaw17.HostExplains', WHERE WHAT IT READS IS OF BULK AT MOST 1048576: true; the input reads as it did. -/
def hostExplainsUptoRow : OpenClaim := { program := "ytbdcjkcmpcdipaagreat", sum := "625a98a2173eb1b9889ee0cb6be115faac9c524c93a4c2d6eff13c5e0f509e37", func := "platter/platterlaw17.HostExplains", spec := "hostExplains", unfollowed := true, recurses := true, plainKeys := false, apart := false, narrowed := true }
def HostExplainsUptoSaid : Prop := hostExplainsUptoRow.holds Tryz.pinned (OpenSpec.upto hostExplainsSpec)

/-- 'platterlaw17.HostExplained', WHERE WHAT IT READS IS OF BULK AT MOST 1048576: true; the input reads as it did. -/
def hostExplainedUptoRow : OpenClaim := { program := "ytbdcjkcmpcdipaagreat", sum := "625a98a2173eb1b9889ee0cb6be115faac9c524c93a4c2d6eff13c5e0f509e37", func := "platter/platterlaw17.HostExplained", spec := "hostExplained", unfollowed := true, recurses := true, plainKeys := false, apart := false, narrowed := true }
def HostExplainedUptoSaid : Prop := hostExplainedUptoRow.holds Tryz.pinned (OpenSpec.upto hostExplainedSpec)

end Rows
end Go.Proofs.YtbdcjkcmpcdipaaGreat
