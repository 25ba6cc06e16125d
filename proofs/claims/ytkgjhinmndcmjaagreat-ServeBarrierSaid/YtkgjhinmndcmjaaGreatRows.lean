/-
  No cell of these rows narrows 'for every input' (looked for: loops, veiled, ifaces, maps, wideKeys, modest, calm, conditions, laid).
  DERIVED. THE GIVEN ROWS OF THIS SEAT. 7 by the template 'for every input the law returns true; each argument reads behind the call as it read before'; 0 by the template 'total and deterministic' (their statements: YtkgjhinmndcmjaaGreatTotals.lean).
  GIVEN WITH THE SEED: the statements are not yours to turn. If you find one false, say at which input.
  Laid BY PROGRAM, IN A SANDBOX (cutbox-rows.mjs): the forced cells as the released guide's own fill.sh prints them over the translation 306f6487712ebbf8… (all of the seat's roots in one cut). By AI agents, Wed Nov 11 2026. No macro, syntax, notation, axiom, sorry.
-/
import Derived.Test.YtkgjhinmndcmjaaGreatChecked
import GoSem.Claim
import GoSem.ClaimJoined
import GoSem.ClaimMapViews
import Derived.JoinedTies
import Derived.KernelRfl
namespace Go.Proofs.YtkgjhinmndcmjaaGreat
/- THE CELL 'sum', in the pinned program and in every row, IS THE sha256 OF THE DUMP (.gsa) THAT YtkgjhinmndcmjaaGreatProg.lean LOADS. Nothing in Lean hashes anything: it is a label: what it is worth is what the hold of that sum in a sandbox is worth. -/
noncomputable def Tryz.pinned : Pinned := { name := "ytkgjhinmndcmjaagreat", sum := "306f6487712ebbf893b135d4a6131d194c2ce0ede88531d1d3bdf4647cfe6f8a", checked := Tryz.checked }
namespace Rows
def none {H : Type} : Left H := { results := [], args := [] }

/-- 'platterlaw15.ServeBests': WHATEVER THE INPUT: true; the input reads as it did. -/
def serveBestsSpec : ChangeSpec := { name := "serveBests", fn := fun _ => fun
  | [d1, d2] => { results := [.lit (.bool true)], args := [d1, d2] }
  | _ => none }
def serveBestsRow : OpenClaim := { program := "ytkgjhinmndcmjaagreat", sum := "306f6487712ebbf893b135d4a6131d194c2ce0ede88531d1d3bdf4647cfe6f8a", func := "platter/platterlaw15.ServeBests", spec := "serveBests", inPlace := ["slices.overlaps[platter/api.Waiting]"], unfollowed := true, recurses := true, plainKeys := false, apart := false }
def ServeBestsSaid : Prop := serveBestsRow.holds Tryz.pinned (OpenSpec.ofChange serveBestsSpec)

/-- ITS FALSE NEIGHBOUR: 'it returns false'. Refute it at one input. -/
def serveBestsWrong : ChangeSpec := { name := "serveBests", fn := fun _ => fun
  | [d1, d2] => { results := [.lit (.bool false)], args := [d1, d2] }
  | _ => none }
def ServeBestsWrongFalsely : Prop := serveBestsRow.holds Tryz.pinned (OpenSpec.ofChange serveBestsWrong)

/-- 'platterlaw15.ServeBest': WHATEVER THE INPUT: true; the input reads as it did. -/
def serveBestSpec : ChangeSpec := { name := "serveBest", fn := fun _ => fun
  | [d1, d2] => { results := [.lit (.bool true)], args := [d1, d2] }
  | _ => none }
def serveBestRow : OpenClaim := { program := "ytkgjhinmndcmjaagreat", sum := "306f6487712ebbf893b135d4a6131d194c2ce0ede88531d1d3bdf4647cfe6f8a", func := "platter/platterlaw15.ServeBest", spec := "serveBest", inPlace := ["slices.overlaps[platter/api.Waiting]"], unfollowed := true, recurses := true, plainKeys := false, apart := false }
def ServeBestSaid : Prop := serveBestRow.holds Tryz.pinned (OpenSpec.ofChange serveBestSpec)

/-- ITS FALSE NEIGHBOUR: 'it returns false'. Refute it at one input. -/
def serveBestWrong : ChangeSpec := { name := "serveBest", fn := fun _ => fun
  | [d1, d2] => { results := [.lit (.bool false)], args := [d1, d2] }
  | _ => none }
def ServeBestWrongFalsely : Prop := serveBestRow.holds Tryz.pinned (OpenSpec.ofChange serveBestWrong)

/-- 'platterlaw15.ServeMost': WHATEVER THE INPUT: true; the input reads as it did. -/
def serveMostSpec : ChangeSpec := { name := "serveMost", fn := fun _ => fun
  | [d1, d2, d3] => { results := [.lit (.bool true)], args := [d1, d2, d3] }
  | _ => none }
def serveMostRow : OpenClaim := { program := "ytkgjhinmndcmjaagreat", sum := "306f6487712ebbf893b135d4a6131d194c2ce0ede88531d1d3bdf4647cfe6f8a", func := "platter/platterlaw15.ServeMost", spec := "serveMost", inPlace := ["slices.overlaps[platter/api.Waiting]"], unfollowed := true, recurses := true, plainKeys := false, apart := false }
def ServeMostSaid : Prop := serveMostRow.holds Tryz.pinned (OpenSpec.ofChange serveMostSpec)

/-- ITS FALSE NEIGHBOUR: 'it returns false'. Refute it at one input. -/
def serveMostWrong : ChangeSpec := { name := "serveMost", fn := fun _ => fun
  | [d1, d2, d3] => { results := [.lit (.bool false)], args := [d1, d2, d3] }
  | _ => none }
def ServeMostWrongFalsely : Prop := serveMostRow.holds Tryz.pinned (OpenSpec.ofChange serveMostWrong)

/-- 'platterlaw15.ServeTimes': WHATEVER THE INPUT: true; the input reads as it did. -/
def serveTimesSpec : ChangeSpec := { name := "serveTimes", fn := fun _ => fun
  | [d1, d2] => { results := [.lit (.bool true)], args := [d1, d2] }
  | _ => none }
def serveTimesRow : OpenClaim := { program := "ytkgjhinmndcmjaagreat", sum := "306f6487712ebbf893b135d4a6131d194c2ce0ede88531d1d3bdf4647cfe6f8a", func := "platter/platterlaw15.ServeTimes", spec := "serveTimes", inPlace := ["slices.overlaps[platter/api.Waiting]"], unfollowed := true, recurses := true, plainKeys := false, apart := false }
def ServeTimesSaid : Prop := serveTimesRow.holds Tryz.pinned (OpenSpec.ofChange serveTimesSpec)

/-- ITS FALSE NEIGHBOUR: 'it returns false'. Refute it at one input. -/
def serveTimesWrong : ChangeSpec := { name := "serveTimes", fn := fun _ => fun
  | [d1, d2] => { results := [.lit (.bool false)], args := [d1, d2] }
  | _ => none }
def ServeTimesWrongFalsely : Prop := serveTimesRow.holds Tryz.pinned (OpenSpec.ofChange serveTimesWrong)

/-- 'platterlaw15.ServeEasier': WHATEVER THE INPUT: true; the input reads as it did. -/
def serveEasierSpec : ChangeSpec := { name := "serveEasier", fn := fun _ => fun
  | [d1, d2, d3] => { results := [.lit (.bool true)], args := [d1, d2, d3] }
  | _ => none }
def serveEasierRow : OpenClaim := { program := "ytkgjhinmndcmjaagreat", sum := "306f6487712ebbf893b135d4a6131d194c2ce0ede88531d1d3bdf4647cfe6f8a", func := "platter/platterlaw15.ServeEasier", spec := "serveEasier", inPlace := ["slices.overlaps[platter/api.Waiting]"], unfollowed := true, recurses := true, plainKeys := false, apart := false }
def ServeEasierSaid : Prop := serveEasierRow.holds Tryz.pinned (OpenSpec.ofChange serveEasierSpec)

/-- ITS FALSE NEIGHBOUR: 'it returns false'. Refute it at one input. -/
def serveEasierWrong : ChangeSpec := { name := "serveEasier", fn := fun _ => fun
  | [d1, d2, d3] => { results := [.lit (.bool false)], args := [d1, d2, d3] }
  | _ => none }
def ServeEasierWrongFalsely : Prop := serveEasierRow.holds Tryz.pinned (OpenSpec.ofChange serveEasierWrong)

/-- 'platterlaw15.ServeEnds': WHATEVER THE INPUT: true; the input reads as it did. -/
def serveEndsSpec : ChangeSpec := { name := "serveEnds", fn := fun _ => fun
  | [d1, d2] => { results := [.lit (.bool true)], args := [d1, d2] }
  | _ => none }
def serveEndsRow : OpenClaim := { program := "ytkgjhinmndcmjaagreat", sum := "306f6487712ebbf893b135d4a6131d194c2ce0ede88531d1d3bdf4647cfe6f8a", func := "platter/platterlaw15.ServeEnds", spec := "serveEnds", inPlace := ["slices.overlaps[platter/api.Waiting]"], unfollowed := true, recurses := true, plainKeys := false, apart := false }
def ServeEndsSaid : Prop := serveEndsRow.holds Tryz.pinned (OpenSpec.ofChange serveEndsSpec)

/-- ITS FALSE NEIGHBOUR: 'it returns false'. Refute it at one input. -/
def serveEndsWrong : ChangeSpec := { name := "serveEnds", fn := fun _ => fun
  | [d1, d2] => { results := [.lit (.bool false)], args := [d1, d2] }
  | _ => none }
def ServeEndsWrongFalsely : Prop := serveEndsRow.holds Tryz.pinned (OpenSpec.ofChange serveEndsWrong)

/-- 'platterlaw15.ServeBarrier': WHATEVER THE INPUT: true; the input reads as it did. -/
def serveBarrierSpec : ChangeSpec := { name := "serveBarrier", fn := fun _ => fun
  | [d1, d2] => { results := [.lit (.bool true)], args := [d1, d2] }
  | _ => none }
def serveBarrierRow : OpenClaim := { program := "ytkgjhinmndcmjaagreat", sum := "306f6487712ebbf893b135d4a6131d194c2ce0ede88531d1d3bdf4647cfe6f8a", func := "platter/platterlaw15.ServeBarrier", spec := "serveBarrier", inPlace := ["slices.overlaps[platter/api.Waiting]"], unfollowed := true, recurses := true, plainKeys := false, apart := false }
def ServeBarrierSaid : Prop := serveBarrierRow.holds Tryz.pinned (OpenSpec.ofChange serveBarrierSpec)

/-- ITS FALSE NEIGHBOUR: 'it returns false'. Refute it at one input. -/
def serveBarrierWrong : ChangeSpec := { name := "serveBarrier", fn := fun _ => fun
  | [d1, d2] => { results := [.lit (.bool false)], args := [d1, d2] }
  | _ => none }
def ServeBarrierWrongFalsely : Prop := serveBarrierRow.holds Tryz.pinned (OpenSpec.ofChange serveBarrierWrong)

/- THE SECOND FORM. 'bulk': how many values and letters a reading holds, each counted each time it is reached (what is shared counts as often as it is met; a slice's spare places count too). A statement '..UptoSaid' is the law's where the arguments, and the package variables that the reading takes, are together of bulk at most 1048576: NARROWER than '..Said'. Prove '..Said' where nothing that the law and all that it calls make is longer than what came in: it says more and counts as full. Else prove '..UptoSaid'. A law counts once. -/
mutual
def uptoBulk {H : Type} : DataW H → Nat
  | .lit (.string bytes) => bytes.length + 1
  | .lit _ => 1
  | .nil => 1
  | .ptr d => uptoBulk d + 1
  | .slice elems spare => uptoBulkAll elems + uptoBulkAll spare + 1
  | .agg parts => uptoBulkAll parts + 1
  | .iface _ d => uptoBulk d + 1
  | .map entries => uptoBulkEntries entries + 1
  | .held _ => 1
def uptoBulkAll {H : Type} : List (DataW H) → Nat
  | [] => 0
  | d :: r => uptoBulk d + uptoBulkAll r
def uptoBulkEntries {H : Type} : List (Lit × DataW H) → Nat
  | [] => 0
  | x :: r => uptoBulkEntry x + uptoBulkEntries r
def uptoBulkEntry {H : Type} : Lit × DataW H → Nat
  | (.string bytes, d) => bytes.length + uptoBulk d + 1
  | (_, d) => uptoBulk d + 1
 end
def uptoSmall : (H : Type) → List (DataW H) → Bool := fun _ ds => decide (uptoBulkAll ds ≤ 1048576)
def OpenSpec.upto (s : _root_.Go.ChangeSpec) : _root_.Go.OpenSpec := { _root_.Go.OpenSpec.ofChange s with cond := some uptoSmall }

/-- 'platterlaw15.ServeBests', WHERE WHAT IT READS IS OF BULK AT MOST 1048576: true; the input reads as it did. -/
def serveBestsUptoRow : OpenClaim := { program := "ytkgjhinmndcmjaagreat", sum := "306f6487712ebbf893b135d4a6131d194c2ce0ede88531d1d3bdf4647cfe6f8a", func := "platter/platterlaw15.ServeBests", spec := "serveBests", inPlace := ["slices.overlaps[platter/api.Waiting]"], unfollowed := true, recurses := true, plainKeys := false, apart := false, narrowed := true }
def ServeBestsUptoSaid : Prop := serveBestsUptoRow.holds Tryz.pinned (OpenSpec.upto serveBestsSpec)

/-- 'platterlaw15.ServeBest', WHERE WHAT IT READS IS OF BULK AT MOST 1048576: true; the input reads as it did. -/
def serveBestUptoRow : OpenClaim := { program := "ytkgjhinmndcmjaagreat", sum := "306f6487712ebbf893b135d4a6131d194c2ce0ede88531d1d3bdf4647cfe6f8a", func := "platter/platterlaw15.ServeBest", spec := "serveBest", inPlace := ["slices.overlaps[platter/api.Waiting]"], unfollowed := true, recurses := true, plainKeys := false, apart := false, narrowed := true }
def ServeBestUptoSaid : Prop := serveBestUptoRow.holds Tryz.pinned (OpenSpec.upto serveBestSpec)

/-- 'platterlaw15.ServeMost', WHERE WHAT IT READS IS OF BULK AT MOST 1048576: true; the input reads as it did. -/
def serveMostUptoRow : OpenClaim := { program := "ytkgjhinmndcmjaagreat", sum := "306f6487712ebbf893b135d4a6131d194c2ce0ede88531d1d3bdf4647cfe6f8a", func := "platter/platterlaw15.ServeMost", spec := "serveMost", inPlace := ["slices.overlaps[platter/api.Waiting]"], unfollowed := true, recurses := true, plainKeys := false, apart := false, narrowed := true }
def ServeMostUptoSaid : Prop := serveMostUptoRow.holds Tryz.pinned (OpenSpec.upto serveMostSpec)

/-- 'platterlaw15.ServeTimes', WHERE WHAT IT READS IS OF BULK AT MOST 1048576: true; the input reads as it did. -/
def serveTimesUptoRow : OpenClaim := { program := "ytkgjhinmndcmjaagreat", sum := "306f6487712ebbf893b135d4a6131d194c2ce0ede88531d1d3bdf4647cfe6f8a", func := "platter/platterlaw15.ServeTimes", spec := "serveTimes", inPlace := ["slices.overlaps[platter/api.Waiting]"], unfollowed := true, recurses := true, plainKeys := false, apart := false, narrowed := true }
def ServeTimesUptoSaid : Prop := serveTimesUptoRow.holds Tryz.pinned (OpenSpec.upto serveTimesSpec)

/-- 'platterlaw15.ServeEasier', WHERE WHAT IT READS IS OF BULK AT MOST 1048576: true; the input reads as it did. -/
def serveEasierUptoRow : OpenClaim := { program := "ytkgjhinmndcmjaagreat", sum := "306f6487712ebbf893b135d4a6131d194c2ce0ede88531d1d3bdf4647cfe6f8a", func := "platter/platterlaw15.ServeEasier", spec := "serveEasier", inPlace := ["slices.overlaps[platter/api.Waiting]"], unfollowed := true, recurses := true, plainKeys := false, apart := false, narrowed := true }
def ServeEasierUptoSaid : Prop := serveEasierUptoRow.holds Tryz.pinned (OpenSpec.upto serveEasierSpec)

/-- 'platterlaw15.ServeEnds', WHERE WHAT IT READS IS OF BULK AT MOST 1048576: true; the input reads as it did. -/
def serveEndsUptoRow : OpenClaim := { program := "ytkgjhinmndcmjaagreat", sum := "306f6487712ebbf893b135d4a6131d194c2ce0ede88531d1d3bdf4647cfe6f8a", func := "platter/platterlaw15.ServeEnds", spec := "serveEnds", inPlace := ["slices.overlaps[platter/api.Waiting]"], unfollowed := true, recurses := true, plainKeys := false, apart := false, narrowed := true }
def ServeEndsUptoSaid : Prop := serveEndsUptoRow.holds Tryz.pinned (OpenSpec.upto serveEndsSpec)

/-- 'platterlaw15.ServeBarrier', WHERE WHAT IT READS IS OF BULK AT MOST 1048576: true; the input reads as it did. -/
def serveBarrierUptoRow : OpenClaim := { program := "ytkgjhinmndcmjaagreat", sum := "306f6487712ebbf893b135d4a6131d194c2ce0ede88531d1d3bdf4647cfe6f8a", func := "platter/platterlaw15.ServeBarrier", spec := "serveBarrier", inPlace := ["slices.overlaps[platter/api.Waiting]"], unfollowed := true, recurses := true, plainKeys := false, apart := false, narrowed := true }
def ServeBarrierUptoSaid : Prop := serveBarrierUptoRow.holds Tryz.pinned (OpenSpec.upto serveBarrierSpec)

end Rows
end Go.Proofs.YtkgjhinmndcmjaaGreat
