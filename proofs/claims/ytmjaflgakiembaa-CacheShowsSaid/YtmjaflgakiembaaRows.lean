/-
  No cell of these rows narrows 'for every input' (looked for: loops, veiled, ifaces, maps, wideKeys, modest, calm, conditions, laid).
  DERIVED. THE GIVEN ROWS OF THIS SEAT. 9 by the template 'for every input the law returns true; each argument reads behind the call as it read before'; 0 by the template 'total and deterministic' (their statements: YtmjaflgakiembaaTotals.lean).
  GIVEN WITH THE SEED: the statements are not yours to turn. If you find one false, say at which input.
  Laid BY PROGRAM, IN A SANDBOX (cutbox-rows.mjs): the forced cells as the released guide's own fill.sh prints them over the translation d7e5a1a68f039e34… (all of the seat's roots in one cut). By AI agents, Wed Nov 11 2026. No macro, syntax, notation, axiom, sorry.
-/
import Derived.Test.YtmjaflgakiembaaChecked
import GoSem.Claim
import GoSem.ClaimJoined
import GoSem.ClaimMapViews
import Derived.JoinedTies
import Derived.KernelRfl
namespace Go.Proofs.Ytmjaflgakiembaa
/- THE CELL 'sum', in the pinned program and in every row, IS THE sha256 OF THE DUMP (.gsa) THAT YtmjaflgakiembaaProg.lean LOADS. Nothing in Lean hashes anything: it is a label: what it is worth is what the hold of that sum in a sandbox is worth. -/
noncomputable def Try.pinned : Pinned := { name := "ytmjaflgakiembaa", sum := "d7e5a1a68f039e34241c873bc340f15d58ee60620a178d41f0ec523744f75196", checked := Try.checked }
namespace Rows
def none {H : Type} : Left H := { results := [], args := [] }

/-- 'platterlaw08.CacheFewest': WHATEVER THE INPUT: true; the input reads as it did. -/
def cacheFewestSpec : ChangeSpec := { name := "cacheFewest", fn := fun _ => fun
  | [d1, d2] => { results := [.lit (.bool true)], args := [d1, d2] }
  | _ => none }
def cacheFewestRow : OpenClaim := { program := "ytmjaflgakiembaa", sum := "d7e5a1a68f039e34241c873bc340f15d58ee60620a178d41f0ec523744f75196", func := "platter/platterlaw08.CacheFewest", spec := "cacheFewest", unfollowed := true, recurses := true, plainKeys := false, apart := false }
def CacheFewestSaid : Prop := cacheFewestRow.holds Try.pinned (OpenSpec.ofChange cacheFewestSpec)

/-- ITS FALSE NEIGHBOUR: 'it returns false'. Refute it at one input. -/
def cacheFewestWrong : ChangeSpec := { name := "cacheFewest", fn := fun _ => fun
  | [d1, d2] => { results := [.lit (.bool false)], args := [d1, d2] }
  | _ => none }
def CacheFewestWrongFalsely : Prop := cacheFewestRow.holds Try.pinned (OpenSpec.ofChange cacheFewestWrong)

/-- 'platterlaw08.CacheAcked': WHATEVER THE INPUT: true; the input reads as it did. -/
def cacheAckedSpec : ChangeSpec := { name := "cacheAcked", fn := fun _ => fun
  | [d1, d2] => { results := [.lit (.bool true)], args := [d1, d2] }
  | _ => none }
def cacheAckedRow : OpenClaim := { program := "ytmjaflgakiembaa", sum := "d7e5a1a68f039e34241c873bc340f15d58ee60620a178d41f0ec523744f75196", func := "platter/platterlaw08.CacheAcked", spec := "cacheAcked", unfollowed := true, recurses := true, plainKeys := false, apart := false }
def CacheAckedSaid : Prop := cacheAckedRow.holds Try.pinned (OpenSpec.ofChange cacheAckedSpec)

/-- ITS FALSE NEIGHBOUR: 'it returns false'. Refute it at one input. -/
def cacheAckedWrong : ChangeSpec := { name := "cacheAcked", fn := fun _ => fun
  | [d1, d2] => { results := [.lit (.bool false)], args := [d1, d2] }
  | _ => none }
def CacheAckedWrongFalsely : Prop := cacheAckedRow.holds Try.pinned (OpenSpec.ofChange cacheAckedWrong)

/-- 'platterlaw08.CacheCans': WHATEVER THE INPUT: true; the input reads as it did. -/
def cacheCansSpec : ChangeSpec := { name := "cacheCans", fn := fun _ => fun
  | [d1, d2, d3] => { results := [.lit (.bool true)], args := [d1, d2, d3] }
  | _ => none }
def cacheCansRow : OpenClaim := { program := "ytmjaflgakiembaa", sum := "d7e5a1a68f039e34241c873bc340f15d58ee60620a178d41f0ec523744f75196", func := "platter/platterlaw08.CacheCans", spec := "cacheCans", unfollowed := true, recurses := true, plainKeys := false, apart := false }
def CacheCansSaid : Prop := cacheCansRow.holds Try.pinned (OpenSpec.ofChange cacheCansSpec)

/-- ITS FALSE NEIGHBOUR: 'it returns false'. Refute it at one input. -/
def cacheCansWrong : ChangeSpec := { name := "cacheCans", fn := fun _ => fun
  | [d1, d2, d3] => { results := [.lit (.bool false)], args := [d1, d2, d3] }
  | _ => none }
def CacheCansWrongFalsely : Prop := cacheCansRow.holds Try.pinned (OpenSpec.ofChange cacheCansWrong)

/-- 'platterlaw08.CacheShows': WHATEVER THE INPUT: true; the input reads as it did. -/
def cacheShowsSpec : ChangeSpec := { name := "cacheShows", fn := fun _ => fun
  | [d1, d2] => { results := [.lit (.bool true)], args := [d1, d2] }
  | _ => none }
def cacheShowsRow : OpenClaim := { program := "ytmjaflgakiembaa", sum := "d7e5a1a68f039e34241c873bc340f15d58ee60620a178d41f0ec523744f75196", func := "platter/platterlaw08.CacheShows", spec := "cacheShows", unfollowed := true, recurses := true, plainKeys := false, apart := false }
def CacheShowsSaid : Prop := cacheShowsRow.holds Try.pinned (OpenSpec.ofChange cacheShowsSpec)

/-- ITS FALSE NEIGHBOUR: 'it returns false'. Refute it at one input. -/
def cacheShowsWrong : ChangeSpec := { name := "cacheShows", fn := fun _ => fun
  | [d1, d2] => { results := [.lit (.bool false)], args := [d1, d2] }
  | _ => none }
def CacheShowsWrongFalsely : Prop := cacheShowsRow.holds Try.pinned (OpenSpec.ofChange cacheShowsWrong)

/-- 'platterlaw08.CacheShown': WHATEVER THE INPUT: true; the input reads as it did. -/
def cacheShownSpec : ChangeSpec := { name := "cacheShown", fn := fun _ => fun
  | [d1, d2] => { results := [.lit (.bool true)], args := [d1, d2] }
  | _ => none }
def cacheShownRow : OpenClaim := { program := "ytmjaflgakiembaa", sum := "d7e5a1a68f039e34241c873bc340f15d58ee60620a178d41f0ec523744f75196", func := "platter/platterlaw08.CacheShown", spec := "cacheShown", unfollowed := true, recurses := true, plainKeys := false, apart := false }
def CacheShownSaid : Prop := cacheShownRow.holds Try.pinned (OpenSpec.ofChange cacheShownSpec)

/-- ITS FALSE NEIGHBOUR: 'it returns false'. Refute it at one input. -/
def cacheShownWrong : ChangeSpec := { name := "cacheShown", fn := fun _ => fun
  | [d1, d2] => { results := [.lit (.bool false)], args := [d1, d2] }
  | _ => none }
def CacheShownWrongFalsely : Prop := cacheShownRow.holds Try.pinned (OpenSpec.ofChange cacheShownWrong)

/-- 'platterlaw08.CacheBarrier': WHATEVER THE INPUT: true; the input reads as it did. -/
def cacheBarrierSpec : ChangeSpec := { name := "cacheBarrier", fn := fun _ => fun
  | [d1, d2] => { results := [.lit (.bool true)], args := [d1, d2] }
  | _ => none }
def cacheBarrierRow : OpenClaim := { program := "ytmjaflgakiembaa", sum := "d7e5a1a68f039e34241c873bc340f15d58ee60620a178d41f0ec523744f75196", func := "platter/platterlaw08.CacheBarrier", spec := "cacheBarrier", unfollowed := true, recurses := true, plainKeys := false, apart := false }
def CacheBarrierSaid : Prop := cacheBarrierRow.holds Try.pinned (OpenSpec.ofChange cacheBarrierSpec)

/-- ITS FALSE NEIGHBOUR: 'it returns false'. Refute it at one input. -/
def cacheBarrierWrong : ChangeSpec := { name := "cacheBarrier", fn := fun _ => fun
  | [d1, d2] => { results := [.lit (.bool false)], args := [d1, d2] }
  | _ => none }
def CacheBarrierWrongFalsely : Prop := cacheBarrierRow.holds Try.pinned (OpenSpec.ofChange cacheBarrierWrong)

/-- 'platterlaw08.CacheKept': WHATEVER THE INPUT: true; the input reads as it did. -/
def cacheKeptSpec : ChangeSpec := { name := "cacheKept", fn := fun _ => fun
  | [d1, d2] => { results := [.lit (.bool true)], args := [d1, d2] }
  | _ => none }
def cacheKeptRow : OpenClaim := { program := "ytmjaflgakiembaa", sum := "d7e5a1a68f039e34241c873bc340f15d58ee60620a178d41f0ec523744f75196", func := "platter/platterlaw08.CacheKept", spec := "cacheKept", unfollowed := true, recurses := true, plainKeys := false, apart := false }
def CacheKeptSaid : Prop := cacheKeptRow.holds Try.pinned (OpenSpec.ofChange cacheKeptSpec)

/-- ITS FALSE NEIGHBOUR: 'it returns false'. Refute it at one input. -/
def cacheKeptWrong : ChangeSpec := { name := "cacheKept", fn := fun _ => fun
  | [d1, d2] => { results := [.lit (.bool false)], args := [d1, d2] }
  | _ => none }
def CacheKeptWrongFalsely : Prop := cacheKeptRow.holds Try.pinned (OpenSpec.ofChange cacheKeptWrong)

/-- 'platterlaw08.CachePlays': WHATEVER THE INPUT: true; the input reads as it did. -/
def cachePlaysSpec : ChangeSpec := { name := "cachePlays", fn := fun _ => fun
  | [d1, d2] => { results := [.lit (.bool true)], args := [d1, d2] }
  | _ => none }
def cachePlaysRow : OpenClaim := { program := "ytmjaflgakiembaa", sum := "d7e5a1a68f039e34241c873bc340f15d58ee60620a178d41f0ec523744f75196", func := "platter/platterlaw08.CachePlays", spec := "cachePlays", unfollowed := true, recurses := true, plainKeys := false, apart := false }
def CachePlaysSaid : Prop := cachePlaysRow.holds Try.pinned (OpenSpec.ofChange cachePlaysSpec)

/-- ITS FALSE NEIGHBOUR: 'it returns false'. Refute it at one input. -/
def cachePlaysWrong : ChangeSpec := { name := "cachePlays", fn := fun _ => fun
  | [d1, d2] => { results := [.lit (.bool false)], args := [d1, d2] }
  | _ => none }
def CachePlaysWrongFalsely : Prop := cachePlaysRow.holds Try.pinned (OpenSpec.ofChange cachePlaysWrong)

/-- 'platterlaw08.CacheForced': WHATEVER THE INPUT: true; the input reads as it did. -/
def cacheForcedSpec : ChangeSpec := { name := "cacheForced", fn := fun _ => fun
  | [d1, d2, d3] => { results := [.lit (.bool true)], args := [d1, d2, d3] }
  | _ => none }
def cacheForcedRow : OpenClaim := { program := "ytmjaflgakiembaa", sum := "d7e5a1a68f039e34241c873bc340f15d58ee60620a178d41f0ec523744f75196", func := "platter/platterlaw08.CacheForced", spec := "cacheForced", unfollowed := true, recurses := true, plainKeys := false, apart := false }
def CacheForcedSaid : Prop := cacheForcedRow.holds Try.pinned (OpenSpec.ofChange cacheForcedSpec)

/-- ITS FALSE NEIGHBOUR: 'it returns false'. Refute it at one input. -/
def cacheForcedWrong : ChangeSpec := { name := "cacheForced", fn := fun _ => fun
  | [d1, d2, d3] => { results := [.lit (.bool false)], args := [d1, d2, d3] }
  | _ => none }
def CacheForcedWrongFalsely : Prop := cacheForcedRow.holds Try.pinned (OpenSpec.ofChange cacheForcedWrong)

/- THE SECOND FORM. 'bulk': how many values and letters a reading holds, each counted each time it is reached (what is shared counts as often as it is met; a slice's spare places count too). A statement '..UptoSaid' is the law's where the arguments, and the package variables that the reading takes, are together of bulk at most 1048576: NARROWER than '..Said'. Prove '..Said' where nothing that the law and all that it calls make is longer than what came in: it says more and counts as full. Else prove '..UptoSaid'. A law counts once. -/
mutual
def uptoBulk {H : Type} : DataW H → Nat
  | .lit (.string bytes) => bytes.length + 1
  | .lit _ => 1
  | .nil => 1
  | .ptr d => uptoBulk d + 1
  | .slice elems spare => uptoBulkAll elems + uptoBulkAll spare + 1
  | .agg parts => uptoBulkAll parts + 1
  | .iface _ d => uptoBulk d + 1
  | .map entries => uptoBulkEntries entries + 1
  | .held _ => 1
def uptoBulkAll {H : Type} : List (DataW H) → Nat
  | [] => 0
  | d :: r => uptoBulk d + uptoBulkAll r
def uptoBulkEntries {H : Type} : List (Lit × DataW H) → Nat
  | [] => 0
  | x :: r => uptoBulkEntry x + uptoBulkEntries r
def uptoBulkEntry {H : Type} : Lit × DataW H → Nat
  | (.string bytes, d) => bytes.length + uptoBulk d + 1
  | (_, d) => uptoBulk d + 1
 end
def uptoSmall : (H : Type) → List (DataW H) → Bool := fun _ ds => decide (uptoBulkAll ds ≤ 1048576)
def OpenSpec.upto (s : _root_.Go.ChangeSpec) : _root_.Go.OpenSpec := { _root_.Go.OpenSpec.ofChange s with cond := some uptoSmall }

/-- 'platterlaw08.CacheFewest', WHERE WHAT IT READS IS OF BULK AT MOST 1048576: true; the input reads as it did. -/
def cacheFewestUptoRow : OpenClaim := { program := "ytmjaflgakiembaa", sum := "d7e5a1a68f039e34241c873bc340f15d58ee60620a178d41f0ec523744f75196", func := "platter/platterlaw08.CacheFewest", spec := "cacheFewest", unfollowed := true, recurses := true, plainKeys := false, apart := false, narrowed := true }
def CacheFewestUptoSaid : Prop := cacheFewestUptoRow.holds Try.pinned (OpenSpec.upto cacheFewestSpec)

/-- 'platterlaw08.CacheAcked', WHERE WHAT IT READS IS OF BULK AT MOST 1048576: true; the input reads as it did. -/
def cacheAckedUptoRow : OpenClaim := { program := "ytmjaflgakiembaa", sum := "d7e5a1a68f039e34241c873bc340f15d58ee60620a178d41f0ec523744f75196", func := "platter/platterlaw08.CacheAcked", spec := "cacheAcked", unfollowed := true, recurses := true, plainKeys := false, apart := false, narrowed := true }
def CacheAckedUptoSaid : Prop := cacheAckedUptoRow.holds Try.pinned (OpenSpec.upto cacheAckedSpec)

/-- 'platterlaw08.CacheCans', WHERE WHAT IT READS IS OF BULK AT MOST 1048576: true; the input reads as it did. -/
def cacheCansUptoRow : OpenClaim := { program := "ytmjaflgakiembaa", sum := "d7e5a1a68f039e34241c873bc340f15d58ee60620a178d41f0ec523744f75196", func := "platter/platterlaw08.CacheCans", spec := "cacheCans", unfollowed := true, recurses := true, plainKeys := false, apart := false, narrowed := true }
def CacheCansUptoSaid : Prop := cacheCansUptoRow.holds Try.pinned (OpenSpec.upto cacheCansSpec)

/-- 'platterlaw08.CacheShows', WHERE WHAT IT READS IS OF BULK AT MOST 1048576: true; the input reads as it did. -/
def cacheShowsUptoRow : OpenClaim := { program := "ytmjaflgakiembaa", sum := "d7e5a1a68f039e34241c873bc340f15d58ee60620a178d41f0ec523744f75196", func := "platter/platterlaw08.CacheShows", spec := "cacheShows", unfollowed := true, recurses := true, plainKeys := false, apart := false, narrowed := true }
def CacheShowsUptoSaid : Prop := cacheShowsUptoRow.holds Try.pinned (OpenSpec.upto cacheShowsSpec)

/-- 'platterlaw08.CacheShown', WHERE WHAT IT READS IS OF BULK AT MOST 1048576: true; the input reads as it did. -/
def cacheShownUptoRow : OpenClaim := { program := "ytmjaflgakiembaa", sum := "d7e5a1a68f039e34241c873bc340f15d58ee60620a178d41f0ec523744f75196", func := "platter/platterlaw08.CacheShown", spec := "cacheShown", unfollowed := true, recurses := true, plainKeys := false, apart := false, narrowed := true }
def CacheShownUptoSaid : Prop := cacheShownUptoRow.holds Try.pinned (OpenSpec.upto cacheShownSpec)

/-- 'platterlaw08.CacheBarrier', WHERE WHAT IT READS IS OF BULK AT MOST 1048576: true; the input reads as it did. -/
def cacheBarrierUptoRow : OpenClaim := { program := "ytmjaflgakiembaa", sum := "d7e5a1a68f039e34241c873bc340f15d58ee60620a178d41f0ec523744f75196", func := "platter/platterlaw08.CacheBarrier", spec := "cacheBarrier", unfollowed := true, recurses := true, plainKeys := false, apart := false, narrowed := true }
def CacheBarrierUptoSaid : Prop := cacheBarrierUptoRow.holds Try.pinned (OpenSpec.upto cacheBarrierSpec)

/-- 'platterlaw08.CacheKept', WHERE WHAT IT READS IS OF BULK AT MOST 1048576: true; the input reads as it did. -/
def cacheKeptUptoRow : OpenClaim := { program := "ytmjaflgakiembaa", sum := "d7e5a1a68f039e34241c873bc340f15d58ee60620a178d41f0ec523744f75196", func := "platter/platterlaw08.CacheKept", spec := "cacheKept", unfollowed := true, recurses := true, plainKeys := false, apart := false, narrowed := true }
def CacheKeptUptoSaid : Prop := cacheKeptUptoRow.holds Try.pinned (OpenSpec.upto cacheKeptSpec)

/-- 'platterlaw08.CachePlays', WHERE WHAT IT READS IS OF BULK AT MOST 1048576: true; the input reads as it did. -/
def cachePlaysUptoRow : OpenClaim := { program := "ytmjaflgakiembaa", sum := "d7e5a1a68f039e34241c873bc340f15d58ee60620a178d41f0ec523744f75196", func := "platter/platterlaw08.CachePlays", spec := "cachePlays", unfollowed := true, recurses := true, plainKeys := false, apart := false, narrowed := true }
def CachePlaysUptoSaid : Prop := cachePlaysUptoRow.holds Try.pinned (OpenSpec.upto cachePlaysSpec)

/-- 'platterlaw08.CacheForced', WHERE WHAT IT READS IS OF BULK AT MOST 1048576: true; the input reads as it did. -/
def cacheForcedUptoRow : OpenClaim := { program := "ytmjaflgakiembaa", sum := "d7e5a1a68f039e34241c873bc340f15d58ee60620a178d41f0ec523744f75196", func := "platter/platterlaw08.CacheForced", spec := "cacheForced", unfollowed := true, recurses := true, plainKeys := false, apart := false, narrowed := true }
def CacheForcedUptoSaid : Prop := cacheForcedUptoRow.holds Try.pinned (OpenSpec.upto cacheForcedSpec)

end Rows
end Go.Proofs.Ytmjaflgakiembaa
