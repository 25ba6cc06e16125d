/- Own work: texts of the proof of a law (CaLL). No condition. -/
import Derived.Test.YtmjaflgakiembaaCaLHPart22
import Derived.Test.YtmjaflgakiembaaRows
import Derived.WalkKit
import Derived.ProofKit
import Derived.JoinedCond
namespace Go.Proofs
open Go Go.Sx Go.Proofs.Ytmjaflgakiembaa
theorem ownKnob_none : ownKnob Try.prog.godebug = none := by kernel_rfl
theorem under4 : Try.prog.underlying 4 = some .bool := by kernel_rfl
def tsPair : TS := .struct [.int .i64, .int .i64]
def tsCache : TS := .struct [.int .i64, .slice tsPair]
def tsInts : TS := .slice (.int .i64)
def zeroSl : Value := .slice none 0 0
def zeroCache : Value := .agg #[.int .i64 0, .slice none 0 0]
def toW (l : List (Int × Int × Unit)) : List (Int × Int) := l.map fun x => (x.1, x.2.1)
theorem rowW (l : List (Int × Int × Unit)) (i : Nat) : rowOf (TS.enc tsPair) (TS.dflt tsPair) l i = rowOf oC (0, 0) (toW l) i := by
  have h : ∀ x : Int × Int × Unit, TS.enc tsPair x = oC (x.1, x.2.1) := fun _ => rfl
  have h2 : (toW l).getD i (0, 0) = ((l.getD i (0, 0, ())).1, (l.getD i (0, 0, ())).2.1) := by
    unfold toW
    rw [List.getD_eq_getElem?_getD, List.getD_eq_getElem?_getD, List.getElem?_map]
    cases l[i]? <;> rfl
  show TS.enc tsPair (l.getD i (0, 0, ())) = oC ((toW l).getD i (0, 0))
  rw [h2, h]
theorem toW_length (l : List (Int × Int × Unit)) : l.length = (toW l).length := by simp [toW]
theorem toW_le (l : List (Int × Int × Unit)) (h : l.length ≤ maxLen) : (toW l).length ≤ 9223372036854775807 := by
  rw [← toW_length]
  exact Nat.le_trans h (by decide)
theorem ints_le (l : List Int) (h : l.length ≤ maxLen) : l.length ≤ 9223372036854775807 := Nat.le_trans h (by decide)
end Go.Proofs

