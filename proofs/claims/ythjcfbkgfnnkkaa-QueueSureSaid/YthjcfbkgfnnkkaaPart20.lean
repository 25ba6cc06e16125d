/- Own work: texts of the proof of a law (QuLL). No condition. -/
import Derived.Test.YthjcfbkgfnnkkaaPart19
import Derived.Test.YthjcfbkgfnnkkaaRows
import Derived.WalkKit
import Derived.ProofKit
import Derived.JoinedCond
namespace Go.Proofs
open Go Go.Sx Go.Proofs.Ythjcfbkgfnnkkaa
set_option maxRecDepth 100000
theorem ownKnob_none : ownKnob Try.prog.godebug = none := by kernel_rfl
theorem under4 : Try.prog.underlying 4 = some .bool := by kernel_rfl
def tsPair : TS := .struct [.int .i64, .int .i64]
def tsReq : TS := .struct [.int .i64, .int .i64, .int .i64, .int .i64, .bool]
def tsDisk : TS := .struct [.int .i64, .int .i64, .slice tsPair, .int .i64, .int .i64, tsPair, tsPair]
def tsQueue : TS := .struct [tsDisk, .int .i64, .int .i64, .slice tsPair, .slice tsReq]
def tsInts : TS := .slice (.int .i64)
def zeroSl : Value := .slice none 0 0
def zI : Value := .int .i64 0
def zeroQueue : Value := .agg #[zI, zI, zeroSl, zI, zI, zI, zI, zI, zI, zI, zI, zeroSl, zeroSl]
def toP (l : List (Int × Int × Unit)) : List (Int × Int) := l.map fun x => (x.1, x.2.1)
def toR (l : List (Int × Int × Int × Int × Bool × Unit)) : List Rq := l.map fun x => ⟨x.1, x.2.1, x.2.2.1, x.2.2.2.1, x.2.2.2.2.1⟩
theorem rowP (l : List (Int × Int × Unit)) (i : Nat) : rowOf (TS.enc tsPair) (TS.dflt tsPair) l i = rowOf zC (0, 0) (toP l) i := by
  have h : ∀ x : Int × Int × Unit, TS.enc tsPair x = zC (x.1, x.2.1) := fun _ => rfl
  have h2 : (toP l).getD i (0, 0) = ((l.getD i (0, 0, ())).1, (l.getD i (0, 0, ())).2.1) := by
    unfold toP
    rw [List.getD_eq_getElem?_getD, List.getD_eq_getElem?_getD, List.getElem?_map]
    cases l[i]? <;> rfl
  show TS.enc tsPair (l.getD i (0, 0, ())) = zC ((toP l).getD i (0, 0))
  rw [h2, h]
theorem rowR (l : List (Int × Int × Int × Int × Bool × Unit)) (i : Nat) : rowOf (TS.enc tsReq) (TS.dflt tsReq) l i = rowOf rqC Rq.none (toR l) i := by
  have h : ∀ x : Int × Int × Int × Int × Bool × Unit, TS.enc tsReq x = rqC ⟨x.1, x.2.1, x.2.2.1, x.2.2.2.1, x.2.2.2.2.1⟩ := fun _ => rfl
  have h2 : (toR l).getD i Rq.none = (fun x : Int × Int × Int × Int × Bool × Unit => (⟨x.1, x.2.1, x.2.2.1, x.2.2.2.1, x.2.2.2.2.1⟩ : Rq)) (l.getD i (0, 0, 0, 0, false, ())) := by
    unfold toR
    rw [List.getD_eq_getElem?_getD, List.getD_eq_getElem?_getD, List.getElem?_map]
    cases l[i]? <;> rfl
  show TS.enc tsReq (l.getD i (0, 0, 0, 0, false, ())) = rqC ((toR l).getD i Rq.none)
  rw [h2, h]
theorem toP_length (l : List (Int × Int × Unit)) : l.length = (toP l).length := by simp [toP]
theorem toR_length (l : List (Int × Int × Int × Int × Bool × Unit)) : l.length = (toR l).length := by simp [toR]
theorem toP_le (l : List (Int × Int × Unit)) (h : l.length ≤ maxLen) : (toP l).length ≤ 9223372036854775807 := by
  rw [← toP_length]
  exact Nat.le_trans h (by decide)
theorem toR_le (l : List (Int × Int × Int × Int × Bool × Unit)) (h : l.length ≤ maxLen) : (toR l).length ≤ 9223372036854775807 := by
  rw [← toR_length]
  exact Nat.le_trans h (by decide)
theorem ints_le (l : List Int) (h : l.length ≤ maxLen) : l.length ≤ 9223372036854775807 := Nat.le_trans h (by decide)
end Go.Proofs
