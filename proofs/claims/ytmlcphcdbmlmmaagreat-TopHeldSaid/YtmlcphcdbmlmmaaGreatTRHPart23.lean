/- Own work: texts of the proof of a law (TLL). No condition. -/
import Derived.Test.YtmlcphcdbmlmmaaGreatTRHPart22
import Derived.Test.YtmlcphcdbmlmmaaGreatRows
import Derived.WalkKit
import Derived.ProofKit
import Derived.JoinedCond
set_option linter.unusedVariables false
set_option linter.unusedSimpArgs false
namespace Go.Proofs
open Go Go.Sx Go.Proofs.YtmlcphcdbmlmmaaGreat
set_option maxRecDepth 100000
theorem ownKnob_none:ownKnob Tryz.prog.godebug=none:=by kernel_rfl
theorem under4:Tryz.prog.underlying 4=some .bool:=by kernel_rfl
namespace Tp
def tsPair:TS:=.struct [.int .i64,.int .i64]
def tsDisk:TS:=.struct [.int .i64,.int .i64,.slice tsPair,.int .i64,.int .i64,tsPair,tsPair]
def tsInts:TS:=.slice (.int .i64)
def tsTrial:TS:=.struct [tsDisk,.int .i64,.slice tsInts,.int .i64,.int .i64,.int .i64,.int .i64,.int .i64,.int .i64]
def tsHeld:TS:=.struct [tsInts,.int .i64,.int .i64]
def zeroSl:Value:=.slice none 0 0
def zI:Value:=.int .i64 0
def zeroTrial:Value:=.agg #[zI,zI,zeroSl,zI,zI,zI,zI,zI,zI,zI,zeroSl,zI,zI,zI,zI,zI,zI]
def zeroHeld:Value:=.agg #[zeroSl,zI,zI]
def toP (l:List (Int×Int×Unit)):List (Int×Int):=l.map fun x=>(x.1,x.2.1)
theorem rowP (l:List (Int×Int×Unit)) (i:Nat):rowOf (TS.enc tsPair) (TS.dflt tsPair) l i=rowOf zC (0,0) (toP l) i:=by
 have h:∀x:Int×Int×Unit,TS.enc tsPair x=zC (x.1,x.2.1):=fun _=>rfl
 have h2:(toP l).getD i (0,0)=((l.getD i (0,0,())).1,(l.getD i (0,0,())).2.1):=by
  unfold toP
  rw[List.getD_eq_getElem?_getD,List.getD_eq_getElem?_getD,a2G]
  cases l[i]?<;>rfl
 show TS.enc tsPair (l.getD i (0,0,()))=zC ((toP l).getD i (0,0))
 rw[h2,h]
theorem toP_length (l:List (Int×Int×Unit)):l.length=(toP l).length:=by simp[toP]
theorem toP_le (l:List (Int×Int×Unit)) (h:l.length≤maxLen):(toP l).length≤9223372036854775807:=by
 rw[←toP_length]
 exact Nat.le_trans h (by decide)
theorem ints_le {α:Type} (l:List α) (h:l.length≤maxLen):l.length≤9223372036854775807:=Nat.le_trans h (by decide)
end Tp
end Go.Proofs
