/- Own work: texts of the proof of a law (WuLL). No condition. -/
import Derived.Test.YtkgjhinmndcmjaaGreatRows
import Derived.WalkKit
import Derived.ProofKit
import Derived.JoinedCond
import Derived.Test.YtkgjhinmndcmjaaGreatPart39
import Derived.Test.YtkgjhinmndcmjaaGreatPart41
import Derived.Test.YtkgjhinmndcmjaaGreatPart0
import Derived.Test.YtkgjhinmndcmjaaGreatPart11
set_option linter.unusedVariables false
set_option linter.unusedSimpArgs false
namespace Go.Proofs
open Go Go.Sx Go.Proofs.YtkgjhinmndcmjaaGreat
set_option maxRecDepth 100000
theorem ownKnob_none:ownKnob Tryz.prog.godebug=none:=by kernel_rfl
theorem under4:Tryz.prog.underlying 4=some .bool:=by kernel_rfl
def tsPair:TS:=.struct [.int .i64,.int .i64]
def tsDisk:TS:=.struct [.int .i64,.int .i64,.slice tsPair,.int .i64,.int .i64,tsPair,tsPair]
def tsOrder:TS:=.struct [.int .i64,.int .i64]
def tsCache:TS:=.struct [.int .i64,.slice tsOrder]
def tsInts:TS:=.slice (.int .i64)
def tsServing:TS:=.struct [tsCache,tsDisk,.slice tsPair,.int .i64,tsInts]
def tsMoment:TS:=.struct [tsInts,.int .i64]
def zeroSl:Value:=.slice none 0 0
def zI:Value:=.int .i64 0
def zeroServing:Value:=.agg #[zI,zeroSl,zI,zI,zeroSl,zI,zI,zI,zI,zI,zI,zeroSl,zI,zeroSl]
def zeroMoment:Value:=.agg #[zeroSl,zI]
def toP (l:List (Int×Int×Unit)):List (Int×Int):=l.map fun x=>(x.1,x.2.1)
theorem rowP (l:List (Int×Int×Unit)) (i:Nat):a0e (TS.enc tsPair) (TS.dflt tsPair) l i=a0e zC (0,0) (toP l) i:=by
 have h:∀x:Int×Int×Unit,TS.enc tsPair x=zC (x.1,x.2.1):=fun _=>rfl
 have h2:(toP l).getD i (0,0)=((l.getD i (0,0,())).1,(l.getD i (0,0,())).2.1):=by
  unfold toP
  rw[a0A,a0A,a1O]
  cases l[i]?<;>rfl
 show TS.enc tsPair (l.getD i (0,0,()))=zC ((toP l).getD i (0,0))
 rw[h2,h]
theorem toP_length (l:List (Int×Int×Unit)):l.length=(toP l).length:=by simp[toP]
theorem toP_le (l:List (Int×Int×Unit)) (h:l.length≤maxLen):(toP l).length≤9223372036854775807:=by
 rw[←toP_length]
 exact a3S h (by decide)
theorem ints_le (l:List Int) (h:l.length≤maxLen):l.length≤9223372036854775807:=a3S h (by decide)
theorem rowO (l:List (Int×Int×Unit)) (i:Nat):a0e (TS.enc tsOrder) (TS.dflt tsOrder) l i=a0e Ca.oC (0,0) (toP l) i:=rowP l i
end Go.Proofs
