/- Own work: texts of the proof of a law (GwLL). No condition. -/
import Derived.Test.YtbdcjkcmpcdipaaGreatPart29
import Derived.Test.YtbdcjkcmpcdipaaGreatRows
import Derived.WalkKit
import Derived.ProofKit
import Derived.JoinedCond
set_option linter.unusedVariables false
set_option linter.unusedSimpArgs false
namespace Go.Proofs
open Go Go.Sx Go.Proofs.YtbdcjkcmpcdipaaGreat
set_option maxRecDepth 100000
theorem ownKnob_none:ownKnob Tryz.prog.godebug=none:=by kernel_rfl
theorem under4:Tryz.prog.underlying 4=some .bool:=by kernel_rfl
namespace Ho
def tsCmd:TS:=.struct [.int .i64,.int .i64,.int .i64,.int .i64,.int .i64]
def tsHist:TS:=.struct [.int .i64,.slice tsCmd]
def zI:Value:=.int .i64 0
def zeroHist:Value:=.agg #[zI,.slice none 0 0]
def toC (l:List (Int×Int×Int×Int×Int×Unit)):List Cmd:=l.map fun x=>⟨x.1,x.2.1,x.2.2.1,x.2.2.2.1,x.2.2.2.2.1⟩
theorem toC_length (l:List (Int×Int×Int×Int×Int×Unit)):l.length=(toC l).length:=by simp[toC]
theorem toC_le (l:List (Int×Int×Int×Int×Int×Unit)) (h:l.length≤maxLen):(toC l).length≤9223372036854775807:=by
 rw[←toC_length]
 exact a2X h (by decide)
theorem rowC (l:List (Int×Int×Int×Int×Int×Unit)) (i:Nat):a0u (TS.enc tsCmd) (TS.dflt tsCmd) l i=a0u Cmd.c c0 (toC l) i:=by
 have h:∀x:Int×Int×Int×Int×Int×Unit,TS.enc tsCmd x=Cmd.c ⟨x.1,x.2.1,x.2.2.1,x.2.2.2.1,x.2.2.2.2.1⟩:=fun _=>rfl
 have h2:(toC l).getD i c0=(fun x:Int×Int×Int×Int×Int×Unit=>(⟨x.1,x.2.1,x.2.2.1,x.2.2.2.1,x.2.2.2.2.1⟩:Cmd)) (l.getD i (0,0,0,0,0,())):=by
  unfold toC
  rw[a0A,a0A,a2G]
  cases l[i]?<;>rfl
 show TS.enc tsCmd (l.getD i (0,0,0,0,0,()))=Cmd.c ((toC l).getD i c0)
 rw[h2,h]
end Ho
end Go.Proofs
