/- Own work: texts of the proof of a law (WuA, WuB). No condition. -/
import Derived.Test.YtkgjhinmndcmjaaGreatPart35
import Derived.Test.YtkgjhinmndcmjaaGreatPart13
import Derived.Test.YtkgjhinmndcmjaaGreatPart0
import Derived.Test.YtkgjhinmndcmjaaGreatPart11
set_option linter.unusedVariables false
set_option linter.unusedSimpArgs false
namespace Go.Proofs
open Go Go.Sx
set_option maxRecDepth 100000
set_option maxHeartbeats 40000000
open Ca (Wt epW IsCrs okR okP)
open Classical in
noncomputable def crsF (ok:List Nat→Nat→Prop) (N m:Nat) (b:List Nat) (k:Nat):List (List Nat):=if ok b k then Ca.crs ok N m (b++[k]) else []
noncomputable def crsP (ok:List Nat→Nat→Prop) (N m:Nat) (b:List Nat) (i:Nat):List (List Nat):=(List.range i).flatMap (crsF ok N m b)
section
variable {ok:List Nat→Nat→Prop} {N m:Nat} {b:List Nat} {i:Nat}
theorem crsP_succ:crsP ok N m b (i+1)=crsP ok N m b i++crsF ok N m b i:=by
 unfold crsP
 rw[List.range_succ,List.flatMap_append,List.flatMap_singleton]
theorem crsP_no (h:¬ok b i):crsP ok N m b (i+1)=crsP ok N m b i:=by
 rw[crsP_succ,crsF,if_neg h,a3V]
theorem crsP_yes (h:ok b i):crsP ok N m b (i+1)=crsP ok N m b i++Ca.crs ok N m (b++[i]):=by
 rw[crsP_succ,crsF,if_pos h]
end
end Go.Proofs
namespace Go.Proofs
open Go Go.Sx
set_option maxRecDepth 100000
set_option maxHeartbeats 40000000
open Ca (Wt epW IsCrs okR okP)
theorem cntK_yes {f:Nat→Int} {t:Int} {k:Nat} (h:f k≤t):Sv.cntK f t (k+1)=Sv.cntK f t k+1:=if_pos h
theorem cntK_no {f:Nat→Int} {t:Int} {k:Nat} (h:¬f k≤t):Sv.cntK f t (k+1)=Sv.cntK f t k:=if_neg h
/-! ### the courses,one behind the other -/
end Go.Proofs
