/- Own work: texts of the proof of a law (WqL, Wq1). No condition. -/
import Derived.Test.YtkgjhinmndcmjaaGreatPart15
import Derived.Test.YtkgjhinmndcmjaaGreatPart12
import Derived.Test.YtkgjhinmndcmjaaGreatPart13
import Derived.Test.YtkgjhinmndcmjaaGreatPart0
import Derived.Test.YtkgjhinmndcmjaaGreatPart11
set_option linter.unusedVariables false
set_option linter.unusedSimpArgs false
namespace Go.Proofs
open Go Go.Sx
set_option maxHeartbeats 1000000
theorem IsOrd.perm {n:Nat} {o:List Nat} (h:IsOrd n o):o.Perm (List.range n):=
 (List.perm_ext_iff_of_nodup h.nd List.nodup_range).2 fun m=>⟨fun hm=>a1F.2 (h.lt m hm),fun hm=>by
  obtain⟨i,hi,rfl⟩:=h.mem (a1F.1 hm)
  rw[a1a hi]
  exact a0N hi⟩
theorem idxOf_getD {n:Nat} {o:List Nat} (h:IsOrd n o) {i:Nat} (hi:i<o.length):o.idxOf (o.getD i 0)=i:=by
 have hm:o.getD i 0∈o:=by rw[a1a hi];exact a0N hi
 have h1:=List.idxOf_lt_length_of_mem hm
 refine h.inj h1 hi ?_
 rw[a1a h1,List.getElem_idxOf]
namespace Qu
def n (q:Qu):Nat:=q.rq.length
def od (q:Qu) (r:Nat):Prop:=(q.req r).od=true
noncomputable def all (q:Qu) (p:Int):List (List Nat):=allQ q.n p.toNat q.od
def isLate (q:Qu) (o:List Nat) (r:Nat):Prop:=0≤(q.req r).du∧(q.req r).du<q.endOf true o r
instance (q:Qu) (o:List Nat) (r:Nat):Decidable (q.isLate o r):=inferInstanceAs (Decidable (_∧_))
def lateTo (q:Qu) (o:List Nat):Nat→Int
 |0=>0
 |k+1=>lateTo q o k+if q.isLate o k then 1 else 0
def lateC (q:Qu) (o:List Nat):Int:=q.lateTo o q.n
def endC (q:Qu) (o:List Nat):Int:=(q.stQ true o o.length).2
def stepB (q:Qu) (s:List Nat×Int×Int) (o:List Nat):List Nat×Int×Int:=
 if q.lateC o<s.2.1∨q.lateC o=s.2.1∧q.endC o<s.2.2 then(o,q.lateC o,q.endC o) else s
end Qu
end Go.Proofs
namespace Go.Proofs
open Go Go.Sx
set_option maxRecDepth 100000
set_option maxHeartbeats 4000000
def zC (z:Int×Int):List V:=[.int .i64 z.1,.int .i64 z.2]
namespace Dk
def c (d:Dk):List V:=[.int .i64 d.H,.int .i64 d.T,.sl 2 d.Z.length (a0e zC (0,0) d.Z),.int .i64 d.hk,.int .i64 d.ck,.int .i64 d.hs.1,.int .i64 d.hs.2,.int .i64 d.cs.1,.int .i64 d.cs.2]
def v (d:Dk):V:=.agg d.c
open Classical in
noncomputable def chk (d:Dk):Int:=if d.Ok then 0 else 10
theorem chk_ok {d:Dk} (h:d.chk=0):d.Ok:=by unfold chk at h;split at h;assumption;omega
theorem chk_of {d:Dk} (h:d.Ok):d.chk=0:=if_pos h
theorem chk_no {d:Dk} (h:¬d.Ok):d.chk=10:=if_neg h
end Dk
theorem a2v (n x y:Int):a0g Tryz.prog 98 false [.int .i64 n,.int .i64 x,.int .i64 y] (·=.prop (x≤n∧n≤y) inferInstance):=by
 refine a0a Tryz.E_ok Tryz.func98 rfl (by kernel_rfl) ?_
 refine x1 ?_;(all_goals(try(refine⟨_,rfl,?_⟩;exact xc0)))
theorem within27 (n x y:Int):a0g Tryz.prog 109 false [.int .i64 n,.int .i64 x,.int .i64 y] (·=.prop (x≤n∧n≤y) inferInstance):=by
 refine a0a Tryz.E_ok Tryz.func109 rfl (by kernel_rfl) ?_
 refine x1 ?_;(all_goals(try(refine⟨_,rfl,?_⟩;exact xc0)))
theorem in80 (n x y:Int):a0g Tryz.prog 121 false [.int .i64 n,.int .i64 x,.int .i64 y] (·=.prop (x≤n∧n≤y) inferInstance):=by
 refine a0a Tryz.E_ok Tryz.func121 rfl (by kernel_rfl) ?_
 refine x1 ?_;(all_goals(try(refine⟨_,rfl,?_⟩;exact xc0)))
theorem span79 (s:Int×Int):a0g Tryz.prog 120 false [.agg [.int .i64 s.1,.int .i64 s.2]] (·=.prop (Dk.SpanOk s) (inferInstanceAs (Decidable (_∧_∧_)))):=by
 refine a0a Tryz.E_ok Tryz.func120 rfl (by kernel_rfl) ?_
 unfold Dk.SpanOk
 refine x1 ?_
 refine⟨_,rfl,?_⟩
 exact xc0
theorem Dk.zat {d:Dk} (h:d.Ok) {i:Nat} (hi:i<d.Z.length):(1≤(d.Z.getD i (0,0)).1∧(d.Z.getD i (0,0)).1≤20)∧(1≤(d.Z.getD i (0,0)).2∧(d.Z.getD i (0,0)).2≤16)∧d.T % (d.Z.getD i (0,0)).2=0:=Dk.zone_at h hi
theorem Check37 (d:Dk) (hl:d.Z.length≤1000000):a0g Tryz.prog 64 false [d.v] (·=.int .i64 d.chk):=by
 refine a0a Tryz.E_ok Tryz.func64 rfl (by kernel_rfl) ?_
 refine x1 ?_;(repeat' ((first|(refine a0b (a2v _ _ _) rfl ?_;rintro _ rfl)|(refine a0d (a2v _ _ _) rfl ?_)|(refine a0h (fun _=>a2v _ _ _) rfl ?_));refine x3 (fun hc=>?_) (fun hc=>?_)))
 ·rw[Dk.chk_no (fun h=>by have:=h.ck;omega)]
  refine⟨_,rfl,?_⟩
  exact xc0
 ·refine⟨Nat,fun i=>i≤d.Z.length∧∀j,j<i→(1≤(d.Z.getD j (0,0)).1∧(d.Z.getD j (0,0)).1≤20)∧(1≤(d.Z.getD j (0,0)).2∧(d.Z.getD j (0,0)).2≤16)∧d.T % (d.Z.getD j (0,0)).2=0,fun i=>d.Z.length-i,fun i=>[(3,.int .i64 (i:Nat))],fun _=>[],fun _=>[],0,⟨⟨by omega,fun j hj=>by omega⟩,none,?_⟩,?_⟩
  ·exact xc0
  ·rintro i ⟨hi,hz⟩
   have hti:(i:Int).toNat=i:=a0E i
   (repeat' ((conv=>whnf);first|(with_reducible first|apply spl|apply spl'|refine iJ ?_)<;>intro hc<;>try(exfalso;omega)|refine vcq ?_|fail));all_goals((try conv=>whnf);try exact trivial);(repeat' ((first|(refine a0b (a2v _ _ _) rfl ?_;rintro _ rfl)|(refine a0d (a2v _ _ _) rfl ?_)|(refine a0h (fun _=>a2v _ _ _) rfl ?_));refine x3 (fun hc=>?_) (fun hc=>?_)))
   ·rw[hti] at *
    have hi1:i<d.Z.length:=by omega
    rw[Dk.chk_no (fun h=>by have:=Dk.zat h hi1;rw[a1I (by omega)] at hc;omega)]
    refine⟨_,rfl,?_⟩
    exact xc0
   ·rw[hti] at *
    have hi1:i<d.Z.length:=by omega
    refine⟨i+1,⟨⟨by omega,fun j hj=>?_⟩,by dsimp only;omega⟩,some [some 0],?_⟩
    ·rcases a0I (show j≤i by omega) with g|rfl
     ·exact hz j g
     ·rw[a1I (by omega)] at hc
      omega
    ·exact xc0
   ·rw[hti] at *
    have hi1:i<d.Z.length:=by omega
    rw[Dk.chk_no (fun h=>by have:=Dk.zat h hi1;omega)]
    refine⟨_,rfl,?_⟩
    exact xc0
   ·rw[Dk.chk_no (fun h=>by have:=h.hs;have:=h.cs;unfold Dk.SpanOk at *;omega)]
    refine⟨_,rfl,?_⟩
    exact xc0
   ·have hie:i=d.Z.length:=by omega
    subst hie
    rw[Dk.chk_of ⟨by omega,by omega,by omega,by omega,by omega,by unfold Dk.SpanOk;omega,by unfold Dk.SpanOk;omega,fun z hzm=>by
     obtain⟨j,hj,rfl⟩:=a1A hzm
     have:=hz j hj
     rwa [show d.Z.getD j (0,0)=d.Z[j] by simp[a0A,hj]] at this⟩]
    refine⟨_,rfl,?_⟩
    exact xc0
 ·rw[Dk.chk_no (fun h=>by have:=h.hk;omega)]
  refine⟨_,rfl,?_⟩
  exact xc0
 ·rw[Dk.chk_no (fun h=>by have:=h.z;omega)]
  refine⟨_,rfl,?_⟩
  exact xc0
 ·rw[Dk.chk_no (fun h=>by have:=h.t;omega)]
  refine⟨_,rfl,?_⟩
  exact xc0
 ·rw[Dk.chk_no (fun h=>by have:=h.h;omega)]
  refine⟨_,rfl,?_⟩
  exact xc0
theorem Check63 (d:Dk) (hl:d.Z.length≤1000000):a0g Tryz.prog 83 false [d.v] (·=.int .i64 d.chk):=by
 refine a0a Tryz.E_ok Tryz.func83 rfl (by kernel_rfl) ?_
 refine x1 ?_;(repeat' ((first|(refine a0b (in80 _ _ _) rfl ?_;rintro _ rfl)|(refine a0d (in80 _ _ _) rfl ?_)|(refine a0h (fun _=>in80 _ _ _) rfl ?_)|(refine a0b (span79 d.hs) rfl ?_;rintro _ rfl)|(refine a0d (span79 d.hs) rfl ?_)|(refine a0h (fun _=>span79 d.hs) rfl ?_)|(refine a0b (span79 d.cs) rfl ?_;rintro _ rfl)|(refine a0d (span79 d.cs) rfl ?_)|(refine a0h (fun _=>span79 d.cs) rfl ?_));(repeat' ((conv=>whnf);first|(with_reducible first|apply spl|apply spl'|refine iJ ?_)<;>intro hc<;>try(exfalso;omega)|refine vcq ?_|fail));all_goals((try conv=>whnf);try exact trivial)))
 all_goals first
  |(exfalso;contradiction)
  |(rw[Dk.chk_no (fun h=>by have:=h.h;have:=h.t;have:=h.z;have:=h.hk;have:=h.ck;have:=h.hs;have:=h.cs;first|omega|contradiction)];refine⟨_,rfl,?_⟩;(repeat' ((conv=>whnf);first|(with_reducible first|apply spl|apply spl'|refine iJ ?_)<;>intro hc<;>try(exfalso;omega)|refine vcq ?_|fail));all_goals((try conv=>whnf);try exact trivial);done)
  |skip
 refine⟨Nat,fun i=>i≤d.Z.length∧∀j,j<i→(1≤(d.Z.getD j (0,0)).1∧(d.Z.getD j (0,0)).1≤20)∧(1≤(d.Z.getD j (0,0)).2∧(d.Z.getD j (0,0)).2≤16)∧d.T % (d.Z.getD j (0,0)).2=0,fun i=>d.Z.length-i,fun i=>[(48,.int .i64 (i:Nat))],fun _=>[],fun _=>[],0,⟨⟨by omega,fun j hj=>by omega⟩,none,?_⟩,?_⟩
 ·exact xc0
 ·rintro i ⟨hi,hz⟩
  have hti:(i:Int).toNat=i:=a0E i
  (repeat' ((conv=>whnf);first|(with_reducible first|apply spl|apply spl'|refine iJ ?_)<;>intro hc<;>try(exfalso;omega)|refine vcq ?_|fail));all_goals((try conv=>whnf);try exact trivial);(repeat' ((first|(refine a0b (in80 _ _ _) rfl ?_;rintro _ rfl)|(refine a0d (in80 _ _ _) rfl ?_)|(refine a0h (fun _=>in80 _ _ _) rfl ?_));refine x3 (fun hc=>?_) (fun hc=>?_)))
  ·rw[hti] at *
   have hi1:i<d.Z.length:=by omega
   rw[Dk.chk_no (fun h=>by have:=Dk.zat h hi1;rw[a1I (by omega)] at hc;omega)]
   refine⟨_,rfl,?_⟩
   exact xc0
  ·rw[hti] at *
   have hi1:i<d.Z.length:=by omega
   refine⟨i+1,⟨⟨by omega,fun j hj=>?_⟩,by dsimp only;omega⟩,some [some 0],?_⟩
   ·rcases a0I (show j≤i by omega) with g|rfl
    ·exact hz j g
    ·rw[a1I (by omega)] at hc
     omega
   ·exact xc0
  ·rw[hti] at *
   have hi1:i<d.Z.length:=by omega
   rw[Dk.chk_no (fun h=>by have:=Dk.zat h hi1;omega)]
   refine⟨_,rfl,?_⟩
   exact xc0
  ·have hie:i=d.Z.length:=by omega
   subst hie
   rw[Dk.chk_of ⟨by omega,by omega,by omega,by omega,by omega,a0O.1 (by assumption),a0O.1 (by assumption),fun z hzm=>by
    obtain⟨j,hj,rfl⟩:=a1A hzm
    have:=hz j hj
    rwa [show d.Z.getD j (0,0)=d.Z[j] by simp[a0A,hj]] at this⟩]
   refine⟨_,rfl,?_⟩
   exact xc0
end Go.Proofs
