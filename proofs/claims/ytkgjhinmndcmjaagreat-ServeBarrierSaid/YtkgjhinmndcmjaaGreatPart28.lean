/- Own work: texts of the proof of a law (Wq7). No condition. -/
import Derived.Test.YtkgjhinmndcmjaaGreatPart27
import Derived.Test.YtkgjhinmndcmjaaGreatPart0
import Derived.Test.YtkgjhinmndcmjaaGreatPart11
set_option linter.unusedVariables false
set_option linter.unusedSimpArgs false
namespace Go.Proofs
open Go Go.Sx
set_option maxRecDepth 100000
set_option maxHeartbeats 40000000
theorem changes105 (d:Dk):a0g Tryz.prog 197 false [d.v] (·=.agg [.int .i64 d.hs.1,.int .i64 d.hs.2,.int .i64 d.hk,.int .i64 d.cs.1,.int .i64 d.cs.2,.int .i64 d.ck]):=by
 refine a0a Tryz.E_ok Tryz.func197 rfl (by kernel_rfl) ?_
 refine x1 ?_
 refine⟨_,rfl,?_⟩
 exact xc0
theorem gap106 (d:Dk) (hd:d.Ok) (sk t:Int) (hs:0≤sk∧sk≤d.T-1) (ht:0≤t∧t≤2000):a0g Tryz.prog 198 false [d.v,.int .i64 sk,.int .i64 t] (fun r=>∃m:Nat,m≤2000∧r=.tup [.int .i64 (d.gapOf sk t),.int .i64 m]):=by
 have hT:=hd.t
 refine a0a Tryz.E_ok Tryz.func198 rfl (by kernel_rfl) ?_
 refine x1 ?_
 refine⟨Nat,fun m=>m≤2000∧∀j:Nat,j<m→sk+j*d.T<t,fun m=>2001-m,fun m=>[(7,.int .i64 (m:Nat))],fun _=>[],fun _=>[],0,⟨⟨by omega,fun j hj=>by omega⟩,none,?_⟩,?_⟩
 ·exact xc0
 ·rintro m ⟨hm,hall⟩
  have m1:=a2r (a:=(m:Int)) (b:=d.T) (m:=2000) (n:=1000) (by omega) (by omega) (by omega) (by omega)
  have m2:(m:Int)≤m*d.T:=by
   have:=Int.mul_le_mul_of_nonneg_left (show(1:Int)≤d.T by omega) (show(0:Int)≤m by omega)
   omega
  refine x3 (fun hc=>?_) (fun hc=>?_)
  ·refine⟨m+1,⟨⟨by omega,fun j hj=>?_⟩,by dsimp only;omega⟩,none,?_⟩
   ·rcases a0I (show j≤m by omega) with g|rfl
    ·exact hall j g
    ·exact hc
   ·exact xc0
  ·have e:=gap_eq (T:=d.T) (by omega) ht.1 m (by omega) hall
   have e2:d.gapOf sk t=sk+m*d.T:=e
   rw[←e2]
   refine⟨_,⟨m,hm,rfl⟩,?_⟩
   exact xc0
theorem part_zero (fr ct:Nat):partA fr ct 0=0∧a2i fr ct 0=0:=by unfold partA a2i;omega
theorem part_all {fr ct n:Nat} (h1:1≤ct) (h:fr+ct≤n):partA fr ct n=ct∧a2i fr ct n=ct-1:=by unfold partA a2i;omega
noncomputable def Dk.tkTo (d:Dk) (fr ct F:Nat):Int:=sumR (durS d.H.toNat d.S d.T) fr (partA fr ct F)
noncomputable def Dk.swTo (d:Dk) (k fr ct F:Nat):Int:=sumR (isK d.H.toNat d.S k) (fr+1) (a2i fr ct F)
theorem Dk.tkTo_bnd {d:Dk} (hd:d.Ok) (fr ct F:Nat) (hct:ct≤6000):0≤d.tkTo fr ct F∧d.tkTo fr ct F≤6000000:=by
 have:=Dk.sumR_bnd _ 1000 fr (Dk.dur_bnd hd) (partA fr ct F)
 have:partA fr ct F≤6000:=by unfold partA;omega
 unfold tkTo
 omega
theorem Dk.swTo_bnd (d:Dk) (k fr ct F:Nat) (hct:ct≤6000):0≤d.swTo k fr ct F∧d.swTo k fr ct F≤6000:=by
 have:=Dk.sumR_bnd (isK d.H.toNat d.S k) 1 (fr+1) (fun i=>by unfold isK;split<;>omega) (a2i fr ct F)
 have:a2i fr ct F≤6000:=by unfold a2i;omega
 unfold swTo
 omega
theorem run104 (d:Dk) (hd:d.Ok) (fr ct:Nat) (h1:1≤ct) (h2:fr+ct≤d.cnt):a0g Tryz.prog 196 false [d.v,.int .i64 fr,.int .i64 ct] (·=.tup [.int .i64 (sumR (durS d.H.toNat d.S d.T) fr ct),.agg [.int .i64 (sumR (isK d.H.toNat d.S 1) (fr+1) (ct-1)),.int .i64 (sumR (isK d.H.toNat d.S 2) (fr+1) (ct-1))]]):=by
 have hz:=hd.z
 have hH:=hd.h
 have hT:=hd.t
 have hcn:=d.cnt_le hd
 have hSl:=d.S_len hd
 have hpos:∀a∈d.S,0<a:=fun a h=>(d.S_pos hd a h).1
 have hall:fstS d.H.toNat d.S d.S.length 0=d.cnt:=fstS_all _ _
 have hp0:(d.Spre 0 0).length=0:=by rw[Dk.Spre_zero];rfl
 have hf0:fstS d.H.toNat d.S (d.Spre 0 0).length 0=0:=by rw[hp0,fstS_zero]
 have ho0:d.off (d.Spre 0 0).length 0=0:=by rw[hp0,Dk.off_zero]
 have ht0:d.tkTo fr ct (fstS d.H.toNat d.S (d.Spre 0 0).length 0)=0:=by unfold Dk.tkTo;rw[hf0,(part_zero fr ct).1];rfl
 have hs01:d.swTo 1 fr ct (fstS d.H.toNat d.S (d.Spre 0 0).length 0)=0:=by unfold Dk.swTo;rw[hf0,(part_zero fr ct).2];rfl
 have hs02:d.swTo 2 fr ct (fstS d.H.toNat d.S (d.Spre 0 0).length 0)=0:=by unfold Dk.swTo;rw[hf0,(part_zero fr ct).2];rfl
 have htA:d.tkTo fr ct d.cnt=sumR (durS d.H.toNat d.S d.T) fr ct:=by unfold Dk.tkTo;rw[(part_all h1 h2).1]
 have hsA:∀k,d.swTo k fr ct d.cnt=sumR (isK d.H.toNat d.S k) (fr+1) (ct-1):=fun k=>by unfold Dk.swTo;rw[(part_all h1 h2).2]
 refine a0a Tryz.E_ok Tryz.func196 rfl (by kernel_rfl) ?_
 refine x1 ?_
 refine a0r Tryz.E_ok Tryz.func182 rfl (by kernel_rfl) ?_
 refine x1 ?_
 refine⟨Nat×Int×Int,fun q=>q.1≤d.Z.length,fun q=>d.Z.length-q.1,fun q=>[(11,.int .i64 (q.1:Nat))],fun q=>[(3,.cells 3 [.int .i64 (d.tkTo fr ct (fstS d.H.toNat d.S (d.Spre q.1 0).length 0))]),(4,.cells 264 [.int .i64 (d.swTo 1 fr ct (fstS d.H.toNat d.S (d.Spre q.1 0).length 0)),.int .i64 (d.swTo 2 fr ct (fstS d.H.toNat d.S (d.Spre q.1 0).length 0))]),(7,.cells 240 (trV (d.Spre q.1 0).length q.2.1 q.2.2 (fstS d.H.toNat d.S (d.Spre q.1 0).length 0) (d.off (d.Spre q.1 0).length 0)))],fun _=>[],(0,0,0),⟨by dsimp only;omega,some [some 0,some 1,some 2,some 3,some 4,some 5,some 6,some 7],?_⟩,?_⟩
 ·exact xc0
 ·rintro⟨i,a,b⟩ hi
  dsimp only at hi
  have hti:(i:Int).toNat=i:=a0E i
  (repeat' ((conv=>whnf);first|(with_reducible first|apply spl|apply spl'|refine iJ ?_)<;>intro hc<;>try(exfalso;omega)|refine vcq ?_|refine dr 2002 ?_));all_goals(try conv=>whnf);try exact trivial
  ·have hi1:i<d.Z.length:=by dsimp only at hc;omega
   have hzi:=Dk.zone_at hd hi1
   have hz1:((d.Z.getD i (0,0)).1.toNat:Int)=(d.Z.getD i (0,0)).1:=a3F (by omega)
   refine⟨Nat×Int×Int,fun q=>q.1≤(d.Z.getD i (0,0)).1.toNat,fun q=>(d.Z.getD i (0,0)).1.toNat-q.1,fun q=>[(17,.int .i64 (q.1:Nat))],fun q=>[(3,.cells 3 [.int .i64 (d.tkTo fr ct (fstS d.H.toNat d.S (d.Spre i q.1).length 0))]),(4,.cells 264 [.int .i64 (d.swTo 1 fr ct (fstS d.H.toNat d.S (d.Spre i q.1).length 0)),.int .i64 (d.swTo 2 fr ct (fstS d.H.toNat d.S (d.Spre i q.1).length 0))]),(7,.cells 240 (trV (d.Spre i q.1).length q.2.1 q.2.2 (fstS d.H.toNat d.S (d.Spre i q.1).length 0) (d.off (d.Spre i q.1).length 0)))],fun _=>[],(0,a,b),⟨by dsimp only;omega,none,?_⟩,?_⟩
   ·exact xc0
   ·rintro⟨k,a,b⟩ hk
    dsimp only at hk
    refine x3 (fun hc=>?_) (fun hc=>?_)
    ·have hk1:k<(d.Z.getD i (0,0)).1.toNat:=by dsimp only at hc;rw[hti] at hc;omega
     have hg:=d.Spre_get i k hi1 hk1
     have hs1:=d.Spre_len i k
     have hs2:=d.Spre_len i (k+1)
     generalize hcc:(d.Spre i k).length=c at *
     refine⟨Nat×Int×Int,fun q=>q.1≤d.H.toNat,fun q=>d.H.toNat-q.1,fun q=>[(22,.int .i64 (q.1:Nat))],fun q=>[(3,.cells 3 [.int .i64 (d.tkTo fr ct (fstS d.H.toNat d.S c q.1))]),(4,.cells 264 [.int .i64 (d.swTo 1 fr ct (fstS d.H.toNat d.S c q.1)),.int .i64 (d.swTo 2 fr ct (fstS d.H.toNat d.S c q.1))]),(7,.cells 240 (trV c q.2.1 q.2.2 (fstS d.H.toNat d.S c q.1) (d.offN c q.1)))],fun _=>[],(0,a,b),⟨by dsimp only;omega,none,?_⟩,?_⟩
     ·refine x1 ?_
      rw[Dk.offN_zero hd]
     ·rintro⟨h,a,b⟩ hh
      dsimp only at hh
      refine x3 (fun hc=>?_) (fun hc=>?_)
      ·have hhl:h<d.H.toNat:=by dsimp only at hc;omega
       have hsu:=Dk.offN_succ hd (c:=c) hhl
       have hof:=(Dk.off_facts hd hg.1 hhl).2.2.2
       have hol:=Dk.offN_lt (d:=d) (c:=c) hhl
       have hfh:=a3e d.H.toNat d.S c h
       have hbnd:fstS d.H.toNat d.S c h+d.S.getD c 0≤d.cnt:=by
        have hat:AtS d.H.toNat d.S (fstS d.H.toNat d.S c h+(d.S.getD c 0-1)) c h (d.S.getD c 0-1):=⟨hg.1,hhl,by omega,rfl⟩
        have:fstS d.H.toNat d.S c h+(d.S.getD c 0-1)<d.cnt:=at_lt hat
        omega
       have hzs:(d.Z.getD i (0,0)).2=(d.S.getD c 0:Nat):=by omega
       obtain⟨b1,b2,b3⟩:=Dk.dur_facts hd hg.1
       have hb0:=Dk.tkTo_bnd hd fr ct (fstS d.H.toNat d.S c h) (by omega)
       have hbs1:=d.swTo_bnd 1 fr ct (fstS d.H.toNat d.S c h) (by omega)
       have hbs2:=d.swTo_bnd 2 fr ct (fstS d.H.toNat d.S c h) (by omega)
       have hb0':=Dk.tkTo_bnd hd fr ct (fstS d.H.toNat d.S c (h+1)) (by omega)
       dsimp only
       rw[hti,hzs]
       refine ycall_exec Tryz.E_ok rfl rfl rfl ?_
       (repeat' ((conv=>whnf);first|(with_reducible first|apply spl|apply spl'|refine iJ ?_)<;>intro hc<;>try(exfalso;omega)|refine vcq ?_|refine dr 16 ?_|refine dr 13 ?_));all_goals(try conv=>whnf);try exact trivial
       ·have hno:=run_none (fr:=fr) (ct:=ct) (F:=fstS d.H.toNat d.S c h) (s:=d.S.getD c 0) h1 (by omega)
        rw[←hfh] at hno
        have e1:d.tkTo fr ct (fstS d.H.toNat d.S c (h+1))=d.tkTo fr ct (fstS d.H.toNat d.S c h):=by unfold Dk.tkTo;rw[hno.1]
        have e2:d.swTo 1 fr ct (fstS d.H.toNat d.S c (h+1))=d.swTo 1 fr ct (fstS d.H.toNat d.S c h):=by unfold Dk.swTo;rw[hno.2]
        have e3:d.swTo 2 fr ct (fstS d.H.toNat d.S c (h+1))=d.swTo 2 fr ct (fstS d.H.toNat d.S c h):=by unfold Dk.swTo;rw[hno.2]
        clear hno hc
        refine a0d (skew113 d ((h:Int)=d.H-1) inferInstance) rfl ?_
        have hif:0≤(if(h:Int)=d.H-1 then d.ck else d.hk)∧(if(h:Int)=d.H-1 then d.ck else d.hk)≤999:=by have:=hd.hk;have:=hd.ck;split<;>omega
        generalize (if(h:Int)=d.H-1 then d.ck else d.hk)=sk at *
        refine x1 ?_
        refine⟨(h+1,(h:Int),((d.S.getD c 0:Nat):Int)),⟨by dsimp only;omega,by dsimp only;omega⟩,some [some 0,some 1,some 2,some 3,some 4,some 5,some 6,some 7,some 8],?_⟩
        refine x1 ?_
        refine⟨by rw[a1I (by omega),hol];exact hsu.symm,?_⟩
        exact xc0
       ·obtain⟨so1,so2⟩:=run_some (T:=d.T) (fr:=fr) (ct:=ct) hpos hg.1 hhl h1 h2 (by omega)
        obtain⟨L,hL,hL16,e1⟩:∃L:Nat,min ((fr:Int)+ct) ((fstS d.H.toNat d.S c h:Nat)+(d.S.getD c 0:Nat))-1-max (fr:Int) (fstS d.H.toNat d.S c h:Nat)+1=(L:Int)∧L≤16∧d.tkTo fr ct (fstS d.H.toNat d.S c (h+1))=d.tkTo fr ct (fstS d.H.toNat d.S c h)+(L:Int)*(d.T / (d.S.getD c 0:Nat)):=by
         refine⟨min (fr+ct) (fstS d.H.toNat d.S c h+d.S.getD c 0)-max fr (fstS d.H.toNat d.S c h),by omega,by omega,?_⟩
         rw[hfh]
         exact so1
        have hsw:∀k,0<k→d.swTo k fr ct (fstS d.H.toNat d.S c (h+1))=d.swTo k fr ct (fstS d.H.toNat d.S c h)+(if fstS d.H.toNat d.S c (h+1)<fr+ct then(if k=(if h+1=d.H.toNat then 2 else 1) then 1 else 0) else 0):=by rw[hfh];exact so2
        have m1:=a2r (a:=(L:Int)) (b:=d.T / (d.S.getD c 0:Nat)) (m:=16) (n:=1000) (by omega) (by omega) b3.1 b3.2
        rw[hL,b2]
        clear hL so1 so2 hc
        (repeat' ((conv=>whnf);first|(with_reducible first|apply spl|apply spl'|refine iJ ?_)<;>intro hc<;>try(exfalso;omega)|refine vcq ?_|refine dr 13 ?_|refine dr 16 ?_));all_goals(try conv=>whnf);try exact trivial
        ·have hge:¬fstS d.H.toNat d.S c (h+1)<fr+ct:=by omega
         have e2:=hsw 1 (by omega)
         have e3:=hsw 2 (by omega)
         rw[if_neg hge] at e2 e3
         clear hc hge
         refine a0d (skew113 d ((h:Int)=d.H-1) inferInstance) rfl ?_
         have hif:0≤(if(h:Int)=d.H-1 then d.ck else d.hk)∧(if(h:Int)=d.H-1 then d.ck else d.hk)≤999:=by have:=hd.hk;have:=hd.ck;split<;>omega
         generalize (if(h:Int)=d.H-1 then d.ck else d.hk)=sk at *
         refine x1 ?_
         refine⟨(h+1,(h:Int),((d.S.getD c 0:Nat):Int)),⟨by dsimp only;omega,by dsimp only;omega⟩,some [some 0,some 1,some 2,some 3,some 4,some 5,some 6,some 7,some 8],?_⟩
         refine x1 ?_
         refine⟨by rw[a1I (by omega),hol];exact hsu.symm,?_⟩
         exact xc0
        ·have hlt:fstS d.H.toNat d.S c (h+1)<fr+ct:=by omega
         have hl:h+1=d.H.toNat:=by omega
         have e2:=hsw 1 (by omega)
         have e3:=hsw 2 (by omega)
         rw[if_pos hlt,if_pos hl] at e2 e3
         rw[if_neg (by omega)] at e2
         rw[if_pos rfl] at e3
         rename_i hc1
         clear hc hc1
         refine a0d (skew113 d ((h:Int)=d.H-1) inferInstance) rfl ?_
         have hif:0≤(if(h:Int)=d.H-1 then d.ck else d.hk)∧(if(h:Int)=d.H-1 then d.ck else d.hk)≤999:=by have:=hd.hk;have:=hd.ck;split<;>omega
         generalize (if(h:Int)=d.H-1 then d.ck else d.hk)=sk at *
         refine x1 ?_
         refine⟨(h+1,(h:Int),((d.S.getD c 0:Nat):Int)),⟨by dsimp only;omega,by dsimp only;omega⟩,some [some 0,some 1,some 2,some 3,some 4,some 5,some 6,some 7,some 8],?_⟩
         refine x1 ?_
         refine⟨by rw[a1I (by omega),hol];exact hsu.symm,?_⟩
         exact xc0
        ·have hlt:fstS d.H.toNat d.S c (h+1)<fr+ct:=by omega
         have hl:¬h+1=d.H.toNat:=by omega
         have e2:=hsw 1 (by omega)
         have e3:=hsw 2 (by omega)
         rw[if_pos hlt,if_neg hl] at e2 e3
         rw[if_pos rfl] at e2
         rw[if_neg (by omega)] at e3
         rename_i hc1
         clear hc hc1
         refine a0d (skew113 d ((h:Int)=d.H-1) inferInstance) rfl ?_
         have hif:0≤(if(h:Int)=d.H-1 then d.ck else d.hk)∧(if(h:Int)=d.H-1 then d.ck else d.hk)≤999:=by have:=hd.hk;have:=hd.ck;split<;>omega
         generalize (if(h:Int)=d.H-1 then d.ck else d.hk)=sk at *
         refine x1 ?_
         refine⟨(h+1,(h:Int),((d.S.getD c 0:Nat):Int)),⟨by dsimp only;omega,by dsimp only;omega⟩,some [some 0,some 1,some 2,some 3,some 4,some 5,some 6,some 7,some 8],?_⟩
         refine x1 ?_
         refine⟨by rw[a1I (by omega),hol];exact hsu.symm,?_⟩
         exact xc0
      ·have hhe:h=d.H.toNat:=by dsimp only at hc;omega
       subst hhe
       have hfc:=fstS_cyl d.H.toNat d.S c hg.1
       have hoa:=d.offN_all c
       have hs3:(d.Spre i (k+1)).length=c+1:=by omega
       refine⟨(k+1,a,b),⟨by dsimp only;omega,by dsimp only;omega⟩,some [some 0,some 1,some 2,some 3,some 4,some 5,some 6,some 7,some 8],?_⟩
       refine x1 ?_
       dsimp only
       rw[hs3,hfc]
       refine⟨rfl,?_⟩
       exact xc0
    ·have hke:k=(d.Z.getD i (0,0)).1.toNat:=by dsimp only at hc;rw[hti] at hc;omega
     subst hke
     have hzz:=d.Spre_zone i hi1
     rw[←hzz]
     refine⟨(i+1,a,b),⟨by dsimp only;omega,by dsimp only;omega⟩,some [some 0,some 1,some 2,some 3,some 4,some 5,some 6,some 7],?_⟩
     exact xc0
  ·have hie:i=d.Z.length:=by dsimp only at hc;omega
   subst hie
   rw[Dk.Spre_all,hall,htA,hsA,hsA]
   refine⟨_,rfl,?_⟩
   exact xc0
end Go.Proofs
