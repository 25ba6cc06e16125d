/- Own work: texts of the proof of a law (T8, T12, T13). No condition. -/
import Derived.Test.YtmlcphcdbmlmmaaGreatTRHPart14
set_option linter.unusedVariables false
set_option linter.unusedSimpArgs false
namespace Go.Proofs
open Go Go.Sx
set_option maxRecDepth 100000
set_option maxHeartbeats 40000000
theorem Number1 (d:Dk) (hd:d.Ok) (pc ph ps:Int):PureC Tryz.prog 30 false [d.v,.agg [.int .i64 pc,.int .i64 ph,.int .i64 ps]] (fun v=>(Tp.vld d pc ph ps→v=.tup [.int .i64 (Tp.numZ d pc ph ps:Nat),.int .i64 0])∧(¬Tp.vld d pc ph ps→v=.tup [.int .i64 0,.int .i64 1])):=by
 have hz:=hd.z
 refine pureC_of_exec Tryz.E_ok Tryz.func30 rfl (by kernel_rfl) ?_
 (repeat' ((conv=>whnf);first|(with_reducible first|apply spl|apply spl'|refine iJ ?_)<;>intro hc<;>try(exfalso;omega)|refine vcq ?_|refine dr 17 ?_));all_goals(try conv=>whnf);try exact trivial
 refine callee_fo (open88 d hd) rfl ?_
 rintro _ rfl
 (repeat' ((conv=>whnf);first|(with_reducible first|apply spl|apply spl'|refine iJ ?_)<;>intro hc<;>try(exfalso;omega)|refine vcq ?_|refine dr 17 ?_));all_goals(try conv=>whnf);try exact trivial
 refine callee_exec Tryz.E_ok Tryz.func47 rfl (by kernel_rfl) ?_
 (repeat' ((conv=>whnf);first|(with_reducible first|apply spl|apply spl'|refine iJ ?_)<;>intro hc<;>try(exfalso;omega)|refine vcq ?_|refine dr 17 ?_));all_goals(try conv=>whnf);try exact trivial
 have hH:=hd.h
 have hT:=hd.t
 have hcn:=d.cnt_le hd
 have hSl:=d.S_len hd
 have hall:fstS d.H.toNat d.S d.S.length 0=d.cnt:=fstS_all _ _
 have hp0:(d.Spre 0 0).length=0:=by rw[Dk.Spre_zero];rfl
 have hf0:fstS d.H.toNat d.S (d.Spre 0 0).length 0=0:=by rw[hp0,fstS_zero]
 have ho0:d.off (d.Spre 0 0).length 0=0:=by rw[hp0,Dk.off_zero]
 refine⟨Nat×Int×Int,fun q=>q.1≤d.Z.length∧¬(Tp.vld d pc ph ps∧pc<(d.Spre q.1 0).length),fun q=>d.Z.length-q.1,fun q=>[(11,.int .i64 (q.1:Nat))],fun q=>[(7,.cells 82 (trV (d.Spre q.1 0).length q.2.1 q.2.2 (fstS d.H.toNat d.S (d.Spre q.1 0).length 0) (d.off (d.Spre q.1 0).length 0)))],fun _=>[],(0,0,0),⟨⟨by dsimp only;omega,fun q=>by have q1:=q.1.1.1;have q2:=q.2;dsimp only at q2;rw[hp0] at q2;omega⟩,some [some 0,some 1,some 2,some 3,some 4,some 5,some 6,some 7],?_⟩,?_⟩
 ·(repeat' ((conv=>whnf);first|(with_reducible first|apply spl|apply spl'|refine iJ ?_)<;>intro hc<;>try(exfalso;omega)|refine vcq ?_|refine dr 17 ?_));all_goals(try conv=>whnf);try exact trivial
 ·rintro⟨i,a,b⟩ ⟨hi,hle⟩
  dsimp only at hi hle
  have hti:(i:Int).toNat=i:=Int.toNat_natCast i
  (repeat' ((conv=>whnf);first|(with_reducible first|apply spl|apply spl'|refine iJ ?_)<;>intro hc<;>try(exfalso;omega)|refine vcq ?_|refine dr 17 ?_));all_goals(try conv=>whnf);try exact trivial
  ·have hi1:i<d.Z.length:=by dsimp only at hc;omega
   have hzi:=Dk.zone_at hd hi1
   have hz1:((d.Z.getD i (0,0)).1.toNat:Int)=(d.Z.getD i (0,0)).1:=Int.toNat_of_nonneg (by omega)
   refine⟨Nat×Int×Int,fun q=>q.1≤(d.Z.getD i (0,0)).1.toNat∧¬(Tp.vld d pc ph ps∧pc<(d.Spre i q.1).length),fun q=>(d.Z.getD i (0,0)).1.toNat-q.1,fun q=>[(17,.int .i64 (q.1:Nat))],fun q=>[(7,.cells 82 (trV (d.Spre i q.1).length q.2.1 q.2.2 (fstS d.H.toNat d.S (d.Spre i q.1).length 0) (d.off (d.Spre i q.1).length 0)))],fun _=>[],(0,a,b),⟨⟨by dsimp only;omega,hle⟩,none,?_⟩,?_⟩
   ·(repeat' ((conv=>whnf);first|(with_reducible first|apply spl|apply spl'|refine iJ ?_)<;>intro hc<;>try(exfalso;omega)|refine vcq ?_|refine dr 17 ?_));all_goals(try conv=>whnf);try exact trivial
   ·rintro⟨k,a,b⟩ ⟨hk,hle⟩
    dsimp only at hk hle
    (repeat' ((conv=>whnf);first|(with_reducible first|apply spl|apply spl'|refine iJ ?_)<;>intro hc<;>try(exfalso;omega)|refine vcq ?_|refine dr 17 ?_));all_goals(try conv=>whnf);try exact trivial
    ·have hk1:k<(d.Z.getD i (0,0)).1.toNat:=by dsimp only at hc;rw[hti] at hc;omega
     have hg:=d.Spre_get i k hi1 hk1
     have hs1:=d.Spre_len i k
     have hs2:=d.Spre_len i (k+1)
     generalize hcc:(d.Spre i k).length=c at *
     refine⟨Nat×Int×Int,fun q=>q.1≤d.H.toNat∧¬(Tp.vld d pc ph ps∧(pc<c∨pc=c∧ph<(q.1:Nat))),fun q=>d.H.toNat-q.1,fun q=>[(22,.int .i64 (q.1:Nat))],fun q=>[(7,.cells 82 (trV c q.2.1 q.2.2 (fstS d.H.toNat d.S c q.1) (d.offN c q.1)))],fun _=>[],(0,a,b),⟨⟨by dsimp only;omega,fun q=>by have q1:=q.1.2.1.1;rcases q.2 with q2|q2;exact hle ⟨q.1,q2⟩;omega⟩,none,?_⟩,?_⟩
     ·(repeat' ((conv=>whnf);first|(with_reducible first|apply spl|apply spl'|refine iJ ?_)<;>intro hc<;>try(exfalso;omega)|refine vcq ?_|refine dr 17 ?_));all_goals(try conv=>whnf);try exact trivial
      rw[Dk.offN_zero hd]
     ·rintro⟨h,a,b⟩ ⟨hh,hle⟩
      dsimp only at hh hle
      (repeat' ((conv=>whnf);first|(with_reducible first|apply spl|apply spl'|refine iJ ?_)<;>intro hc<;>try(exfalso;omega)|refine vcq ?_|refine dr 17 ?_));all_goals(try conv=>whnf);try exact trivial
      ·have hhl:h<d.H.toNat:=by dsimp only at hc;omega
       have hsu:=Dk.offN_succ hd (c:=c) hhl
       have hof:=(Dk.off_facts hd hg.1 hhl).2.2.2
       have hol:=Dk.offN_lt (d:=d) (c:=c) hhl
       have hfh:=fstS_head d.H.toNat d.S c h
       have hbnd:fstS d.H.toNat d.S c h+d.S.getD c 0≤d.cnt:=by
        have hat:AtS d.H.toNat d.S (fstS d.H.toNat d.S c h+(d.S.getD c 0-1)) c h (d.S.getD c 0-1):=⟨hg.1,hhl,by omega,rfl⟩
        have:fstS d.H.toNat d.S c h+(d.S.getD c 0-1)<d.cnt:=at_lt hat
        omega
       have hzs:(d.Z.getD i (0,0)).2=(d.S.getD c 0:Nat):=by omega
       dsimp only
       rw[hti,hzs]
       have hnx:¬(pc=c∧ph=h∧0≤ps∧ps≤(d.S.getD c 0:Nat)-1)→¬(Tp.vld d pc ph ps∧(pc<c∨pc=c∧ph<((h+1:Nat):Int))):=fun hc q=>by
        obtain⟨⟨v1,v2,v3⟩,q2⟩:=q
        by_cases e:pc=c∧ph=h
        ·have epc:pc.toNat=c:=by omega
         rw[epc] at v3
         exact hc ⟨e.1,e.2,by omega,by omega⟩
        ·exact hle ⟨⟨v1,v2,v3⟩,by omega⟩
       refine ycall_exec Tryz.E_ok rfl rfl rfl ?_
       (repeat' ((conv=>whnf);first|(with_reducible first|apply spl|apply spl'|refine iJ ?_)<;>intro hc<;>try(exfalso;omega)|refine vcq ?_|refine dr 17 ?_));all_goals(try conv=>whnf);try exact trivial
       ·refine callee_fo (in80 _ _ _) rfl ?_
        rintro _ rfl
        (repeat' ((conv=>whnf);first|(with_reducible first|apply spl|apply spl'|refine iJ ?_)<;>intro hc<;>try(exfalso;omega)|refine vcq ?_|refine dr 17 ?_));all_goals(try conv=>whnf);try exact trivial
        ·have epc:pc.toNat=c:=by omega
         have eph:ph.toNat=h:=by omega
         have v:Tp.vld d pc ph ps:=⟨⟨by omega,by omega⟩,⟨by omega,by omega⟩,by omega,by rw[epc];omega⟩
         have e:((fstS d.H.toNat d.S c h:Nat):Int)+ps=(Tp.numZ d pc ph ps:Nat):=by unfold Tp.numZ;rw[epc,eph];omega
         rw[e]
         refine⟨_,⟨fun _=>rfl,fun q=>absurd v q⟩,?_⟩
         (repeat' ((conv=>whnf);first|(with_reducible first|apply spl|apply spl'|refine iJ ?_)<;>intro hc<;>try(exfalso;omega)|refine vcq ?_|refine dr 17 ?_));all_goals(try conv=>whnf);try exact trivial
        ·have hnx:=hnx (by omega)
         clear hc
         refine pcall_intro (skew113 d ((h:Int)=d.H-1) inferInstance) rfl ?_
         have hif:0≤(if(h:Int)=d.H-1 then d.ck else d.hk)∧(if(h:Int)=d.H-1 then d.ck else d.hk)≤999:=by
          have:=hd.hk
          have:=hd.ck
          split<;>omega
         generalize (if(h:Int)=d.H-1 then d.ck else d.hk)=sk at *
         (repeat' ((conv=>whnf);first|(with_reducible first|apply spl|apply spl'|refine iJ ?_)<;>intro hc<;>try(exfalso;omega)|refine vcq ?_|refine dr 17 ?_));all_goals(try conv=>whnf);try exact trivial
         refine⟨(h+1,(h:Int),((d.S.getD c 0:Nat):Int)),⟨⟨by dsimp only;omega,hnx⟩,by dsimp only;omega⟩,some [some 0,some 1,some 2,some 3,some 4,some 5,some 6,some 7,some 8],?_⟩
         (repeat' ((conv=>whnf);first|(with_reducible first|apply spl|apply spl'|refine iJ ?_)<;>intro hc<;>try(exfalso;omega)|refine vcq ?_|refine dr 17 ?_));all_goals(try conv=>whnf);try exact trivial
         refine⟨by rw[Int.tmod_eq_emod_of_nonneg (by omega),hol];exact hsu.symm,?_⟩
         (repeat' ((conv=>whnf);first|(with_reducible first|apply spl|apply spl'|refine iJ ?_)<;>intro hc<;>try(exfalso;omega)|refine vcq ?_|refine dr 17 ?_));all_goals(try conv=>whnf);try exact trivial
       ·have hnx:=hnx (by omega)
        clear hc
        refine pcall_intro (skew113 d ((h:Int)=d.H-1) inferInstance) rfl ?_
        have hif:0≤(if(h:Int)=d.H-1 then d.ck else d.hk)∧(if(h:Int)=d.H-1 then d.ck else d.hk)≤999:=by
         have:=hd.hk
         have:=hd.ck
         split<;>omega
        generalize (if(h:Int)=d.H-1 then d.ck else d.hk)=sk at *
        (repeat' ((conv=>whnf);first|(with_reducible first|apply spl|apply spl'|refine iJ ?_)<;>intro hc<;>try(exfalso;omega)|refine vcq ?_|refine dr 17 ?_));all_goals(try conv=>whnf);try exact trivial
        refine⟨(h+1,(h:Int),((d.S.getD c 0:Nat):Int)),⟨⟨by dsimp only;omega,hnx⟩,by dsimp only;omega⟩,some [some 0,some 1,some 2,some 3,some 4,some 5,some 6,some 7,some 8],?_⟩
        (repeat' ((conv=>whnf);first|(with_reducible first|apply spl|apply spl'|refine iJ ?_)<;>intro hc<;>try(exfalso;omega)|refine vcq ?_|refine dr 17 ?_));all_goals(try conv=>whnf);try exact trivial
        refine⟨by rw[Int.tmod_eq_emod_of_nonneg (by omega),hol];exact hsu.symm,?_⟩
        (repeat' ((conv=>whnf);first|(with_reducible first|apply spl|apply spl'|refine iJ ?_)<;>intro hc<;>try(exfalso;omega)|refine vcq ?_|refine dr 17 ?_));all_goals(try conv=>whnf);try exact trivial
      ·have hhe:h=d.H.toNat:=by dsimp only at hc;omega
       subst hhe
       have hfc:=fstS_cyl d.H.toNat d.S c hg.1
       have hoa:=d.offN_all c
       have hs3:(d.Spre i (k+1)).length=c+1:=by omega
       refine⟨(k+1,a,b),⟨⟨by dsimp only;omega,fun q=>hle ⟨q.1,by have q1:=q.1.2.1.2;have q2:=q.2;dsimp only at q2;rw[hs3] at q2;omega⟩⟩,by dsimp only;omega⟩,some [some 0,some 1,some 2,some 3,some 4,some 5,some 6,some 7,some 8],?_⟩
       (repeat' ((conv=>whnf);first|(with_reducible first|apply spl|apply spl'|refine iJ ?_)<;>intro hc<;>try(exfalso;omega)|refine vcq ?_|refine dr 17 ?_));all_goals(try conv=>whnf);try exact trivial
       dsimp only
       rw[hs3,hfc]
       refine⟨rfl,?_⟩
       (repeat' ((conv=>whnf);first|(with_reducible first|apply spl|apply spl'|refine iJ ?_)<;>intro hc<;>try(exfalso;omega)|refine vcq ?_|refine dr 17 ?_));all_goals(try conv=>whnf);try exact trivial
    ·have hke:k=(d.Z.getD i (0,0)).1.toNat:=by dsimp only at hc;rw[hti] at hc;omega
     subst hke
     have hzz:=d.Spre_zone i hi1
     rw[←hzz] at hle ⊢
     refine⟨(i+1,a,b),⟨⟨by dsimp only;omega,hle⟩,by dsimp only;omega⟩,some [some 0,some 1,some 2,some 3,some 4,some 5,some 6,some 7],?_⟩
     (repeat' ((conv=>whnf);first|(with_reducible first|apply spl|apply spl'|refine iJ ?_)<;>intro hc<;>try(exfalso;omega)|refine vcq ?_|refine dr 17 ?_));all_goals(try conv=>whnf);try exact trivial
  ·have hie:i=d.Z.length:=by dsimp only at hc;omega
   rw[hie,Dk.Spre_all] at hle
   (repeat' ((conv=>whnf);first|(with_reducible first|apply spl|apply spl'|refine iJ ?_)<;>intro hc<;>try(exfalso;omega)|refine vcq ?_|refine dr 17 ?_));all_goals(try conv=>whnf);try exact trivial
   refine⟨_,⟨fun v=>absurd ⟨v,v.1.2⟩ hle,fun _=>rfl⟩,?_⟩
   (repeat' ((conv=>whnf);first|(with_reducible first|apply spl|apply spl'|refine iJ ?_)<;>intro hc<;>try(exfalso;omega)|refine vcq ?_|refine dr 17 ?_));all_goals(try conv=>whnf);try exact trivial
namespace Tp
theorem inR_of {n:Int} (h1:-9223372036854775808≤n) (h2:n≤9223372036854775807):inR .i64 n:=⟨h1,h2⟩
def flC (t:Tr) (n:Nat):List V:=[.int .i64 (t.flg n:Nat)]
def Tr.iC (t:Tr):List V:=[.int .i64 t.d.H,.int .i64 t.d.T,.sl 2 t.d.Z.length (rowOf zC (0,0) t.d.Z),.int .i64 t.d.hk,.int .i64 t.d.ck,.int .i64 t.d.hs.1,.int .i64 t.d.hs.2,.int .i64 t.d.cs.1,.int .i64 t.d.cs.2,.int .i64 t.sp,.sl 1 t.P.length (rowOf lsC [] t.P),.int .i64 t.ms,.int .i64 t.fl,.int .i64 t.mg,.int .i64 t.sc,.int .i64 t.mo,.int .i64 t.nd,.sl 1 t.d.cnt (flC t),.sl 3 t.d.cnt t.d.plR]
def Tr.iV (t:Tr):V:=.iptr t.iC
theorem bad39 (t:Tr) (h:t.Ok) (n:Nat) (hn:n<t.d.cnt):PureC Tryz.prog 39 false [t.iV,.int .i64 n] (·=.prop (t.bad n) inferInstance):=by
 have hle:=flg_le t n
 have hp:=h.P
 have hms:=h.ms
 have htn:((n:Nat):Int).toNat=n:=Int.toNat_natCast n
 refine pureC_of_exec Tryz.E_ok Tryz.func39 rfl (by kernel_rfl) ?_
 (repeat' ((conv=>whnf);first|(with_reducible first|apply spl|apply spl'|refine iJ ?_)<;>intro hc<;>try(exfalso;omega)|refine vcq ?_|refine dr 21 ?_|refine dr 14 ?_));all_goals(try conv=>whnf);try exact trivial
 rw[htn]
 refine⟨inR_of (by omega) (by omega),?_⟩
 (repeat' ((conv=>whnf);first|(with_reducible first|apply spl|apply spl'|refine iJ ?_)<;>intro hc<;>try(exfalso;omega)|refine vcq ?_|refine dr 21 ?_|refine dr 14 ?_));all_goals(try conv=>whnf);try exact trivial
 refine⟨_,rfl,?_⟩
 exact⟨Iff.rfl,trivial⟩
theorem sector58 (t:Tr) (h:t.Ok) (c hd s:Int):PureC Tryz.prog 58 false [t.iV,.int .i64 c,.int .i64 hd,.int .i64 s] (·=.tup [.int .i64 (numO t.d c hd s:Nat),.prop (vld t.d c hd s) inferInstance]):=by
 refine pureC_of_exec Tryz.E_ok Tryz.func58 rfl (by kernel_rfl) ?_
 (repeat' ((conv=>whnf);first|(with_reducible first|apply spl|apply spl'|refine iJ ?_)<;>intro hc<;>try(exfalso;omega)|refine vcq ?_|refine dr 21 ?_|refine dr 14 ?_));all_goals(try conv=>whnf);try exact trivial
 refine callee_fo (Number1 t.d h.d c hd s) rfl ?_
 intro v hv
 by_cases q:vld t.d c hd s
 ·have e:numO t.d c hd s=numZ t.d c hd s:=if_pos q
  rw[hv.1 q,e]
  (repeat' ((conv=>whnf);first|(with_reducible first|apply spl|apply spl'|refine iJ ?_)<;>intro hc<;>try(exfalso;omega)|refine vcq ?_|refine dr 21 ?_|refine dr 14 ?_));all_goals(try conv=>whnf);try exact trivial
  refine⟨_,rfl,?_⟩
  exact⟨rfl,⟨fun _=>q,fun _=>rfl⟩,trivial⟩
 ·have e:numO t.d c hd s=0:=if_neg q
  rw[hv.2 q,e]
  (repeat' ((conv=>whnf);first|(with_reducible first|apply spl|apply spl'|refine iJ ?_)<;>intro hc<;>try(exfalso;omega)|refine vcq ?_|refine dr 21 ?_|refine dr 14 ?_));all_goals(try conv=>whnf);try exact trivial
  refine⟨_,rfl,?_⟩
  exact⟨rfl,⟨fun u=>absurd u (by decide),fun u=>absurd u q⟩,trivial⟩
theorem zoneI_cons (z:Int×Int) (Z:List (Int×Int)) (c:Int):zoneI (z :: Z) c=if c<z.1 then 0 else zoneI Z (c-z.1)+1:=rfl
theorem drop_cons {α:Type} {l:List α} {d:α} {i:Nat} (hi:i<l.length):l.drop i=l.getD i d :: l.drop (i+1):=by
 rw[a2A hi,List.getD_eq_getElem?_getD,a0I hi]
 rfl
theorem zone71 (t:Tr) (h:t.Ok) (c:Int) (hc0:0≤c∧c≤1000000):PureC Tryz.prog 71 false [t.iV,.int .i64 c] (·=.int .i64 (zoneI t.d.Z c:Nat)):=by
 have hz:=h.d.z
 refine pureC_of_exec Tryz.E_ok Tryz.func71 rfl (by kernel_rfl) ?_
 (repeat' ((conv=>whnf);first|(with_reducible first|apply spl|apply spl'|refine iJ ?_)<;>intro hc<;>try(exfalso;omega)|refine vcq ?_|refine dr 21 ?_|refine dr 14 ?_));all_goals(try conv=>whnf);try exact trivial
 refine⟨Nat×Int,fun q=>q.1≤t.d.Z.length∧zoneI t.d.Z c=q.1+zoneI (t.d.Z.drop q.1) q.2∧0≤q.2∧q.2≤1000000,fun q=>t.d.Z.length-q.1,fun q=>[(14,.int .i64 (q.1:Nat)),(1,.int .i64 q.2)],fun _=>[],fun _=>[],(0,c),⟨⟨a2I _,by simp,hc0⟩,some [],?_⟩,?_⟩
 ·(repeat' ((conv=>whnf);first|(with_reducible first|apply spl|apply spl'|refine iJ ?_)<;>intro hc<;>try(exfalso;omega)|refine vcq ?_|refine dr 21 ?_|refine dr 14 ?_));all_goals(try conv=>whnf);try exact trivial
 ·rintro⟨i,x⟩ ⟨hi,he,hx⟩
  dsimp only at hi he hx
  have hti:((i:Nat):Int).toNat=i:=Int.toNat_natCast i
  by_cases hil:i<t.d.Z.length
  ·have hza:=Dk.zone_at h.d hil
   have hd:=drop_cons (d:=(0,0)) hil
   rw[hd,zoneI_cons] at he
   (repeat' ((conv=>whnf);first|(with_reducible first|apply spl|apply spl'|refine iJ ?_)<;>intro hc<;>try(exfalso;omega)|refine vcq ?_|refine dr 21 ?_|refine dr 14 ?_));all_goals(try conv=>whnf);try exact trivial
   ·dsimp only at hc
    rw[hti] at hc
    rw[if_pos hc] at he
    dsimp only
    rw[he]
    refine⟨_,rfl,?_⟩
    (repeat' ((conv=>whnf);first|(with_reducible first|apply spl|apply spl'|refine iJ ?_)<;>intro hc<;>try(exfalso;omega)|refine vcq ?_|refine dr 21 ?_|refine dr 14 ?_));all_goals(try conv=>whnf);try exact trivial
   ·dsimp only at hc ⊢
    rw[hti] at hc ⊢
    rw[if_neg hc] at he
    refine⟨inR_of (by omega) (by omega),?_⟩
    (repeat' ((conv=>whnf);first|(with_reducible first|apply spl|apply spl'|refine iJ ?_)<;>intro hc<;>try(exfalso;omega)|refine vcq ?_|refine dr 21 ?_|refine dr 14 ?_));all_goals(try conv=>whnf);try exact trivial
    refine⟨(i+1,x-(t.d.Z.getD i (0,0)).1),⟨⟨by dsimp only;omega,by dsimp only;omega,by dsimp only;omega⟩,by dsimp only;omega⟩,some [],?_⟩
    (repeat' ((conv=>whnf);first|(with_reducible first|apply spl|apply spl'|refine iJ ?_)<;>intro hc<;>try(exfalso;omega)|refine vcq ?_|refine dr 21 ?_|refine dr 14 ?_));all_goals(try conv=>whnf);try exact trivial
  ·have e:i=t.d.Z.length:=by omega
   subst e
   rw[List.drop_length] at he
   have he:zoneI t.d.Z c=t.d.Z.length:=he
   (repeat' ((conv=>whnf);first|(with_reducible first|apply spl|apply spl'|refine iJ ?_)<;>intro hc<;>try(exfalso;omega)|refine vcq ?_|refine dr 21 ?_|refine dr 14 ?_));all_goals(try conv=>whnf);try exact trivial
   rw[he]
   refine⟨_,rfl,?_⟩
   (repeat' ((conv=>whnf);first|(with_reducible first|apply spl|apply spl'|refine iJ ?_)<;>intro hc<;>try(exfalso;omega)|refine vcq ?_|refine dr 21 ?_|refine dr 14 ?_));all_goals(try conv=>whnf);try exact trivial
def TellN (n:Nat) (p:Nat→Prop):(Nat→Prop)→World→Value→Prop:=
 FnD Tryz.prog (fun k:{k:Nat // k<n}=>[.int .i64 (k.1:Nat)]) (fun k r=>r=.prop (p k.1) (Classical.propDecidable _))
open Classical in
noncomputable def filL (n:Nat) (p:Nat→Prop):List Int:=((List.range n).filter fun x=>decide (p x)).map fun x:Nat=>(x:Int)
theorem filL_succ (n:Nat) (p:Nat→Prop):filL (n+1) p=filL n p++(open Classical in if p n then [(n:Int)] else []):=by
 unfold filL
 rw[List.range_succ,List.filter_append,List.map_append]
 congr 1
 by_cases h:p n<;>simp[h]
theorem filL_len (n:Nat) (p:Nat→Prop):(filL n p).length≤n:=by
 unfold filL
 rw[List.length_map]
 refine Nat.le_trans (List.length_filter_le ..) ?_
 simp
theorem filter56 (t:Tr) (h:t.Ok) (p:Nat→Prop):PureC Tryz.prog 56 false [t.iV,.sem (TellN t.d.cnt p)] (·=.sl 1 (filL t.d.cnt p).length (rowOf intC 0 (filL t.d.cnt p))):=by
 have hcn:=Dk.cnt_le h.d
 refine pureC_of_exec Tryz.E_ok Tryz.func56 rfl (by kernel_rfl) ?_
 (repeat' ((conv=>whnf);first|(with_reducible first|apply spl|apply spl'|refine iJ ?_)<;>intro hc<;>try(exfalso;omega)|refine vcq ?_|refine dr 21 ?_|refine dr 14 ?_));all_goals(try conv=>whnf);try exact trivial
 refine⟨Nat×List Int,fun q=>q.1≤t.d.cnt∧q.2=filL q.1 p∧q.2.length≤q.1,fun q=>t.d.cnt-q.1,fun q=>[(12,.int .i64 (q.1:Nat)),(5,.osl 0 q.2.length)],fun _=>[],fun q=>[.row 3 1 q.2.length (rowOf intC 0 q.2) true],(0,[]),⟨⟨a2I _,rfl,by simp⟩,some [none],?_⟩,?_⟩
 ·(repeat' ((conv=>whnf);first|(with_reducible first|apply spl|apply spl'|refine iJ ?_)<;>intro hc<;>try(exfalso;omega)|refine vcq ?_|refine dr 21 ?_|refine dr 14 ?_));all_goals(try conv=>whnf);try exact trivial
 ·rintro⟨n,L⟩ ⟨hn,hL,hLl⟩
  dsimp only at hn hL hLl
  by_cases hnl:n<t.d.cnt
  ·have hs:=filL_succ n p
   rw[←hL] at hs
   (repeat' ((conv=>whnf);first|(with_reducible first|apply spl|apply spl'|refine iJ ?_)<;>intro hc<;>try(exfalso;omega)|refine vcq ?_|refine dr 21 ?_|refine dr 14 ?_));all_goals(try conv=>whnf);try exact trivial
   refine scall_fn (⟨n,hnl⟩:{k:Nat // k<t.d.cnt}) rfl rfl ?_
   rintro _ rfl
   have hlL:(L++[(n:Int)]).length=L.length+1:=by rw[a0P,List.length_singleton]
   (repeat' ((conv=>whnf);first|(with_reducible first|apply spl|apply spl'|refine iJ ?_)<;>intro hc<;>try(exfalso;omega)|refine vcq ?_|refine dr 21 ?_|refine dr 14 ?_));all_goals(try conv=>whnf);try exact trivial
   ·rw[if_pos hc] at hs
    refine⟨(n+1,L++[(n:Int)]),⟨⟨by dsimp only;omega,hs.symm,by dsimp only;omega⟩,by dsimp only;omega⟩,some [some 2],?_⟩
    (repeat' ((conv=>whnf);first|(with_reducible first|apply spl|apply spl'|refine iJ ?_)<;>intro hc<;>try(exfalso;omega)|refine vcq ?_|refine dr 21 ?_|refine dr 14 ?_));all_goals(try conv=>whnf);try exact trivial
    refine⟨rowOf_snoc (c:=intC) (a:=(n:Int)) (l:=L) rfl (fun _ _=>rfl),?_⟩
    (repeat' ((conv=>whnf);first|(with_reducible first|apply spl|apply spl'|refine iJ ?_)<;>intro hc<;>try(exfalso;omega)|refine vcq ?_|refine dr 21 ?_|refine dr 14 ?_));all_goals(try conv=>whnf);try exact trivial
   ·rw[if_neg hc,List.append_nil] at hs
    refine⟨(n+1,L),⟨⟨by dsimp only;omega,hs.symm,by dsimp only;omega⟩,by dsimp only;omega⟩,some [some 0],?_⟩
    (repeat' ((conv=>whnf);first|(with_reducible first|apply spl|apply spl'|refine iJ ?_)<;>intro hc<;>try(exfalso;omega)|refine vcq ?_|refine dr 21 ?_|refine dr 14 ?_));all_goals(try conv=>whnf);try exact trivial
  ·have e:n=t.d.cnt:=by omega
   subst e
   rw[←hL]
   (repeat' ((conv=>whnf);first|(with_reducible first|apply spl|apply spl'|refine iJ ?_)<;>intro hc<;>try(exfalso;omega)|refine vcq ?_|refine dr 21 ?_|refine dr 14 ?_));all_goals(try conv=>whnf);try exact trivial
   refine⟨_,rfl,?_⟩
   (repeat' ((conv=>whnf);first|(with_reducible first|apply spl|apply spl'|refine iJ ?_)<;>intro hc<;>try(exfalso;omega)|refine vcq ?_|refine dr 21 ?_|refine dr 14 ?_));all_goals(try conv=>whnf);try exact trivial
noncomputable def cntV (dom:List Int→Prop) (c:List Int→Int) (k:List Int):Int:=@ite _ (dom k) (Classical.propDecidable _) (c k) 0
noncomputable def cntUp (dom:List Int→Prop) (c:List Int→Int) (k:List Int) (k':List Int):Int:=@ite _ (k'=k) (Classical.propDecidable _) (cntV dom c k+1) (c k')
theorem valPut_cnt (dom:List Int→Prop) (c:List Int→Int) (k:List Int):valPut (fun k=>[.int .i64 (c k)]) k [.int .i64 (cntV dom c k+1)]=fun k'=>[.int .i64 (cntUp dom c k k')]:=by
 funext k'
 unfold valPut mrgL cntUp
 by_cases hk:k'=k
 ·subst hk
  simp[pickDL,pickD]
 ·simp[pickDL,pickD,hk]
def CntB (dom:List Int→Prop) (c:List Int→Int) (N:Nat):Prop:=∀k,dom k→1≤c k∧c k≤N
theorem CntB.mono {dom:List Int→Prop} {c:List Int→Int} {N M:Nat} (h:CntB dom c N) (hm:N≤M):CntB dom c M:=fun k hk=>⟨(h k hk).1,Int.le_trans (h k hk).2 (by omega)⟩
theorem CntB.inr {dom:List Int→Prop} {c:List Int→Int} {N:Nat} (h:CntB dom c N) (hN:N≤1000000000) (k:List Int):inR .i64 (cntV dom c k+1):=by
 unfold cntV
 split
 ·rename_i q
  have:=h k q
  exact inR_of (by omega) (by omega)
 ·exact inR_of (by omega) (by omega)
theorem CntB.up {dom:List Int→Prop} {c:List Int→Int} {N:Nat} (h:CntB dom c N) (k:List Int):CntB (domPut dom k) (cntUp dom c k) (N+1):=by
 intro k' hk'
 unfold cntUp cntV
 split
 ·split
  ·rename_i h2;have:=h k h2;omega
  ·omega
 ·rename_i hne
  rcases hk' with q|q
  ·exact absurd q hne
  ·have:=h k' q;omega
def ScrD (t:Tr) (m o:Nat) (D D':List Int→Prop):Prop:=∀x,D' x↔D x∨∃y:Nat,x=[(y:Int)]∧t.scrN m o y
theorem scratch57 (t:Tr) (h:t.Ok) (m o:Nat) (hm:m<t.d.cnt) (ho:o<t.d.cnt) (D:List Int→Prop) (c:List Int→Int) (n:Nat) (g:MG) (N:Nat) (hB:CntB D c N) (hN:N≤100000000) :
  Sx.Callee Tryz.prog 57 [t.iV,.map 0,.agg (plC (t.lc m)),.agg (plC (t.lc o))] [.map [.i64] false false D (fun k=>[.int .i64 (c k)]) n g] (fun v H=>v=.tup []∧∃D' c' n' g',ScrD t m o D D'∧CntB D' c' (N+16)∧H=[.map [.i64] false false D' (fun k=>[.int .i64 (c' k)]) n' g']):=by
 have hvm:=(vld_loc h.d hm).1
 have hvo:=(vld_loc h.d ho).1
 have hsc:=h.sc
 have hSl:=Dk.S_len h.d
 have hscr:t.scr m o↔(t.lc m).2.1=(t.lc o).2.1∧(t.lc o).1=(t.lc m).1+2∧zoneI t.d.Z (t.lc m).1=zoneI t.d.Z (t.lc o).1∧((max (t.lc m).2.2 (t.lc o).2.2:Nat):Int)-(min (t.lc m).2.2 (t.lc o).2.2:Nat)≤t.sc:=Iff.rfl
 have hscn:∀y,t.scrN m o y↔t.scr m o∧∃s,s<max (t.lc m).2.2 (t.lc o).2.2+1∧min (t.lc m).2.2 (t.lc o).2.2≤s∧y=numO t.d ((t.lc m).1+1:Nat) (t.lc m).2.1 s:=fun _=>Iff.rfl
 unfold ScrD
 change vld t.d (t.lc m).1 (t.lc m).2.1 (t.lc m).2.2 at hvm
 change vld t.d (t.lc o).1 (t.lc o).2.1 (t.lc o).2.2 at hvo
 generalize t.lc m=a at *
 generalize t.lc o=b at *
 obtain⟨ac,ah,az⟩:=a
 obtain⟨bc,bh,bz⟩:=b
 obtain⟨⟨_,hac⟩,⟨_,hah⟩,_,has⟩:=hvm
 obtain⟨⟨_,hbc⟩,⟨_,hbh⟩,_,hbs⟩:=hvo
 dsimp only at *
 refine callee_ent Tryz.E_ok Tryz.func57 rfl (by kernel_rfl) ?_
 have h16:∀k,k<t.d.S.length→t.d.S.getD k 0≤16:=fun k hk=>by
  rw[List.getD_eq_getElem?_getD,a0I hk]
  exact(Dk.S_pos h.d _ (List.getElem_mem hk)).2
 rw[Int.toNat_natCast] at has hbs
 have ha16:=h16 ac (by omega)
 have hb16:=h16 bc (by omega)
 clear h16
 have elo:min (az:Int) (bz:Int)=((min az bz:Nat):Int):=by omega
 have ehi:max (az:Int) (bz:Int)=((max az bz:Nat):Int):=by omega
 have hlh:min az bz≤max az bz∧max az bz≤15:=by omega
 have hno:¬t.scr m o→∀x,D x↔D x∨∃y:Nat,x=[(y:Int)]∧t.scrN m o y:=fun ns x=>⟨.inl,fun q=>q.elim id fun⟨y,_,q2⟩=>absurd ((hscn y).1 q2).1 ns⟩
 (repeat' ((conv=>whnf);first|(with_reducible first|apply spl|apply spl'|refine iJ ?_)<;>intro hc<;>try(exfalso;omega)|refine vcq ?_|refine dr 24 ?_|refine dr 12 ?_));all_goals((try conv=>whnf);try exact trivial);(repeat' ((first|(refine callee_fo (zone71 t h _ (by omega)) rfl ?_;rintro _ rfl)|(refine pcall_intro (zone71 t h _ (by omega)) rfl ?_)|(refine pcall_soft (fun _=>zone71 t h _ (by omega)) rfl ?_));(repeat' ((conv=>whnf);first|(with_reducible first|apply spl|apply spl'|refine iJ ?_)<;>intro hc<;>try(exfalso;omega)|refine vcq ?_|refine dr 24 ?_|refine dr 12 ?_));all_goals((try conv=>whnf);try exact trivial)))
 ·have ns:¬t.scr m o:=by rw[hscr];dsimp only at hc;omega
  refine⟨_,_,⟨rfl,D,c,n,g,hno ns,hB.mono (by omega),rfl⟩,some [some 0],?_⟩
  (repeat' ((conv=>whnf);first|(with_reducible first|apply spl|apply spl'|refine iJ ?_)<;>intro hc<;>try(exfalso;omega)|refine vcq ?_|refine dr 24 ?_|refine dr 12 ?_));all_goals(try conv=>whnf);try exact trivial
 ·rename_i hz
  have ns:¬t.scr m o:=by rw[hscr];dsimp only at hc hz;omega
  refine⟨_,_,⟨rfl,D,c,n,g,hno ns,hB.mono (by omega),rfl⟩,some [some 0],?_⟩
  (repeat' ((conv=>whnf);first|(with_reducible first|apply spl|apply spl'|refine iJ ?_)<;>intro hc<;>try(exfalso;omega)|refine vcq ?_|refine dr 24 ?_|refine dr 12 ?_));all_goals(try conv=>whnf);try exact trivial
 ·rename_i hz
  have ys:t.scr m o:=by rw[hscr];dsimp only at hc hz;omega
  clear hc hz
  dsimp only
  rw[elo,ehi]
  clear hscr hno
  generalize min az bz=lo at *
  generalize max az bz=hi at *
  have htl:((lo:Nat):Int).toNat=lo:=Int.toNat_natCast lo
  refine⟨Nat×(List Int→Prop)×(List Int→Int)×Nat×MG,fun q=>(lo≤q.1∧q.1≤hi+1)∧(∀x,q.2.1 x↔D x∨∃y:Nat,x=[(y:Int)]∧∃s,s<q.1∧lo≤s∧y=numO t.d (ac+1:Nat) ah s)∧CntB q.2.1 q.2.2.1 (N+(q.1-lo)),fun q=>hi+1-q.1,fun q=>[(10,.int .i64 (q.1:Nat))],fun q=>[(0,.map [.i64] false false q.2.1 (fun k=>[.int .i64 (q.2.2.1 k)]) q.2.2.2.1 q.2.2.2.2)],fun _=>[],(lo,D,c,n,g),⟨⟨by dsimp only;omega,fun x=>⟨.inl,fun q=>q.elim id fun⟨y,_,s,q1,q2,_⟩=>by dsimp only at q1;omega⟩,by dsimp only;exact hB.mono (by omega)⟩,some [some 0,some 1,some 2],?_⟩,?_⟩
  ·(repeat' ((conv=>whnf);first|(with_reducible first|apply spl|apply spl'|refine iJ ?_)<;>intro hc<;>try(exfalso;omega)|refine vcq ?_|refine dr 24 ?_|refine dr 12 ?_));all_goals(try conv=>whnf);try exact trivial
  ·rintro⟨s,D1,c1,n1,g1⟩ ⟨hs,hD,hC⟩
   dsimp only at hs hD hC
   have e1:(ac:Int)+1=((ac+1:Nat):Int):=by omega
   by_cases hsl:s<hi+1
   ·(repeat' ((conv=>whnf);first|(with_reducible first|apply spl|apply spl'|refine iJ ?_)<;>intro hc<;>try(exfalso;omega)|refine vcq ?_|refine dr 24 ?_|refine dr 12 ?_));all_goals(try conv=>whnf);try exact trivial
    refine callee_fo (sector58 t h _ _ _) rfl ?_
    rintro _ rfl
    (repeat' ((conv=>whnf);first|(with_reducible first|apply spl|apply spl'|refine iJ ?_)<;>intro hc<;>try(exfalso;omega)|refine vcq ?_|refine dr 24 ?_|refine dr 12 ?_));all_goals(try conv=>whnf);try exact trivial
    dsimp only
    refine And.intro (hC.inr (by omega) _) ?_
    (repeat' ((conv=>whnf);first|(with_reducible first|apply spl|apply spl'|refine iJ ?_)<;>intro hc<;>try(exfalso;omega)|refine vcq ?_|refine dr 24 ?_|refine dr 12 ?_));all_goals(try conv=>whnf);try exact trivial
    intro g2
    (repeat' ((conv=>whnf);first|(with_reducible first|apply spl|apply spl'|refine iJ ?_)<;>intro hc<;>try(exfalso;omega)|refine vcq ?_|refine dr 24 ?_|refine dr 12 ?_));all_goals(try conv=>whnf);try exact trivial
    rw[e1]
    generalize hy:numO t.d (ac+1:Nat) ah s=y at *
    have hw:=valPut_cnt D1 c1 [(y:Int)]
    unfold cntV at hw
    rw[hw]
    refine⟨(s+1,domPut D1 [(y:Int)],cntUp D1 c1 [(y:Int)],nPut D1 n1 [(y:Int)],g2),⟨⟨by dsimp only;omega,fun x=>?_,by dsimp only;exact(hC.up _).mono (by omega)⟩,by dsimp only;omega⟩,some [some 0,some 1,some 2],?_⟩
    ·dsimp only
     constructor
     ·rintro(q|q)
      ·exact .inr ⟨y,q,s,by omega,by omega,hy.symm⟩
      ·rcases(hD x).1 q with u|⟨y',u1,s',u2,u3⟩
       ·exact .inl u
       ·exact .inr ⟨y',u1,s',by omega,u3⟩
     ·rintro(q|⟨y',u1,s',u2,u3,u4⟩)
      ·exact .inr ((hD x).2 (.inl q))
      ·by_cases q:s'=s
       ·subst q
        rw[hy] at u4
        rw[u4] at u1
        exact .inl u1
       ·exact .inr ((hD x).2 (.inr ⟨y',u1,s',by omega,u3,u4⟩))
    ·(repeat' ((conv=>whnf);first|(with_reducible first|apply spl|apply spl'|refine iJ ?_)<;>intro hc<;>try(exfalso;omega)|refine vcq ?_|refine dr 24 ?_|refine dr 12 ?_));all_goals(try conv=>whnf);try exact trivial
   ·have e:s=hi+1:=by omega
    subst e
    (repeat' ((conv=>whnf);first|(with_reducible first|apply spl|apply spl'|refine iJ ?_)<;>intro hc<;>try(exfalso;omega)|refine vcq ?_|refine dr 24 ?_|refine dr 12 ?_));all_goals(try conv=>whnf);try exact trivial
    refine⟨_,_,⟨rfl,D1,c1,n1,g1,fun x=>?_,hC.mono (by omega),rfl⟩,some [some 0],?_⟩
    ·rw[hD]
     refine or_congr Iff.rfl (exists_congr fun y=>and_congr_right fun _=>?_)
     rw[hscn]
     exact⟨fun q=>⟨ys,q⟩,fun q=>q.2⟩
    ·(repeat' ((conv=>whnf);first|(with_reducible first|apply spl|apply spl'|refine iJ ?_)<;>intro hc<;>try(exfalso;omega)|refine vcq ?_|refine dr 24 ?_|refine dr 12 ?_));all_goals(try conv=>whnf);try exact trivial
end Tp
end Go.Proofs
