/- Own work: texts of the proof of a law (T5, T6). No condition. -/
import Derived.Test.YtmlcphcdbmlmmaaGreatTRHPart13
set_option linter.unusedVariables false
set_option linter.unusedSimpArgs false
namespace Go.Proofs
open Go Go.Sx
set_option maxRecDepth 100000
set_option maxHeartbeats 40000000
namespace Dk
def offN (d:Dk) (c h:Nat):Int:=if h=d.H.toNat then d.off (c+1) 0 else d.off c h
theorem offN_zero {d:Dk} (hd:d.Ok) (c:Nat):d.offN c 0=d.off c 0:=by
 have:=hd.h
 unfold offN
 rw[if_neg (by omega)]
theorem offN_all (d:Dk) (c:Nat):d.offN c d.H.toNat=d.off (c+1) 0:=by unfold offN;rw[if_pos rfl]
theorem off_zero {d:Dk}:d.off 0 0=0:=by simp[off]
theorem offN_lt {d:Dk} {c h:Nat} (hh:h<d.H.toNat):d.offN c h=d.off c h:=by unfold offN;rw[if_neg (by omega)]
theorem offN_succ {d:Dk} (hd:d.Ok) {c h:Nat} (hh:h<d.H.toNat):d.offN c (h+1)=(d.off c h+if(h:Int)=d.H-1 then d.ck else d.hk) % d.T:=by
 have h1:=hd.h
 have e:∀x y:Int,(x % d.T+y) % d.T=(x+y) % d.T:=fun x y=>by rw[Int.emod_add_emod]
 unfold offN off
 by_cases hl:h+1=d.H.toNat
 ·rw[if_pos hl,if_pos (by omega),e]
  congr 1
  have hH:d.H-1=(h:Int):=by omega
  rw[hH]
  push_cast
  simp only[Int.add_mul,Int.one_mul,Int.add_zero]
  omega
 ·rw[if_neg hl,if_neg (by omega),e]
  congr 1
  push_cast
  simp only[Int.add_mul,Int.one_mul]
  omega
end Dk
theorem skew113 (d:Dk) (p:Prop) (i:Decidable p):PureC Tryz.prog 70 false [d.v,.prop p i] (·=.int .i64 (if p then d.ck else d.hk)):=by
 refine pureC_of_exec Tryz.E_ok Tryz.func70 rfl (by kernel_rfl) ?_
 (repeat' ((conv=>whnf);first|(with_reducible first|apply spl|apply spl'|refine iJ ?_)<;>intro hc<;>try(exfalso;omega)|refine vcq ?_|refine dr 4 ?_));all_goals(try conv=>whnf);try exact trivial
 ·rw[if_pos hc]
  refine⟨_,rfl,?_⟩
  (repeat' ((conv=>whnf);first|(with_reducible first|apply spl|apply spl'|refine iJ ?_)<;>intro hc<;>try(exfalso;omega)|refine vcq ?_|refine dr 4 ?_));all_goals(try conv=>whnf);try exact trivial
 ·rw[if_neg hc]
  refine⟨_,rfl,?_⟩
  (repeat' ((conv=>whnf);first|(with_reducible first|apply spl|apply spl'|refine iJ ?_)<;>intro hc<;>try(exfalso;omega)|refine vcq ?_|refine dr 4 ?_));all_goals(try conv=>whnf);try exact trivial
theorem open88 (d:Dk) (hd:d.Ok):PureC Tryz.prog 46 true [d.v] (·=.tup [d.v,.int .i64 0]):=by
 have hz:=hd.z
 have hk:=Dk.chk_of hd
 have hC:=Check63 d (by omega)
 rw[hk] at hC
 refine pureC_of_exec Tryz.E_ok Tryz.func46 rfl (by kernel_rfl) ?_
 (repeat' ((conv=>whnf);first|(with_reducible first|apply spl|apply spl'|refine iJ ?_)<;>intro hc<;>try(exfalso;omega)|refine vcq ?_|refine dr 4 ?_));all_goals(try conv=>whnf);try exact trivial
 refine pcall_intro hC rfl ?_
 (repeat' ((conv=>whnf);first|(with_reducible first|apply spl|apply spl'|refine iJ ?_)<;>intro hc<;>try(exfalso;omega)|refine vcq ?_|refine dr 4 ?_));all_goals(try conv=>whnf);try exact trivial
 refine⟨_,rfl,?_⟩
 (repeat' ((conv=>whnf);first|(with_reducible first|apply spl|apply spl'|refine iJ ?_)<;>intro hc<;>try(exfalso;omega)|refine vcq ?_|refine dr 4 ?_));all_goals(try conv=>whnf);try exact trivial
def trV (c:Nat) (a b:Int) (f:Nat) (o:Int):List V:=[.int .i64 c,.int .i64 a,.int .i64 b,.int .i64 f,.int .i64 o]
theorem find87 (d:Dk) (hd:d.Ok) (n c0 h0 s0:Nat) (ha:AtS d.H.toNat d.S n c0 h0 s0):PureC Tryz.prog 34 true [d.v,.int .i64 n] (·=.tup [d.v,.agg [.int .i64 c0,.int .i64 h0,.int .i64 (d.S.getD c0 0:Nat),.int .i64 (fstS d.H.toNat d.S c0 h0:Nat),.int .i64 (d.off c0 h0)],.int .i64 0]):=by
 have hz:=hd.z
 refine pureC_of_exec Tryz.E_ok Tryz.func34 rfl (by kernel_rfl) ?_
 (repeat' ((conv=>whnf);first|(with_reducible first|apply spl|apply spl'|refine iJ ?_)<;>intro hc<;>try(exfalso;omega)|refine vcq ?_|refine dr 4 ?_));all_goals(try conv=>whnf);try exact trivial
 refine callee_fo (open88 d hd) rfl ?_
 rintro _ rfl
 (repeat' ((conv=>whnf);first|(with_reducible first|apply spl|apply spl'|refine iJ ?_)<;>intro hc<;>try(exfalso;omega)|refine vcq ?_|refine dr 4 ?_));all_goals(try conv=>whnf);try exact trivial
 refine callee_exec Tryz.E_ok Tryz.func47 rfl (by kernel_rfl) ?_
 (repeat' ((conv=>whnf);first|(with_reducible first|apply spl|apply spl'|refine iJ ?_)<;>intro hc<;>try(exfalso;omega)|refine vcq ?_|refine dr 4 ?_));all_goals(try conv=>whnf);try exact trivial
 have hH:=hd.h
 have hT:=hd.t
 have hcn:=d.cnt_le hd
 have hSl:=d.S_len hd
 have hall:fstS d.H.toNat d.S d.S.length 0=d.cnt:=fstS_all _ _
 have hnc:n<d.cnt:=at_lt ha
 have hp0:(d.Spre 0 0).length=0:=by rw[Dk.Spre_zero];rfl
 have hf0:fstS d.H.toNat d.S (d.Spre 0 0).length 0=0:=by rw[hp0,fstS_zero]
 have ho0:d.off (d.Spre 0 0).length 0=0:=by rw[hp0,Dk.off_zero]
 refine⟨Nat×Int×Int,fun q=>q.1≤d.Z.length∧fstS d.H.toNat d.S (d.Spre q.1 0).length 0≤n,fun q=>d.Z.length-q.1,fun q=>[(11,.int .i64 (q.1:Nat))],fun q=>[(8,.cells 82 (trV (d.Spre q.1 0).length q.2.1 q.2.2 (fstS d.H.toNat d.S (d.Spre q.1 0).length 0) (d.off (d.Spre q.1 0).length 0)))],fun _=>[],(0,0,0),⟨⟨by dsimp only;omega,by dsimp only;omega⟩,some [some 0,some 1,some 2,some 3,some 4,some 5,some 6,some 7,some 8],?_⟩,?_⟩
 ·(repeat' ((conv=>whnf);first|(with_reducible first|apply spl|apply spl'|refine iJ ?_)<;>intro hc<;>try(exfalso;omega)|refine vcq ?_|refine dr 4 ?_));all_goals(try conv=>whnf);try exact trivial
 ·rintro⟨i,a,b⟩ ⟨hi,hle⟩
  dsimp only at hi hle
  have hti:(i:Int).toNat=i:=Int.toNat_natCast i
  (repeat' ((conv=>whnf);first|(with_reducible first|apply spl|apply spl'|refine iJ ?_)<;>intro hc<;>try(exfalso;omega)|refine vcq ?_|refine dr 4 ?_));all_goals(try conv=>whnf);try exact trivial
  ·have hi1:i<d.Z.length:=by dsimp only at hc;omega
   have hzi:=Dk.zone_at hd hi1
   have hz1:((d.Z.getD i (0,0)).1.toNat:Int)=(d.Z.getD i (0,0)).1:=Int.toNat_of_nonneg (by omega)
   refine⟨Nat×Int×Int,fun q=>q.1≤(d.Z.getD i (0,0)).1.toNat∧fstS d.H.toNat d.S (d.Spre i q.1).length 0≤n,fun q=>(d.Z.getD i (0,0)).1.toNat-q.1,fun q=>[(17,.int .i64 (q.1:Nat))],fun q=>[(8,.cells 82 (trV (d.Spre i q.1).length q.2.1 q.2.2 (fstS d.H.toNat d.S (d.Spre i q.1).length 0) (d.off (d.Spre i q.1).length 0)))],fun _=>[],(0,a,b),⟨⟨by dsimp only;omega,hle⟩,none,?_⟩,?_⟩
   ·(repeat' ((conv=>whnf);first|(with_reducible first|apply spl|apply spl'|refine iJ ?_)<;>intro hc<;>try(exfalso;omega)|refine vcq ?_|refine dr 4 ?_));all_goals(try conv=>whnf);try exact trivial
   ·rintro⟨k,a,b⟩ ⟨hk,hle⟩
    dsimp only at hk hle
    (repeat' ((conv=>whnf);first|(with_reducible first|apply spl|apply spl'|refine iJ ?_)<;>intro hc<;>try(exfalso;omega)|refine vcq ?_|refine dr 4 ?_));all_goals(try conv=>whnf);try exact trivial
    ·have hk1:k<(d.Z.getD i (0,0)).1.toNat:=by dsimp only at hc;rw[hti] at hc;omega
     have hg:=d.Spre_get i k hi1 hk1
     have hs1:=d.Spre_len i k
     have hs2:=d.Spre_len i (k+1)
     generalize hcc:(d.Spre i k).length=c at *
     refine⟨Nat×Int×Int,fun q=>q.1≤d.H.toNat∧fstS d.H.toNat d.S c q.1≤n,fun q=>d.H.toNat-q.1,fun q=>[(22,.int .i64 (q.1:Nat))],fun q=>[(8,.cells 82 (trV c q.2.1 q.2.2 (fstS d.H.toNat d.S c q.1) (d.offN c q.1)))],fun _=>[],(0,a,b),⟨⟨by dsimp only;omega,hle⟩,none,?_⟩,?_⟩
     ·(repeat' ((conv=>whnf);first|(with_reducible first|apply spl|apply spl'|refine iJ ?_)<;>intro hc<;>try(exfalso;omega)|refine vcq ?_|refine dr 4 ?_));all_goals(try conv=>whnf);try exact trivial
      rw[Dk.offN_zero hd]
     ·rintro⟨h,a,b⟩ ⟨hh,hle⟩
      dsimp only at hh hle
      (repeat' ((conv=>whnf);first|(with_reducible first|apply spl|apply spl'|refine iJ ?_)<;>intro hc<;>try(exfalso;omega)|refine vcq ?_|refine dr 4 ?_));all_goals(try conv=>whnf);try exact trivial
      ·have hhl:h<d.H.toNat:=by dsimp only at hc;omega
       have hsu:=Dk.offN_succ hd (c:=c) hhl
       have hof:=(Dk.off_facts hd hg.1 hhl).2.2.2
       have hol:=Dk.offN_lt (d:=d) (c:=c) hhl
       have hfh:=fstS_head d.H.toNat d.S c h
       have hbnd:fstS d.H.toNat d.S c h+d.S.getD c 0≤d.cnt:=by
        have hat:AtS d.H.toNat d.S (fstS d.H.toNat d.S c h+(d.S.getD c 0-1)) c h (d.S.getD c 0-1):=⟨hg.1,hhl,by omega,rfl⟩
        have:fstS d.H.toNat d.S c h+(d.S.getD c 0-1)<d.cnt:=at_lt hat
        omega
       have hzs:(d.Z.getD i (0,0)).2=(d.S.getD c 0:Nat):=by omega
       dsimp only
       rw[hti,hzs]
       refine ycall_exec Tryz.E_ok rfl rfl rfl ?_
       (repeat' ((conv=>whnf);first|(with_reducible first|apply spl|apply spl'|refine iJ ?_)<;>intro hc<;>try(exfalso;omega)|refine vcq ?_|refine dr 4 ?_));all_goals(try conv=>whnf);try exact trivial
       refine callee_fo (in80 _ _ _) rfl ?_
       rintro _ rfl
       (repeat' ((conv=>whnf);first|(with_reducible first|apply spl|apply spl'|refine iJ ?_)<;>intro hc<;>try(exfalso;omega)|refine vcq ?_|refine dr 2002 ?_|refine dr 17 ?_));all_goals(try conv=>whnf);try exact trivial
       ·have hat:AtS d.H.toNat d.S n c h (n-fstS d.H.toNat d.S c h):=⟨hg.1,hhl,by omega,by omega⟩
        have e1:=loc_of ha
        rw[loc_of hat] at e1
        simp only[Prod.mk.injEq] at e1
        obtain⟨rfl,rfl,_⟩:=e1
        refine⟨_,rfl,?_⟩
        (repeat' ((conv=>whnf);first|(with_reducible first|apply spl|apply spl'|refine iJ ?_)<;>intro hc<;>try(exfalso;omega)|refine vcq ?_|refine dr 4 ?_));all_goals(try conv=>whnf);try exact trivial
       ·refine pcall_intro (skew113 d ((h:Int)=d.H-1) inferInstance) rfl ?_
        have hif:0≤(if(h:Int)=d.H-1 then d.ck else d.hk)∧(if(h:Int)=d.H-1 then d.ck else d.hk)≤999:=by
         have:=hd.hk
         have:=hd.ck
         split<;>omega
        generalize (if(h:Int)=d.H-1 then d.ck else d.hk)=sk at *
        (repeat' ((conv=>whnf);first|(with_reducible first|apply spl|apply spl'|refine iJ ?_)<;>intro hc<;>try(exfalso;omega)|refine vcq ?_|refine dr 17 ?_));all_goals(try conv=>whnf);try exact trivial
        refine⟨(h+1,(h:Int),((d.S.getD c 0:Nat):Int)),⟨⟨by dsimp only;omega,by dsimp only;omega⟩,by dsimp only;omega⟩,some [some 0,some 1,some 2,some 3,some 4,some 5,some 6,some 7,some 8,some 9],?_⟩
        (repeat' ((conv=>whnf);first|(with_reducible first|apply spl|apply spl'|refine iJ ?_)<;>intro hc<;>try(exfalso;omega)|refine vcq ?_|refine dr 4 ?_));all_goals(try conv=>whnf);try exact trivial
        refine⟨by rw[Int.tmod_eq_emod_of_nonneg (by omega),hol];exact hsu.symm,?_⟩
        (repeat' ((conv=>whnf);first|(with_reducible first|apply spl|apply spl'|refine iJ ?_)<;>intro hc<;>try(exfalso;omega)|refine vcq ?_|refine dr 4 ?_));all_goals(try conv=>whnf);try exact trivial
      ·have hhe:h=d.H.toNat:=by dsimp only at hc;omega
       subst hhe
       have hfc:=fstS_cyl d.H.toNat d.S c hg.1
       have hoa:=d.offN_all c
       have hs3:(d.Spre i (k+1)).length=c+1:=by omega
       refine⟨(k+1,a,b),⟨⟨by dsimp only;omega,by dsimp only;rw[hs3,hfc];exact hle⟩,by dsimp only;omega⟩,some [some 0,some 1,some 2,some 3,some 4,some 5,some 6,some 7,some 8,some 9],?_⟩
       (repeat' ((conv=>whnf);first|(with_reducible first|apply spl|apply spl'|refine iJ ?_)<;>intro hc<;>try(exfalso;omega)|refine vcq ?_|refine dr 4 ?_));all_goals(try conv=>whnf);try exact trivial
       dsimp only
       rw[hs3,hfc]
       refine⟨rfl,?_⟩
       (repeat' ((conv=>whnf);first|(with_reducible first|apply spl|apply spl'|refine iJ ?_)<;>intro hc<;>try(exfalso;omega)|refine vcq ?_|refine dr 4 ?_));all_goals(try conv=>whnf);try exact trivial
    ·have hke:k=(d.Z.getD i (0,0)).1.toNat:=by dsimp only at hc;rw[hti] at hc;omega
     subst hke
     have hzz:=d.Spre_zone i hi1
     rw[←hzz] at hle ⊢
     refine⟨(i+1,a,b),⟨⟨by dsimp only;omega,hle⟩,by dsimp only;omega⟩,some [some 0,some 1,some 2,some 3,some 4,some 5,some 6,some 7,some 8],?_⟩
     (repeat' ((conv=>whnf);first|(with_reducible first|apply spl|apply spl'|refine iJ ?_)<;>intro hc<;>try(exfalso;omega)|refine vcq ?_|refine dr 4 ?_));all_goals(try conv=>whnf);try exact trivial
  ·exfalso
   have hie:i=d.Z.length:=by dsimp only at hc;omega
   rw[hie,Dk.Spre_all,hall] at hle
   omega
theorem Place73 (d:Dk) (hd:d.Ok) (n c h s:Nat) (ha:AtS d.H.toNat d.S n c h s):PureC Tryz.prog 20 false [d.v,.int .i64 n] (·=.tup [.agg [.int .i64 c,.int .i64 h,.int .i64 s],.int .i64 0]):=by
 have hcn:=d.cnt_le hd
 have hn:n<d.cnt:=at_lt ha
 have he:=ha.2.2.2
 refine pureC_of_exec Tryz.E_ok Tryz.func20 rfl (by kernel_rfl) ?_
 (repeat' ((conv=>whnf);first|(with_reducible first|apply spl|apply spl'|refine iJ ?_)<;>intro hc<;>try(exfalso;omega)|refine vcq ?_|refine dr 17 ?_));all_goals(try conv=>whnf);try exact trivial
 refine callee_fo (find87 d hd n c h s ha) rfl ?_
 rintro _ rfl
 (repeat' ((conv=>whnf);first|(with_reducible first|apply spl|apply spl'|refine iJ ?_)<;>intro hc<;>try(exfalso;omega)|refine vcq ?_|refine dr 17 ?_));all_goals(try conv=>whnf);try exact trivial
 have e1:(n:Int)-(fstS d.H.toNat d.S c h:Nat)=s:=by omega
 rw[e1]
 refine⟨_,rfl,?_⟩
 (repeat' ((conv=>whnf);first|(with_reducible first|apply spl|apply spl'|refine iJ ?_)<;>intro hc<;>try(exfalso;omega)|refine vcq ?_|refine dr 17 ?_));all_goals(try conv=>whnf);try exact trivial
theorem size89 (d:Dk) (hd:d.Ok):PureC Tryz.prog 52 false [d.v] (·=.int .i64 d.cnt):=by
 have hz:=hd.z
 have hH:=hd.h
 have hT:=hd.t
 have hcn:=d.cnt_le hd
 have hSl:=d.S_len hd
 have hall:fstS d.H.toNat d.S d.S.length 0=d.cnt:=fstS_all _ _
 have hp0:(d.Spre 0 0).length=0:=by rw[Dk.Spre_zero];rfl
 have hf0:fstS d.H.toNat d.S (d.Spre 0 0).length 0=0:=by rw[hp0,fstS_zero]
 have ho0:d.off (d.Spre 0 0).length 0=0:=by rw[hp0,Dk.off_zero]
 refine pureC_of_exec Tryz.E_ok Tryz.func52 rfl (by kernel_rfl) ?_
 (repeat' ((conv=>whnf);first|(with_reducible first|apply spl|apply spl'|refine iJ ?_)<;>intro hc<;>try(exfalso;omega)|refine vcq ?_|refine dr 17 ?_));all_goals(try conv=>whnf);try exact trivial
 refine callee_exec Tryz.E_ok Tryz.func47 rfl (by kernel_rfl) ?_
 (repeat' ((conv=>whnf);first|(with_reducible first|apply spl|apply spl'|refine iJ ?_)<;>intro hc<;>try(exfalso;omega)|refine vcq ?_|refine dr 17 ?_));all_goals(try conv=>whnf);try exact trivial
 refine⟨Nat×Int×Int,fun q=>q.1≤d.Z.length,fun q=>d.Z.length-q.1,fun q=>[(11,.int .i64 (q.1:Nat))],fun q=>[(1,.cells 3 [.int .i64 (fstS d.H.toNat d.S (d.Spre q.1 0).length 0:Nat)]),(4,.cells 82 (trV (d.Spre q.1 0).length q.2.1 q.2.2 (fstS d.H.toNat d.S (d.Spre q.1 0).length 0) (d.off (d.Spre q.1 0).length 0)))],fun _=>[],(0,0,0),⟨by dsimp only;omega,some [some 0,some 1,some 2,some 3,some 4],?_⟩,?_⟩
 ·(repeat' ((conv=>whnf);first|(with_reducible first|apply spl|apply spl'|refine iJ ?_)<;>intro hc<;>try(exfalso;omega)|refine vcq ?_|refine dr 17 ?_));all_goals(try conv=>whnf);try exact trivial
 ·rintro⟨i,a,b⟩ hi
  dsimp only at hi
  have hti:(i:Int).toNat=i:=Int.toNat_natCast i
  (repeat' ((conv=>whnf);first|(with_reducible first|apply spl|apply spl'|refine iJ ?_)<;>intro hc<;>try(exfalso;omega)|refine vcq ?_|refine dr 17 ?_));all_goals(try conv=>whnf);try exact trivial
  ·have hi1:i<d.Z.length:=by dsimp only at hc;omega
   have hzi:=Dk.zone_at hd hi1
   have hz1:((d.Z.getD i (0,0)).1.toNat:Int)=(d.Z.getD i (0,0)).1:=Int.toNat_of_nonneg (by omega)
   refine⟨Nat×Int×Int,fun q=>q.1≤(d.Z.getD i (0,0)).1.toNat,fun q=>(d.Z.getD i (0,0)).1.toNat-q.1,fun q=>[(17,.int .i64 (q.1:Nat))],fun q=>[(1,.cells 3 [.int .i64 (fstS d.H.toNat d.S (d.Spre i q.1).length 0:Nat)]),(4,.cells 82 (trV (d.Spre i q.1).length q.2.1 q.2.2 (fstS d.H.toNat d.S (d.Spre i q.1).length 0) (d.off (d.Spre i q.1).length 0)))],fun _=>[],(0,a,b),⟨by dsimp only;omega,none,?_⟩,?_⟩
   ·(repeat' ((conv=>whnf);first|(with_reducible first|apply spl|apply spl'|refine iJ ?_)<;>intro hc<;>try(exfalso;omega)|refine vcq ?_|refine dr 17 ?_));all_goals(try conv=>whnf);try exact trivial
   ·rintro⟨k,a,b⟩ hk
    dsimp only at hk
    (repeat' ((conv=>whnf);first|(with_reducible first|apply spl|apply spl'|refine iJ ?_)<;>intro hc<;>try(exfalso;omega)|refine vcq ?_|refine dr 17 ?_));all_goals(try conv=>whnf);try exact trivial
    ·have hk1:k<(d.Z.getD i (0,0)).1.toNat:=by dsimp only at hc;rw[hti] at hc;omega
     have hg:=d.Spre_get i k hi1 hk1
     have hs1:=d.Spre_len i k
     have hs2:=d.Spre_len i (k+1)
     generalize hcc:(d.Spre i k).length=c at *
     refine⟨Nat×Int×Int,fun q=>q.1≤d.H.toNat,fun q=>d.H.toNat-q.1,fun q=>[(22,.int .i64 (q.1:Nat))],fun q=>[(1,.cells 3 [.int .i64 (fstS d.H.toNat d.S c q.1:Nat)]),(4,.cells 82 (trV c q.2.1 q.2.2 (fstS d.H.toNat d.S c q.1) (d.offN c q.1)))],fun _=>[],(0,a,b),⟨by dsimp only;omega,none,?_⟩,?_⟩
     ·(repeat' ((conv=>whnf);first|(with_reducible first|apply spl|apply spl'|refine iJ ?_)<;>intro hc<;>try(exfalso;omega)|refine vcq ?_|refine dr 17 ?_));all_goals(try conv=>whnf);try exact trivial
      rw[Dk.offN_zero hd]
     ·rintro⟨h,a,b⟩ hh
      dsimp only at hh
      (repeat' ((conv=>whnf);first|(with_reducible first|apply spl|apply spl'|refine iJ ?_)<;>intro hc<;>try(exfalso;omega)|refine vcq ?_|refine dr 17 ?_));all_goals(try conv=>whnf);try exact trivial
      ·have hhl:h<d.H.toNat:=by dsimp only at hc;omega
       have hsu:=Dk.offN_succ hd (c:=c) hhl
       have hof:=(Dk.off_facts hd hg.1 hhl).2.2.2
       have hol:=Dk.offN_lt (d:=d) (c:=c) hhl
       have hfh:=fstS_head d.H.toNat d.S c h
       have hbnd:fstS d.H.toNat d.S c h+d.S.getD c 0≤d.cnt:=by
        have hat:AtS d.H.toNat d.S (fstS d.H.toNat d.S c h+(d.S.getD c 0-1)) c h (d.S.getD c 0-1):=⟨hg.1,hhl,by omega,rfl⟩
        have:fstS d.H.toNat d.S c h+(d.S.getD c 0-1)<d.cnt:=at_lt hat
        omega
       have hzs:(d.Z.getD i (0,0)).2=(d.S.getD c 0:Nat):=by omega
       dsimp only
       rw[hti,hzs]
       refine ycall_exec Tryz.E_ok rfl rfl rfl ?_
       (repeat' ((conv=>whnf);first|(with_reducible first|apply spl|apply spl'|refine iJ ?_)<;>intro hc<;>try(exfalso;omega)|refine vcq ?_|refine dr 17 ?_));all_goals(try conv=>whnf);try exact trivial
       refine pcall_intro (skew113 d ((h:Int)=d.H-1) inferInstance) rfl ?_
       have hif:0≤(if(h:Int)=d.H-1 then d.ck else d.hk)∧(if(h:Int)=d.H-1 then d.ck else d.hk)≤999:=by
        have:=hd.hk
        have:=hd.ck
        split<;>omega
       generalize (if(h:Int)=d.H-1 then d.ck else d.hk)=sk at *
       (repeat' ((conv=>whnf);first|(with_reducible first|apply spl|apply spl'|refine iJ ?_)<;>intro hc<;>try(exfalso;omega)|refine vcq ?_|refine dr 17 ?_));all_goals(try conv=>whnf);try exact trivial
       refine⟨(h+1,(h:Int),((d.S.getD c 0:Nat):Int)),⟨by dsimp only;omega,by dsimp only;omega⟩,some [some 0,some 1,some 2,some 3,some 4,some 5],?_⟩
       (repeat' ((conv=>whnf);first|(with_reducible first|apply spl|apply spl'|refine iJ ?_)<;>intro hc<;>try(exfalso;omega)|refine vcq ?_|refine dr 17 ?_));all_goals(try conv=>whnf);try exact trivial
       refine⟨by rw[Int.tmod_eq_emod_of_nonneg (by omega),hol];exact hsu.symm,?_⟩
       (repeat' ((conv=>whnf);first|(with_reducible first|apply spl|apply spl'|refine iJ ?_)<;>intro hc<;>try(exfalso;omega)|refine vcq ?_|refine dr 17 ?_));all_goals(try conv=>whnf);try exact trivial
      ·have hhe:h=d.H.toNat:=by dsimp only at hc;omega
       subst hhe
       have hfc:=fstS_cyl d.H.toNat d.S c hg.1
       have hoa:=d.offN_all c
       have hs3:(d.Spre i (k+1)).length=c+1:=by omega
       refine⟨(k+1,a,b),⟨by dsimp only;omega,by dsimp only;omega⟩,some [some 0,some 1,some 2,some 3,some 4,some 5],?_⟩
       (repeat' ((conv=>whnf);first|(with_reducible first|apply spl|apply spl'|refine iJ ?_)<;>intro hc<;>try(exfalso;omega)|refine vcq ?_|refine dr 17 ?_));all_goals(try conv=>whnf);try exact trivial
       dsimp only
       rw[hs3,hfc]
       refine⟨rfl,?_⟩
       (repeat' ((conv=>whnf);first|(with_reducible first|apply spl|apply spl'|refine iJ ?_)<;>intro hc<;>try(exfalso;omega)|refine vcq ?_|refine dr 17 ?_));all_goals(try conv=>whnf);try exact trivial
    ·have hke:k=(d.Z.getD i (0,0)).1.toNat:=by dsimp only at hc;rw[hti] at hc;omega
     subst hke
     have hzz:=d.Spre_zone i hi1
     rw[←hzz]
     refine⟨(i+1,a,b),⟨by dsimp only;omega,by dsimp only;omega⟩,some [some 0,some 1,some 2,some 3,some 4],?_⟩
     (repeat' ((conv=>whnf);first|(with_reducible first|apply spl|apply spl'|refine iJ ?_)<;>intro hc<;>try(exfalso;omega)|refine vcq ?_|refine dr 17 ?_));all_goals(try conv=>whnf);try exact trivial
  ·have hie:i=d.Z.length:=by dsimp only at hc;omega
   subst hie
   dsimp only
   rw[Dk.Spre_all,hall]
   refine⟨_,rfl,?_⟩
   (repeat' ((conv=>whnf);first|(with_reducible first|apply spl|apply spl'|refine iJ ?_)<;>intro hc<;>try(exfalso;omega)|refine vcq ?_|refine dr 17 ?_));all_goals(try conv=>whnf);try exact trivial
theorem Size81 (d:Dk) (hd:d.Ok):PureC Tryz.prog 37 false [d.v] (·=.tup [.int .i64 d.cnt,.int .i64 0]):=by
 refine pureC_of_exec Tryz.E_ok Tryz.func37 rfl (by kernel_rfl) ?_
 (repeat' ((conv=>whnf);first|(with_reducible first|apply spl|apply spl'|refine iJ ?_)<;>intro hc<;>try(exfalso;omega)|refine vcq ?_|refine dr 17 ?_));all_goals(try conv=>whnf);try exact trivial
 refine callee_fo (open88 d hd) rfl ?_
 rintro _ rfl
 (repeat' ((conv=>whnf);first|(with_reducible first|apply spl|apply spl'|refine iJ ?_)<;>intro hc<;>try(exfalso;omega)|refine vcq ?_|refine dr 17 ?_));all_goals(try conv=>whnf);try exact trivial
 refine callee_fo (size89 d hd) rfl ?_
 rintro _ rfl
 (repeat' ((conv=>whnf);first|(with_reducible first|apply spl|apply spl'|refine iJ ?_)<;>intro hc<;>try(exfalso;omega)|refine vcq ?_|refine dr 17 ?_));all_goals(try conv=>whnf);try exact trivial
 refine⟨_,rfl,?_⟩
 (repeat' ((conv=>whnf);first|(with_reducible first|apply spl|apply spl'|refine iJ ?_)<;>intro hc<;>try(exfalso;omega)|refine vcq ?_|refine dr 17 ?_));all_goals(try conv=>whnf);try exact trivial
end Go.Proofs
