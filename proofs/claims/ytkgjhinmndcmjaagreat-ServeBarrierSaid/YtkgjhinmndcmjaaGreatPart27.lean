/- Own work: texts of the proof of a law (Wq2, Wq3, Wq4, Wq5, Wq6). No condition. -/
import Derived.Test.YtkgjhinmndcmjaaGreatPart17
import Derived.Test.YtkgjhinmndcmjaaGreatPart0
import Derived.Test.YtkgjhinmndcmjaaGreatPart11
set_option linter.unusedVariables false
set_option linter.unusedSimpArgs false
namespace Go.Proofs
open Go Go.Sx
set_option maxRecDepth 100000
set_option maxHeartbeats 4000000
namespace Dk
theorem Spre_len (d:Dk) (i k:Nat):(d.Spre i k).length=(d.Spre i 0).length+k:=by unfold Spre;simp
theorem Spre_sum (d:Dk) (i k:Nat):(d.Spre i k).sum=(d.Spre i 0).sum+k*(d.Z.getD i (0,0)).2.toNat:=by unfold Spre;simp
theorem Spre_len_succ (d:Dk) {i:Nat} (hi:i<d.Z.length):(d.Spre (i+1) 0).length=(d.Spre i 0).length+(d.Z.getD i (0,0)).1.toNat:=by rw[Spre_zone d i hi,Spre_len]
theorem Spre_sum_succ (d:Dk) {i:Nat} (hi:i<d.Z.length):(d.Spre (i+1) 0).sum=(d.Spre i 0).sum+(d.Z.getD i (0,0)).1.toNat*(d.Z.getD i (0,0)).2.toNat:=by rw[Spre_zone d i hi,Spre_sum]
theorem Spre_le {d:Dk} (hd:d.Ok):∀i,i≤d.Z.length→(d.Spre i 0).length≤20*i∧(d.Spre i 0).sum≤320*i
 |0,_=>by rw[Spre_zero];simp
 |i+1,h=>by
  have ih:=Spre_le hd i (by omega)
  have hz:=zone_at hd (show i<d.Z.length by omega)
  rw[Spre_len_succ d (by omega),Spre_sum_succ d (by omega)]
  have:(d.Z.getD i (0,0)).1.toNat*(d.Z.getD i (0,0)).2.toNat≤20*16:=a2I (by omega) (by omega)
  omega
end Dk
theorem mul_bnd {a b m n:Int} (h1:1≤a) (h2:a≤m) (h3:1≤b) (h4:b≤n):0≤a*b∧a*b≤m*n:=
 ⟨Int.mul_nonneg (by omega) (by omega),Int.mul_le_mul h2 h4 (by omega) (by omega)⟩
theorem a2r {a b m n:Int} (h1:0≤a) (h2:a≤m) (h3:0≤b) (h4:b≤n):0≤a*b∧a*b≤m*n:=
 ⟨Int.mul_nonneg h1 h3,Int.mul_le_mul h2 h4 h3 (by omega)⟩
theorem Cylinders49 (d:Dk) (hd:d.Ok):a0g Tryz.prog 96 false [d.v] (·=.int .i64 d.S.length):=by
 have hZ:=hd.z
 refine a0a Tryz.E_ok Tryz.func96 rfl (by kernel_rfl) ?_
 refine x5 ?_
 refine⟨Nat,fun i=>i≤d.Z.length,fun i=>d.Z.length-i,fun i=>[(4,.int .i64 (i:Nat)),(3,.int .i64 ((d.Spre i 0).length:Nat))],fun _=>[],fun _=>[],0,⟨by omega,none,?_⟩,?_⟩
 ·exact xc17
 ·intro i hi
  have hi:i≤d.Z.length:=hi
  have hti:(i:Int).toNat=i:=a0E i
  have hle:=Dk.Spre_le hd i hi
  by_cases hi1:i<d.Z.length
  ·have hz:=Dk.zone_at hd hi1
   have hs:=Dk.Spre_len_succ d hi1
   have hle2:=Dk.Spre_le hd (i+1) hi1
   refine x5 (fun hc=>?_)
   rw[hti]
   refine x5 ?_
   refine⟨i+1,⟨by omega,by dsimp only;omega⟩,none,?_⟩
   exact xc17
  ·obtain rfl:i=d.Z.length:=by omega
   refine x5 (fun hc=>?_)
   rw[Dk.Spre_all]
   refine⟨_,rfl,?_⟩
   exact xc17
theorem Count57 (d:Dk) (hd:d.Ok):a0g Tryz.prog 80 false [d.v] (·=.int .i64 d.cnt):=by
 have hZ:=hd.z
 have hH:=hd.h
 refine a0a Tryz.E_ok Tryz.func80 rfl (by kernel_rfl) ?_
 refine x5 ?_
 refine⟨Nat,fun i=>i≤d.Z.length,fun i=>d.Z.length-i,fun i=>[(4,.int .i64 (i:Nat)),(3,.int .i64 ((d.H.toNat*(d.Spre i 0).sum:Nat)))],fun _=>[],fun _=>[],0,⟨by omega,none,?_⟩,?_⟩
 ·exact xc17
 ·intro i hi
  have hi:i≤d.Z.length:=hi
  have hti:(i:Int).toNat=i:=a0E i
  have hle:=Dk.Spre_le hd i hi
  by_cases hi1:i<d.Z.length
  ·have hz:=Dk.zone_at hd hi1
   have hs:=Dk.Spre_sum_succ d hi1
   have hle2:=Dk.Spre_le hd (i+1) hi1
   have m1:0≤(d.Z.getD i (0,0)).1*(d.Z.getD i (0,0)).2∧(d.Z.getD i (0,0)).1*(d.Z.getD i (0,0)).2≤20*16:=mul_bnd hz.1.1 hz.1.2 hz.2.1.1 hz.2.1.2
   have m2:0≤(d.Z.getD i (0,0)).1*(d.Z.getD i (0,0)).2*d.H∧(d.Z.getD i (0,0)).1*(d.Z.getD i (0,0)).2*d.H≤320*4:=a2r m1.1 m1.2 (by omega) hH.2
   have m3:((d.H.toNat*(d.Spre (i+1) 0).sum:Nat):Int)=((d.H.toNat*(d.Spre i 0).sum:Nat):Int)+(d.Z.getD i (0,0)).1*(d.Z.getD i (0,0)).2*d.H:=by
    rw[hs]
    push_cast
    rw[a3F (by omega),a3F (by omega),a3F (by omega),Int.mul_add,Int.mul_comm d.H ((d.Z.getD i (0,0)).1*_)]
   have m4:d.H.toNat*(d.Spre i 0).sum≤4*1280:=a2I (by omega) (by omega)
   refine x5 (fun hc=>?_)
   rw[hti]
   refine x5 ?_
   refine⟨i+1,⟨by omega,by dsimp only;omega⟩,none,?_⟩
   exact xc17
  ·obtain rfl:i=d.Z.length:=by omega
   refine x5 (fun hc=>?_)
   rw[Dk.Spre_all]
   refine⟨_,rfl,?_⟩
   exact xc17
theorem IsSector56 (d:Dk) (hd:d.Ok) (n:Int):a0g Tryz.prog 99 false [d.v,.int .i64 n] (·=.prop (0≤n∧n≤d.cnt-1) inferInstance):=by
 have hc:=d.cnt_le hd
 refine a0a Tryz.E_ok Tryz.func99 rfl (by kernel_rfl) ?_
 refine x5 ?_;(repeat' ((first|(refine a0b (Count57 d hd) rfl ?_;rintro _ rfl)|(refine a0d (Count57 d hd) rfl ?_)|(refine a0h (fun _=>Count57 d hd) rfl ?_)|(refine a0b (a2v _ _ _) rfl ?_;rintro _ rfl)|(refine a0d (a2v _ _ _) rfl ?_)|(refine a0h (fun _=>a2v _ _ _) rfl ?_));refine x5 ?_));(all_goals(try(refine⟨_,rfl,?_⟩;exact xc17)))
theorem IsRun38 (d:Dk) (hd:d.Ok) (n m:Int):a0g Tryz.prog 65 false [d.v,.int .i64 n,.int .i64 m] (·=.prop ((0≤n∧n≤d.cnt-1)∧1≤m∧m≤d.cnt-n) inferInstance):=by
 have hcn:=d.cnt_le hd
 refine a0a Tryz.E_ok Tryz.func65 rfl (by kernel_rfl) ?_
 refine x5 ?_;(repeat' ((first|(refine a0b (IsSector56 d hd n) rfl ?_;rintro _ rfl)|(refine a0d (IsSector56 d hd n) rfl ?_)|(refine a0h (fun _=>IsSector56 d hd n) rfl ?_)|(refine a0b (Count57 d hd) rfl ?_;rintro _ rfl)|(refine a0d (Count57 d hd) rfl ?_)|(refine a0h (fun _=>Count57 d hd) rfl ?_)|(refine a0b (a2v _ _ _) rfl ?_;rintro _ rfl)|(refine a0d (a2v _ _ _) rfl ?_)|(refine a0h (fun _=>a2v _ _ _) rfl ?_));(repeat' ((conv=>whnf);first|(with_reducible first|apply spl|apply spl'|refine iJ ?_)<;>intro hc<;>try(exfalso;omega)|refine vcq ?_|refine dr 18 ?_));all_goals((try conv=>whnf);try exact trivial)))
 ·refine⟨_,rfl,?_⟩
  exact xc17
 ·refine⟨_,rfl,?_⟩
  exact xc17
namespace Dk
end Dk
theorem at_lt {H:Nat} {S:List Nat} {n c h s:Nat} (g:AtS H S n c h s):n<H*S.sum:=by
 obtain⟨h1,h2,h3,h4⟩:=g
 have e1:=a3e H S c h
 have e2:fstS H S c (h+1)≤fstS H S c H:=by unfold fstS;exact Nat.add_le_add_left (Nat.mul_le_mul_right _ h2) _
 have e3:=fstS_cyl H S c h1
 have e4:fstS H S (c+1) 0≤H*S.sum:=by
  unfold fstS
  rw[Nat.zero_mul,a2O]
  refine Nat.mul_le_mul_left _ ?_
  conv=>rhs;rw[←a1T (c+1) S,List.sum_append]
  omega
 omega
namespace Dk
theorem off_facts {d:Dk} (hd:d.Ok) {c h:Nat} (hc:c<d.S.length) (hh:h<d.H.toNat) :
  (0≤(c:Int)*d.ck∧(c:Int)*d.ck≤80*999)∧(0≤(c:Int)*(d.H-1)∧(c:Int)*(d.H-1)≤80*3)∧(0≤((c:Int)*(d.H-1)+h)*d.hk∧((c:Int)*(d.H-1)+h)*d.hk≤243*999)∧0≤d.off c h∧d.off c h<d.T:=by
 have h1:=hd.h
 have h2:=hd.t
 have h3:=hd.ck
 have h4:=hd.hk
 have hS:=d.S_len hd
 have a1:=a2r (a:=(c:Int)) (b:=d.ck) (m:=80) (n:=999) (by omega) (by omega) (by omega) (by omega)
 have a2:=a2r (a:=(c:Int)) (b:=d.H-1) (m:=80) (n:=3) (by omega) (by omega) (by omega) (by omega)
 have a3:=a2r (a:=(c:Int)*(d.H-1)+h) (b:=d.hk) (m:=243) (n:=999) (by omega) (by omega) (by omega) (by omega)
 exact⟨a1,a2,a3,Int.emod_nonneg _ (by omega),Int.emod_lt_of_pos _ (by omega)⟩
theorem dur_facts {d:Dk} (hd:d.Ok) {c:Nat} (hc:c<d.S.length):(0<(d.S.getD c 0:Int)∧(d.S.getD c 0:Int)≤16)∧d.T.tdiv (d.S.getD c 0:Nat)=d.T / (d.S.getD c 0:Nat)∧0≤d.T / (d.S.getD c 0:Nat)∧d.T / (d.S.getD c 0:Nat)≤1000:=by
 have h2:=hd.t
 have hp:=S_pos hd (d.S.getD c 0) (by rw[a1a hc];exact a0N hc)
 refine⟨by omega,Int.tdiv_eq_ediv_of_nonneg (by omega),Int.ediv_nonneg (by omega) (by omega),a3Z (Int.ediv_le_self _ (by omega)) (by omega)⟩
def kd (d:Dk) (n:Nat):Nat:=kindS d.H.toNat d.S n
def sk (d:Dk) (k:Nat):Int:=if k=1 then d.hk else if k=2 then d.ck else 0
theorem kd_le (d:Dk) (n:Nat):d.kd n≤2:=by unfold kd kindS;split<;>(try split)<;>omega
def offN (d:Dk) (c h:Nat):Int:=if h=d.H.toNat then d.off (c+1) 0 else d.off c h
theorem offN_zero {d:Dk} (hd:d.Ok) (c:Nat):d.offN c 0=d.off c 0:=by
 have:=hd.h
 unfold offN
 rw[if_neg (by omega)]
theorem offN_all (d:Dk) (c:Nat):d.offN c d.H.toNat=d.off (c+1) 0:=by unfold offN;rw[if_pos rfl]
theorem off_zero {d:Dk}:d.off 0 0=0:=by simp[off]
theorem offN_lt {d:Dk} {c h:Nat} (hh:h<d.H.toNat):d.offN c h=d.off c h:=by unfold offN;rw[if_neg (by omega)]
theorem offN_succ {d:Dk} (hd:d.Ok) {c h:Nat} (hh:h<d.H.toNat):d.offN c (h+1)=(d.off c h+if(h:Int)=d.H-1 then d.ck else d.hk) % d.T:=by
 have h1:=hd.h
 have e:∀x y:Int,(x % d.T+y) % d.T=(x+y) % d.T:=fun x y=>by rw[Int.emod_add_emod]
 unfold offN off
 by_cases hl:h+1=d.H.toNat
 ·rw[if_pos hl,if_pos (by omega),e]
  congr 1
  have hH:d.H-1=(h:Int):=by omega
  rw[hH]
  push_cast
  simp only[Int.add_mul,Int.one_mul,Int.add_zero]
  omega
 ·rw[if_neg hl,if_neg (by omega),e]
  congr 1
  push_cast
  simp only[Int.add_mul,Int.one_mul]
  omega
end Dk
theorem skew113 (d:Dk) (p:Prop) (i:Decidable p):a0g Tryz.prog 203 false [d.v,.prop p i] (·=.int .i64 (if p then d.ck else d.hk)):=by
 refine a0a Tryz.E_ok Tryz.func203 rfl (by kernel_rfl) ?_
 refine x63 (fun hc=>?_) (fun hc=>?_)
 ·rw[if_pos hc]
  refine⟨_,rfl,?_⟩
  exact xc36
 ·rw[if_neg hc]
  refine⟨_,rfl,?_⟩
  exact xc36
theorem open88 (d:Dk) (hd:d.Ok):a0g Tryz.prog 159 true [d.v] (·=.tup [d.v,.int .i64 0]):=by
 have hz:=hd.z
 have hk:=Dk.chk_of hd
 have hC:=Check63 d (by omega)
 rw[hk] at hC
 refine a0a Tryz.E_ok Tryz.func159 rfl (by kernel_rfl) ?_
 refine x15 ?_
 refine a0d hC rfl ?_
 refine x15 ?_
 refine⟨_,rfl,?_⟩
 exact xc36
def trV (c:Nat) (a b:Int) (f:Nat) (o:Int):List V:=[.int .i64 c,.int .i64 a,.int .i64 b,.int .i64 f,.int .i64 o]
theorem find87 (d:Dk) (hd:d.Ok) (n c0 h0 s0:Nat) (ha:AtS d.H.toNat d.S n c0 h0 s0):a0g Tryz.prog 170 true [d.v,.int .i64 n] (·=.tup [d.v,.agg [.int .i64 c0,.int .i64 h0,.int .i64 (d.S.getD c0 0:Nat),.int .i64 (fstS d.H.toNat d.S c0 h0:Nat),.int .i64 (d.off c0 h0)],.int .i64 0]):=by
 have hz:=hd.z
 refine a0a Tryz.E_ok Tryz.func170 rfl (by kernel_rfl) ?_
 refine x15 ?_
 refine a0b (open88 d hd) rfl ?_
 rintro _ rfl
 refine x15 (fun hc=>?_)
 refine a0r Tryz.E_ok Tryz.func182 rfl (by kernel_rfl) ?_
 refine x15 ?_
 have hH:=hd.h
 have hT:=hd.t
 have hcn:=d.cnt_le hd
 have hSl:=d.S_len hd
 have hall:fstS d.H.toNat d.S d.S.length 0=d.cnt:=fstS_all _ _
 have hnc:n<d.cnt:=at_lt ha
 have hp0:(d.Spre 0 0).length=0:=by rw[Dk.Spre_zero];rfl
 have hf0:fstS d.H.toNat d.S (d.Spre 0 0).length 0=0:=by rw[hp0,fstS_zero]
 have ho0:d.off (d.Spre 0 0).length 0=0:=by rw[hp0,Dk.off_zero]
 refine⟨Nat×Int×Int,fun q=>q.1≤d.Z.length∧fstS d.H.toNat d.S (d.Spre q.1 0).length 0≤n,fun q=>d.Z.length-q.1,fun q=>[(11,.int .i64 (q.1:Nat))],fun q=>[(8,.cells 240 (trV (d.Spre q.1 0).length q.2.1 q.2.2 (fstS d.H.toNat d.S (d.Spre q.1 0).length 0) (d.off (d.Spre q.1 0).length 0)))],fun _=>[],(0,0,0),⟨⟨by dsimp only;omega,by dsimp only;omega⟩,some [some 0,some 1,some 2,some 3,some 4,some 5,some 6,some 7,some 8],?_⟩,?_⟩
 ·exact xc36
 ·rintro⟨i,a,b⟩ ⟨hi,hle⟩
  dsimp only at hi hle
  have hti:(i:Int).toNat=i:=a0E i
  refine x63 (fun hc=>?_) (fun hc=>?_)
  ·have hi1:i<d.Z.length:=by dsimp only at hc;omega
   have hzi:=Dk.zone_at hd hi1
   have hz1:((d.Z.getD i (0,0)).1.toNat:Int)=(d.Z.getD i (0,0)).1:=a3F (by omega)
   refine⟨Nat×Int×Int,fun q=>q.1≤(d.Z.getD i (0,0)).1.toNat∧fstS d.H.toNat d.S (d.Spre i q.1).length 0≤n,fun q=>(d.Z.getD i (0,0)).1.toNat-q.1,fun q=>[(17,.int .i64 (q.1:Nat))],fun q=>[(8,.cells 240 (trV (d.Spre i q.1).length q.2.1 q.2.2 (fstS d.H.toNat d.S (d.Spre i q.1).length 0) (d.off (d.Spre i q.1).length 0)))],fun _=>[],(0,a,b),⟨⟨by dsimp only;omega,hle⟩,none,?_⟩,?_⟩
   ·exact xc36
   ·rintro⟨k,a,b⟩ ⟨hk,hle⟩
    dsimp only at hk hle
    refine x63 (fun hc=>?_) (fun hc=>?_)
    ·have hk1:k<(d.Z.getD i (0,0)).1.toNat:=by dsimp only at hc;rw[hti] at hc;omega
     have hg:=d.Spre_get i k hi1 hk1
     have hs1:=d.Spre_len i k
     have hs2:=d.Spre_len i (k+1)
     generalize hcc:(d.Spre i k).length=c at *
     refine⟨Nat×Int×Int,fun q=>q.1≤d.H.toNat∧fstS d.H.toNat d.S c q.1≤n,fun q=>d.H.toNat-q.1,fun q=>[(22,.int .i64 (q.1:Nat))],fun q=>[(8,.cells 240 (trV c q.2.1 q.2.2 (fstS d.H.toNat d.S c q.1) (d.offN c q.1)))],fun _=>[],(0,a,b),⟨⟨by dsimp only;omega,hle⟩,none,?_⟩,?_⟩
     ·refine x15 ?_
      rw[Dk.offN_zero hd]
     ·rintro⟨h,a,b⟩ ⟨hh,hle⟩
      dsimp only at hh hle
      refine x63 (fun hc=>?_) (fun hc=>?_)
      ·have hhl:h<d.H.toNat:=by dsimp only at hc;omega
       have hsu:=Dk.offN_succ hd (c:=c) hhl
       have hof:=(Dk.off_facts hd hg.1 hhl).2.2.2
       have hol:=Dk.offN_lt (d:=d) (c:=c) hhl
       have hfh:=a3e d.H.toNat d.S c h
       have hbnd:fstS d.H.toNat d.S c h+d.S.getD c 0≤d.cnt:=by
        have hat:AtS d.H.toNat d.S (fstS d.H.toNat d.S c h+(d.S.getD c 0-1)) c h (d.S.getD c 0-1):=⟨hg.1,hhl,by omega,rfl⟩
        have:fstS d.H.toNat d.S c h+(d.S.getD c 0-1)<d.cnt:=at_lt hat
        omega
       have hzs:(d.Z.getD i (0,0)).2=(d.S.getD c 0:Nat):=by omega
       dsimp only
       rw[hti,hzs]
       refine ycall_exec Tryz.E_ok rfl rfl rfl ?_
       refine x15 ?_
       refine a0b (in80 _ _ _) rfl ?_
       rintro _ rfl
       (repeat' ((conv=>whnf);first|(with_reducible first|apply spl|apply spl'|refine iJ ?_)<;>intro hc<;>try(exfalso;omega)|refine vcq ?_|refine dr 2002 ?_|refine dr 17 ?_));all_goals(try conv=>whnf);try exact trivial
       ·have hat:AtS d.H.toNat d.S n c h (n-fstS d.H.toNat d.S c h):=⟨hg.1,hhl,by omega,by omega⟩
        have e1:=loc_of ha
        rw[loc_of hat] at e1
        simp only[Prod.mk.injEq] at e1
        obtain⟨rfl,rfl,_⟩:=e1
        refine⟨_,rfl,?_⟩
        exact xc36
       ·refine a0d (skew113 d ((h:Int)=d.H-1) inferInstance) rfl ?_
        have hif:0≤(if(h:Int)=d.H-1 then d.ck else d.hk)∧(if(h:Int)=d.H-1 then d.ck else d.hk)≤999:=by
         have:=hd.hk
         have:=hd.ck
         split<;>omega
        generalize (if(h:Int)=d.H-1 then d.ck else d.hk)=sk at *
        refine x10 ?_
        refine⟨(h+1,(h:Int),((d.S.getD c 0:Nat):Int)),⟨⟨by dsimp only;omega,by dsimp only;omega⟩,by dsimp only;omega⟩,some [some 0,some 1,some 2,some 3,some 4,some 5,some 6,some 7,some 8,some 9],?_⟩
        refine x15 ?_
        refine⟨by rw[a1I (by omega),hol];exact hsu.symm,?_⟩
        exact xc36
      ·have hhe:h=d.H.toNat:=by dsimp only at hc;omega
       subst hhe
       have hfc:=fstS_cyl d.H.toNat d.S c hg.1
       have hoa:=d.offN_all c
       have hs3:(d.Spre i (k+1)).length=c+1:=by omega
       refine⟨(k+1,a,b),⟨⟨by dsimp only;omega,by dsimp only;rw[hs3,hfc];exact hle⟩,by dsimp only;omega⟩,some [some 0,some 1,some 2,some 3,some 4,some 5,some 6,some 7,some 8,some 9],?_⟩
       refine x15 ?_
       dsimp only
       rw[hs3,hfc]
       refine⟨rfl,?_⟩
       exact xc36
    ·have hke:k=(d.Z.getD i (0,0)).1.toNat:=by dsimp only at hc;rw[hti] at hc;omega
     subst hke
     have hzz:=d.Spre_zone i hi1
     rw[←hzz] at hle ⊢
     refine⟨(i+1,a,b),⟨⟨by dsimp only;omega,hle⟩,by dsimp only;omega⟩,some [some 0,some 1,some 2,some 3,some 4,some 5,some 6,some 7,some 8],?_⟩
     exact xc36
  ·exfalso
   have hie:i=d.Z.length:=by dsimp only at hc;omega
   rw[hie,Dk.Spre_all,hall] at hle
   omega
theorem Place73 (d:Dk) (hd:d.Ok) (n c h s:Nat) (ha:AtS d.H.toNat d.S n c h s):a0g Tryz.prog 139 false [d.v,.int .i64 n] (·=.tup [.agg [.int .i64 c,.int .i64 h,.int .i64 s],.int .i64 0]):=by
 have hcn:=d.cnt_le hd
 have hn:n<d.cnt:=at_lt ha
 have he:=ha.2.2.2
 refine a0a Tryz.E_ok Tryz.func139 rfl (by kernel_rfl) ?_
 refine x10 ?_
 refine a0b (find87 d hd n c h s ha) rfl ?_
 rintro _ rfl
 refine x10 (fun hc=>?_)
 have e1:(n:Int)-(fstS d.H.toNat d.S c h:Nat)=s:=by omega
 rw[e1]
 refine⟨_,rfl,?_⟩
 exact xc31
theorem Angle74 (d:Dk) (hd:d.Ok) (n c h s:Nat) (ha:AtS d.H.toNat d.S n c h s):a0g Tryz.prog 140 false [d.v,.int .i64 n] (·=.tup [.int .i64 (d.ang n),.int .i64 (d.T / (d.S.getD c 0:Nat)),.int .i64 0]):=by
 have hcn:=d.cnt_le hd
 have hn:n<d.cnt:=at_lt ha
 have he:=ha.2.2.2
 have h2:=hd.t
 obtain⟨b1,b2,b3⟩:=Dk.dur_facts hd ha.1
 obtain⟨_,_,_,a4⟩:=Dk.off_facts hd ha.1 ha.2.1
 have m1:=a2r (a:=(s:Int)) (b:=d.T / (d.S.getD c 0:Nat)) (m:=16) (n:=1000) (by omega) (by have:=ha.2.2.1;omega) b3.1 b3.2
 have e:d.ang n=(d.off c h+s*(d.T / (d.S.getD c 0:Nat))) % d.T:=by unfold Dk.ang;rw[loc_of ha]
 have e1:(n:Int)-(fstS d.H.toNat d.S c h:Nat)=s:=by omega
 rw[e]
 refine a0a Tryz.E_ok Tryz.func140 rfl (by kernel_rfl) ?_
 refine x10 ?_
 refine a0b (find87 d hd n c h s ha) rfl ?_
 rintro _ rfl
 refine x10 (fun hc=>?_)
 rw[b2]
 refine x10 ?_
 rw[e1]
 refine x10 ?_
 rw[a1I (by omega)]
 refine⟨_,rfl,?_⟩
 exact xc31
theorem size89 (d:Dk) (hd:d.Ok):a0g Tryz.prog 160 false [d.v] (·=.int .i64 d.cnt):=by
 have hz:=hd.z
 have hH:=hd.h
 have hT:=hd.t
 have hcn:=d.cnt_le hd
 have hSl:=d.S_len hd
 have hall:fstS d.H.toNat d.S d.S.length 0=d.cnt:=fstS_all _ _
 have hp0:(d.Spre 0 0).length=0:=by rw[Dk.Spre_zero];rfl
 have hf0:fstS d.H.toNat d.S (d.Spre 0 0).length 0=0:=by rw[hp0,fstS_zero]
 have ho0:d.off (d.Spre 0 0).length 0=0:=by rw[hp0,Dk.off_zero]
 refine a0a Tryz.E_ok Tryz.func160 rfl (by kernel_rfl) ?_
 refine x10 ?_
 refine a0r Tryz.E_ok Tryz.func182 rfl (by kernel_rfl) ?_
 refine x10 ?_
 refine⟨Nat×Int×Int,fun q=>q.1≤d.Z.length,fun q=>d.Z.length-q.1,fun q=>[(11,.int .i64 (q.1:Nat))],fun q=>[(1,.cells 3 [.int .i64 (fstS d.H.toNat d.S (d.Spre q.1 0).length 0:Nat)]),(4,.cells 240 (trV (d.Spre q.1 0).length q.2.1 q.2.2 (fstS d.H.toNat d.S (d.Spre q.1 0).length 0) (d.off (d.Spre q.1 0).length 0)))],fun _=>[],(0,0,0),⟨by dsimp only;omega,some [some 0,some 1,some 2,some 3,some 4],?_⟩,?_⟩
 ·exact xc31
 ·rintro⟨i,a,b⟩ hi
  dsimp only at hi
  have hti:(i:Int).toNat=i:=a0E i
  refine x71 (fun hc=>?_) (fun hc=>?_)
  ·have hi1:i<d.Z.length:=by dsimp only at hc;omega
   have hzi:=Dk.zone_at hd hi1
   have hz1:((d.Z.getD i (0,0)).1.toNat:Int)=(d.Z.getD i (0,0)).1:=a3F (by omega)
   refine⟨Nat×Int×Int,fun q=>q.1≤(d.Z.getD i (0,0)).1.toNat,fun q=>(d.Z.getD i (0,0)).1.toNat-q.1,fun q=>[(17,.int .i64 (q.1:Nat))],fun q=>[(1,.cells 3 [.int .i64 (fstS d.H.toNat d.S (d.Spre i q.1).length 0:Nat)]),(4,.cells 240 (trV (d.Spre i q.1).length q.2.1 q.2.2 (fstS d.H.toNat d.S (d.Spre i q.1).length 0) (d.off (d.Spre i q.1).length 0)))],fun _=>[],(0,a,b),⟨by dsimp only;omega,none,?_⟩,?_⟩
   ·exact xc31
   ·rintro⟨k,a,b⟩ hk
    dsimp only at hk
    refine x71 (fun hc=>?_) (fun hc=>?_)
    ·have hk1:k<(d.Z.getD i (0,0)).1.toNat:=by dsimp only at hc;rw[hti] at hc;omega
     have hg:=d.Spre_get i k hi1 hk1
     have hs1:=d.Spre_len i k
     have hs2:=d.Spre_len i (k+1)
     generalize hcc:(d.Spre i k).length=c at *
     refine⟨Nat×Int×Int,fun q=>q.1≤d.H.toNat,fun q=>d.H.toNat-q.1,fun q=>[(22,.int .i64 (q.1:Nat))],fun q=>[(1,.cells 3 [.int .i64 (fstS d.H.toNat d.S c q.1:Nat)]),(4,.cells 240 (trV c q.2.1 q.2.2 (fstS d.H.toNat d.S c q.1) (d.offN c q.1)))],fun _=>[],(0,a,b),⟨by dsimp only;omega,none,?_⟩,?_⟩
     ·refine x10 ?_
      rw[Dk.offN_zero hd]
     ·rintro⟨h,a,b⟩ hh
      dsimp only at hh
      refine x71 (fun hc=>?_) (fun hc=>?_)
      ·have hhl:h<d.H.toNat:=by dsimp only at hc;omega
       have hsu:=Dk.offN_succ hd (c:=c) hhl
       have hof:=(Dk.off_facts hd hg.1 hhl).2.2.2
       have hol:=Dk.offN_lt (d:=d) (c:=c) hhl
       have hfh:=a3e d.H.toNat d.S c h
       have hbnd:fstS d.H.toNat d.S c h+d.S.getD c 0≤d.cnt:=by
        have hat:AtS d.H.toNat d.S (fstS d.H.toNat d.S c h+(d.S.getD c 0-1)) c h (d.S.getD c 0-1):=⟨hg.1,hhl,by omega,rfl⟩
        have:fstS d.H.toNat d.S c h+(d.S.getD c 0-1)<d.cnt:=at_lt hat
        omega
       have hzs:(d.Z.getD i (0,0)).2=(d.S.getD c 0:Nat):=by omega
       dsimp only
       rw[hti,hzs]
       refine ycall_exec Tryz.E_ok rfl rfl rfl ?_
       refine x10 ?_
       refine a0d (skew113 d ((h:Int)=d.H-1) inferInstance) rfl ?_
       have hif:0≤(if(h:Int)=d.H-1 then d.ck else d.hk)∧(if(h:Int)=d.H-1 then d.ck else d.hk)≤999:=by
        have:=hd.hk
        have:=hd.ck
        split<;>omega
       generalize (if(h:Int)=d.H-1 then d.ck else d.hk)=sk at *
       refine x10 ?_
       refine⟨(h+1,(h:Int),((d.S.getD c 0:Nat):Int)),⟨by dsimp only;omega,by dsimp only;omega⟩,some [some 0,some 1,some 2,some 3,some 4,some 5],?_⟩
       refine x10 ?_
       refine⟨by rw[a1I (by omega),hol];exact hsu.symm,?_⟩
       exact xc31
      ·have hhe:h=d.H.toNat:=by dsimp only at hc;omega
       subst hhe
       have hfc:=fstS_cyl d.H.toNat d.S c hg.1
       have hoa:=d.offN_all c
       have hs3:(d.Spre i (k+1)).length=c+1:=by omega
       refine⟨(k+1,a,b),⟨by dsimp only;omega,by dsimp only;omega⟩,some [some 0,some 1,some 2,some 3,some 4,some 5],?_⟩
       refine x10 ?_
       dsimp only
       rw[hs3,hfc]
       refine⟨rfl,?_⟩
       exact xc31
    ·have hke:k=(d.Z.getD i (0,0)).1.toNat:=by dsimp only at hc;rw[hti] at hc;omega
     subst hke
     have hzz:=d.Spre_zone i hi1
     rw[←hzz]
     refine⟨(i+1,a,b),⟨by dsimp only;omega,by dsimp only;omega⟩,some [some 0,some 1,some 2,some 3,some 4],?_⟩
     exact xc31
  ·have hie:i=d.Z.length:=by dsimp only at hc;omega
   subst hie
   dsimp only
   rw[Dk.Spre_all,hall]
   refine⟨_,rfl,?_⟩
   exact xc31
theorem Size81 (d:Dk) (hd:d.Ok):a0g Tryz.prog 122 false [d.v] (·=.tup [.int .i64 d.cnt,.int .i64 0]):=by
 refine a0a Tryz.E_ok Tryz.func122 rfl (by kernel_rfl) ?_
 refine x10 ?_
 refine a0b (open88 d hd) rfl ?_
 rintro _ rfl
 refine x10 (fun hc=>?_)
 refine a0b (size89 d hd) rfl ?_
 rintro _ rfl
 refine x10 ?_
 refine⟨_,rfl,?_⟩
 exact xc31
end Go.Proofs
