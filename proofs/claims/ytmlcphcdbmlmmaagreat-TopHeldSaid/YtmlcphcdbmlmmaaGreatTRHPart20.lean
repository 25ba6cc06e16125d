/- Own work: texts of the proof of a law (T28, T29, T30, T31). No condition. -/
import Derived.Test.YtmlcphcdbmlmmaaGreatTRHPart19
set_option linter.unusedVariables false
set_option linter.unusedSimpArgs false
namespace Go.Proofs
open Go Go.Sx
set_option maxRecDepth 100000
set_option maxHeartbeats 40000000
namespace Tp
def rescV:Option (Nat×Nat)→V
 |none=>.tup [.int .i64 0,.int .i64 0,.int .i64 3]
 |some b=>.tup [.int .i64 (b.1:Nat),.int .i64 (b.2:Nat),.int .i64 0]
def bestV:Option (Nat×Nat)→V
 |none=>.lit (.pointer none)
 |some _=>.ptr 1 0
def bestO:Option (Nat×Nat)→List O
 |none=>[]
 |some b=>[.cells 65 [.int .i64 (b.1:Nat),.int .i64 (b.2:Nat)]]
theorem filL_nil {n:Nat} {p:Nat→Prop}:(filL n p).length=0↔∀k,k<n→¬p k:=by
 rw[List.length_eq_zero_iff]
 constructor
 ·intro e k hk hp
  have:(k:Int)∈filL n p:=mem_filL.2 ⟨k,hk,hp,rfl⟩
  rw[e] at this
  exact List.not_mem_nil this
 ·intro h
  rw[a1O]
  intro x hx
  obtain⟨k,h1,h2,_⟩:=mem_filL.1 hx
  exact h k h1 h2
theorem less_60 {t:Tr} (h60:t.d.cnt≤60) (s:Nat):(t.less s).d.cnt≤60:=by
 rw[Tr.less_cnt]
 exact Nat.le_trans (a0C _ (rk_le _ _)) h60
theorem blks_len {t:Tr} (h60:t.d.cnt≤60):t.blks.length≤60:=by
 have:=blk_len (d:=t.d) t.sp t.mapL (a0O t.d.Z.length)
 rw[zF_all] at this
 exact Nat.le_trans this h60
theorem rstep_no {t:Tr} {s:Nat} (h:¬(t.less s).okS) (b:Option (Nat×Nat)):t.rstep b s=b:=if_neg h
theorem rstep_none {t:Tr} {s:Nat} (h:(t.less s).okS):t.rstep none s=some (s,t.cap s):=if_pos h
theorem rstep_yes {t:Tr} {s:Nat} {b:Nat×Nat} (h:(t.less s).okS) (q:Tr.better (s,t.cap s) b):t.rstep (some b) s=some (s,t.cap s):=(if_pos h).trans (if_pos q)
theorem rstep_not {t:Tr} {s:Nat} {b:Nat×Nat} (h:(t.less s).okS) (q:¬Tr.better (s,t.cap s) b):t.rstep (some b) s=some b:=(if_pos h).trans (if_neg q)
theorem Rescue8 (t:Tr) (h:t.Ok) (hp:t.Poss) (h60:t.d.cnt≤60):PureC Tryz.prog 8 false [t.v] (·=rescV (t.resc (2 ^ t.d.H.toNat-1))):=by
 have hH:=h.d.h
 have hpw:2 ^ t.d.H.toNat≤16∧1≤2 ^ t.d.H.toNat:=by
  have:t.d.H.toNat=1∨t.d.H.toNat=2∨t.d.H.toNat=3∨t.d.H.toNat=4:=by omega
  rcases this with q|q|q|q<;>rw[q]<;>omega
 have hshl:(1:Int)*2 ^ t.d.H.toNat=((2 ^ t.d.H.toNat:Nat):Int):=by simp
 refine pureC_of_exec Tryz.E_ok Tryz.func8 rfl (by kernel_rfl) ?_
 (repeat' ((conv=>whnf);first|(with_reducible first|apply spl|apply spl'|refine iJ ?_)<;>intro hc<;>try(exfalso;omega)|refine vcq ?_|refine dr 10 ?_));all_goals(try conv=>whnf);try exact trivial
 refine callee_fo (open22 t h hp) rfl ?_
 rintro _ rfl
 (repeat' ((conv=>whnf);first|(with_reducible first|apply spl|apply spl'|refine iJ ?_)<;>intro hc<;>try(exfalso;omega)|refine vcq ?_|refine dr 10 ?_));all_goals(try conv=>whnf);try exact trivial
 rw[hshl]
 refine⟨⟨by omega,show t.d.H.toNat≤64 by omega,inR_of (by omega) (by omega)⟩,?_⟩
 (repeat' ((conv=>whnf);first|(with_reducible first|apply spl|apply spl'|refine iJ ?_)<;>intro hc<;>try(exfalso;omega)|refine vcq ?_|refine dr 10 ?_));all_goals(try conv=>whnf);try exact trivial
 generalize hN:2 ^ t.d.H.toNat=N at *
 refine⟨Nat×Option (Nat×Nat),fun q=>q.1≤N-1∧q.2=t.resc q.1,fun q=>N-1-q.1,fun q=>[(26,.int .i64 (q.1:Nat)),(6,bestV q.2)]++anyS 7 6++anyS 27 40,fun _=>[],fun q=>bestO q.2,(0,none),⟨⟨by dsimp only;omega,rfl⟩,some [some 0],?_⟩,?_⟩
 ·(repeat' ((conv=>whnf);first|(with_reducible first|apply spl|apply spl'|refine iJ ?_)<;>intro hc<;>try(exfalso;omega)|refine vcq ?_|refine dr 10 ?_));all_goals(try conv=>whnf);try exact trivial
 ·rintro⟨s,b⟩ ⟨hs,hb⟩
  dsimp only at hs hb
  rcases b with _|⟨bs,bn⟩
  ·by_cases hsl:s<N-1
   ·have hu:=Tr.less_ok h (rk_pos _ (by omega) s (by omega))
    have hup:=Tr.less_poss h hp s
    have hu60:=less_60 h60 s
    have hw:=without23 t h s (by omega)
    have hstep:=Tr.resc_succ t s
    have hcap:t.cap s=(t.less s).blks.length:=rfl
    have hbl:=blks_len hu60
    rw[←hb] at hstep
    have hokI:(t.less s).okS↔(t.less s).mapL.length≤60∧(t.less s).nd≤(t.less s).blks.length∧∀h,h<(t.less s).d.H.toNat→¬(t.less s).mo<(t.less s).onH h:=Iff.rfl
    (repeat' ((conv=>whnf);first|(with_reducible first|apply spl|apply spl'|refine iJ ?_)<;>intro hc<;>try(exfalso;omega)|refine vcq ?_|refine dr 10 ?_));all_goals(try conv=>whnf);try exact trivial
    refine callee_fo hw rfl ?_
    rintro _ rfl
    generalize hul:t.less s=u at *
    refine callee_fo (open22 u hu hup) rfl ?_
    rintro _ rfl
    (repeat' ((conv=>whnf);first|(with_reducible first|apply spl|apply spl'|refine iJ ?_)<;>intro hc<;>try(exfalso;omega)|refine vcq ?_|refine dr 10 ?_));all_goals(try conv=>whnf);try exact trivial
    refine callee_fo (passes24 u hu hu60) rfl ?_
    rintro _ rfl
    (repeat' ((conv=>whnf);first|(with_reducible first|apply spl|apply spl'|refine iJ ?_)<;>intro hc<;>try(exfalso;omega)|refine vcq ?_|refine dr 10 ?_));all_goals(try conv=>whnf);try exact trivial
    ·refine callee_fo (failing25 u hu hu60) rfl ?_
     rintro _ rfl
     have hfn:=filL_nil (n:=u.d.H.toNat) (p:=fun k=>u.mo<u.onH k)
     have hml:=mapL_len u
     generalize filL u.d.H.toNat (fun k=>u.mo<u.onH k)=F at *
     have hnd:=hc
     (repeat' ((conv=>whnf);first|(with_reducible first|apply spl|apply spl'|refine iJ ?_)<;>intro hc<;>try(exfalso;omega)|refine vcq ?_|refine dr 10 ?_));all_goals(try conv=>whnf);try exact trivial
     ·have hno:¬(t.less s).okS:=by
       rw[hul,hokI,←hfn]
       intro q
       omega
      rw[rstep_no hno] at hstep
      refine⟨(s+1,none),⟨⟨by dsimp only;omega,hstep.symm⟩,by dsimp only;omega⟩,some [some 0],?_⟩
      (repeat' ((conv=>whnf);first|(with_reducible first|apply spl|apply spl'|refine iJ ?_)<;>intro hc<;>try(exfalso;omega)|refine vcq ?_|refine dr 10 ?_));all_goals(try conv=>whnf);try exact trivial
     ·have hok:(t.less s).okS:=by
       rw[hul,hokI,←hfn]
       exact⟨by omega,Classical.not_not.1 hnd,by omega⟩
      refine callee_fo (capacity26 u hu hu60) rfl ?_
      rintro _ rfl
      (repeat' ((conv=>whnf);first|(with_reducible first|apply spl|apply spl'|refine iJ ?_)<;>intro hc<;>try(exfalso;omega)|refine vcq ?_|refine dr 10 ?_));all_goals(try conv=>whnf);try exact trivial
      rw[rstep_none hok,hcap] at hstep
      refine⟨(s+1,some (s,u.blks.length)),⟨⟨by dsimp only;omega,hstep.symm⟩,by dsimp only;omega⟩,some [some 0,some 1],?_⟩
      (repeat' ((conv=>whnf);first|(with_reducible first|apply spl|apply spl'|refine iJ ?_)<;>intro hc<;>try(exfalso;omega)|refine vcq ?_|refine dr 10 ?_));all_goals(try conv=>whnf);try exact trivial
    ·have hno:¬(t.less s).okS:=by
      rw[hul,hokI]
      exact fun q=>hc q.2.1
     rw[rstep_no hno] at hstep
     refine⟨(s+1,none),⟨⟨by dsimp only;omega,hstep.symm⟩,by dsimp only;omega⟩,some [some 0],?_⟩
     (repeat' ((conv=>whnf);first|(with_reducible first|apply spl|apply spl'|refine iJ ?_)<;>intro hc<;>try(exfalso;omega)|refine vcq ?_|refine dr 10 ?_));all_goals(try conv=>whnf);try exact trivial
   ·have e:s=N-1:=by omega
    subst e
    (repeat' ((conv=>whnf);first|(with_reducible first|apply spl|apply spl'|refine iJ ?_)<;>intro hc<;>try(exfalso;omega)|refine vcq ?_|refine dr 10 ?_));all_goals(try conv=>whnf);try exact trivial
    rw[←hb]
    refine⟨_,rfl,?_⟩
    (repeat' ((conv=>whnf);first|(with_reducible first|apply spl|apply spl'|refine iJ ?_)<;>intro hc<;>try(exfalso;omega)|refine vcq ?_|refine dr 10 ?_));all_goals(try conv=>whnf);try exact trivial
  ·by_cases hsl:s<N-1
   ·have hu:=Tr.less_ok h (rk_pos _ (by omega) s (by omega))
    have hup:=Tr.less_poss h hp s
    have hu60:=less_60 h60 s
    have hw:=without23 t h s (by omega)
    have hstep:=Tr.resc_succ t s
    have hcap:t.cap s=(t.less s).blks.length:=rfl
    have hbl:=blks_len hu60
    have hbo:=Tr.resc_ok hb.symm
    have hbn:bn≤60:=by rw[hbo.2.2];exact blks_len (less_60 h60 bs)
    rw[←hb] at hstep
    have hokI:(t.less s).okS↔(t.less s).mapL.length≤60∧(t.less s).nd≤(t.less s).blks.length∧∀h,h<(t.less s).d.H.toNat→¬(t.less s).mo<(t.less s).onH h:=Iff.rfl
    (repeat' ((conv=>whnf);first|(with_reducible first|apply spl|apply spl'|refine iJ ?_)<;>intro hc<;>try(exfalso;omega)|refine vcq ?_|refine dr 10 ?_));all_goals(try conv=>whnf);try exact trivial
    refine callee_fo hw rfl ?_
    rintro _ rfl
    generalize hul:t.less s=u at *
    refine callee_fo (open22 u hu hup) rfl ?_
    rintro _ rfl
    (repeat' ((conv=>whnf);first|(with_reducible first|apply spl|apply spl'|refine iJ ?_)<;>intro hc<;>try(exfalso;omega)|refine vcq ?_|refine dr 10 ?_));all_goals(try conv=>whnf);try exact trivial
    refine callee_fo (passes24 u hu hu60) rfl ?_
    rintro _ rfl
    (repeat' ((conv=>whnf);first|(with_reducible first|apply spl|apply spl'|refine iJ ?_)<;>intro hc<;>try(exfalso;omega)|refine vcq ?_|refine dr 10 ?_));all_goals(try conv=>whnf);try exact trivial
    ·refine callee_fo (failing25 u hu hu60) rfl ?_
     rintro _ rfl
     have hfn:=filL_nil (n:=u.d.H.toNat) (p:=fun k=>u.mo<u.onH k)
     have hml:=mapL_len u
     generalize filL u.d.H.toNat (fun k=>u.mo<u.onH k)=F at *
     have hnd:=hc
     (repeat' ((conv=>whnf);first|(with_reducible first|apply spl|apply spl'|refine iJ ?_)<;>intro hc<;>try(exfalso;omega)|refine vcq ?_|refine dr 10 ?_));all_goals(try conv=>whnf);try exact trivial
     ·have hno:¬(t.less s).okS:=by
       rw[hul,hokI,←hfn]
       intro q
       omega
      rw[rstep_no hno] at hstep
      refine⟨(s+1,some (bs,bn)),⟨⟨by dsimp only;omega,hstep.symm⟩,by dsimp only;omega⟩,some [some 0,some 1],?_⟩
      (repeat' ((conv=>whnf);first|(with_reducible first|apply spl|apply spl'|refine iJ ?_)<;>intro hc<;>try(exfalso;omega)|refine vcq ?_|refine dr 10 ?_));all_goals(try conv=>whnf);try exact trivial
     ·have hok:(t.less s).okS:=by
       rw[hul,hokI,←hfn]
       exact⟨by omega,Classical.not_not.1 hnd,by omega⟩
      refine callee_fo (capacity26 u hu hu60) rfl ?_
      rintro _ rfl
      (repeat' ((conv=>whnf);first|(with_reducible first|apply spl|apply spl'|refine iJ ?_)<;>intro hc<;>try(exfalso;omega)|refine vcq ?_|refine dr 10 ?_));all_goals(try conv=>whnf);try exact trivial
      refine pcall_intro (compare27 (s,u.blks.length) (bs,bn) ⟨by dsimp only;omega,by dsimp only;omega⟩ ⟨by dsimp only;omega,by dsimp only;omega⟩) rfl ?_
      have hcl:=cmpR_lt (s,u.blks.length) (bs,bn)
      (repeat' ((conv=>whnf);first|(with_reducible first|apply spl|apply spl'|refine iJ ?_)<;>intro hc<;>try(exfalso;omega)|refine vcq ?_|refine dr 10 ?_));all_goals(try conv=>whnf);try exact trivial
      ·rw[rstep_yes hok (by rw[hcap];exact hcl.1 hc),hcap] at hstep
       refine⟨(s+1,some (s,u.blks.length)),⟨⟨by dsimp only;omega,hstep.symm⟩,by dsimp only;omega⟩,some [some 0,some 2],?_⟩
       (repeat' ((conv=>whnf);first|(with_reducible first|apply spl|apply spl'|refine iJ ?_)<;>intro hc<;>try(exfalso;omega)|refine vcq ?_|refine dr 10 ?_));all_goals(try conv=>whnf);try exact trivial
      ·rw[rstep_not hok (by rw[hcap];exact fun q=>hc (hcl.2 q))] at hstep
       refine⟨(s+1,some (bs,bn)),⟨⟨by dsimp only;omega,hstep.symm⟩,by dsimp only;omega⟩,some [some 0,some 1],?_⟩
       (repeat' ((conv=>whnf);first|(with_reducible first|apply spl|apply spl'|refine iJ ?_)<;>intro hc<;>try(exfalso;omega)|refine vcq ?_|refine dr 10 ?_));all_goals(try conv=>whnf);try exact trivial
    ·have hno:¬(t.less s).okS:=by
      rw[hul,hokI]
      exact fun q=>hc q.2.1
     rw[rstep_no hno] at hstep
     refine⟨(s+1,some (bs,bn)),⟨⟨by dsimp only;omega,hstep.symm⟩,by dsimp only;omega⟩,some [some 0,some 1],?_⟩
     (repeat' ((conv=>whnf);first|(with_reducible first|apply spl|apply spl'|refine iJ ?_)<;>intro hc<;>try(exfalso;omega)|refine vcq ?_|refine dr 10 ?_));all_goals(try conv=>whnf);try exact trivial
   ·have e:s=N-1:=by omega
    subst e
    (repeat' ((conv=>whnf);first|(with_reducible first|apply spl|apply spl'|refine iJ ?_)<;>intro hc<;>try(exfalso;omega)|refine vcq ?_|refine dr 10 ?_));all_goals(try conv=>whnf);try exact trivial
    rw[←hb]
    refine⟨_,rfl,?_⟩
    (repeat' ((conv=>whnf);first|(with_reducible first|apply spl|apply spl'|refine iJ ?_)<;>intro hc<;>try(exfalso;omega)|refine vcq ?_|refine dr 10 ?_));all_goals(try conv=>whnf);try exact trivial
theorem open22p (t:Tr) (h:t.Ok) (hp:t.Poss) (p:Prop) (dp:Decidable p) (hpp:p):PureC Tryz.prog 22 true [t.v,.prop p dp] (·=.tup [t.iV,.int .i64 0]):=by
 have hc:=open22 t h hp
 refine⟨hc.1,fun I w vals hI hd=>?_⟩
 obtain⟨v0,r0,rfl,e0,v1,r1,rfl,e1,e2⟩:=hd
 have e1:v1=.bool (@decide p dp):=e1
 refine hc.2 I w _ hI ⟨v0,_,rfl,e0,v1,_,rfl,?_,e2⟩
 have:@decide p dp=true:=decide_eq_true hpp
 rw[e1,this]
 rfl
theorem Without9 (t:Tr) (h:t.Ok) (hp:t.Poss) (s:Nat) (hs:s<2 ^ t.d.H.toNat-1):PureC Tryz.prog 9 true [t.v,.int .i64 s] (·=.tup [.agg (t.less s).c,.int .i64 0]):=by
 have hH:=h.d.h
 have hpw:2 ^ t.d.H.toNat≤16∧1≤2 ^ t.d.H.toNat:=by
  have:t.d.H.toNat=1∨t.d.H.toNat=2∨t.d.H.toNat=3∨t.d.H.toNat=4:=by omega
  rcases this with q|q|q|q<;>rw[q]<;>omega
 have emn:(max 0 (min t.d.H 4)).toNat=t.d.H.toNat:=by omega
 have hshl:(1:Int)*2 ^ t.d.H.toNat=((2 ^ t.d.H.toNat:Nat):Int):=by simp
 have hw:=without23 t h s hs
 refine pureC_of_exec Tryz.E_ok Tryz.func9 rfl (by kernel_rfl) ?_
 (repeat' ((conv=>whnf);first|(with_reducible first|apply spl|apply spl'|refine iJ ?_)<;>intro hc<;>try(exfalso;omega)|refine vcq ?_|refine dr 20 ?_|refine dr 4 ?_));all_goals(try conv=>whnf);try exact trivial
 rw[emn,hshl]
 refine⟨fun _=>⟨by omega,show t.d.H.toNat≤64 by omega,inR_of (by omega) (by omega)⟩,?_⟩
 generalize 2 ^ t.d.H.toNat=N at *
 (repeat' ((conv=>whnf);first|(with_reducible first|apply spl|apply spl'|refine iJ ?_)<;>intro hc<;>try(exfalso;omega)|refine vcq ?_|refine dr 20 ?_|refine dr 4 ?_));all_goals(try conv=>whnf);try exact trivial
 refine pcall_intro (open22p t h hp _ _ ⟨by omega,by omega⟩) rfl ?_
 (repeat' ((conv=>whnf);first|(with_reducible first|apply spl|apply spl'|refine iJ ?_)<;>intro hc<;>try(exfalso;omega)|refine vcq ?_|refine dr 20 ?_|refine dr 4 ?_));all_goals(try conv=>whnf);try exact trivial
 refine callee_fo hw rfl ?_
 rintro _ rfl
 (repeat' ((conv=>whnf);first|(with_reducible first|apply spl|apply spl'|refine iJ ?_)<;>intro hc<;>try(exfalso;omega)|refine vcq ?_|refine dr 20 ?_|refine dr 4 ?_));all_goals(try conv=>whnf);try exact trivial
 refine⟨_,rfl,?_⟩
 (repeat' ((conv=>whnf);first|(with_reducible first|apply spl|apply spl'|refine iJ ?_)<;>intro hc<;>try(exfalso;omega)|refine vcq ?_|refine dr 20 ?_|refine dr 4 ?_));all_goals(try conv=>whnf);try exact trivial
theorem shr_bit1:∀s,s<16→∀k,k<4→(bitsI BinOp.and .i64 (((s:Nat):Int).fdiv (2 ^ ((k:Nat):Int).toNat)) 1=1↔s.testBit k=true):=by decide +kernel
theorem whole10 (t:Tr) (h:t.Ok) (s:Nat) (hs:s<2 ^ t.d.H.toNat-1) (hp:(t.less s).Poss) (h60:(t.less s).d.cnt≤60) (b:Nat) (hb:b<(t.less s).blks.length):PureC Tryz.prog 10 false [t.v,.agg (t.less s).c,.int .i64 s,.int .i64 b] (fun v=>∃m:Nat,t.whl s ((t.less s).blks.getD b 0) m∧v=.tup [.int .i64 m,.prop ((0:Int)=0) inferInstance]):=by
 have hH:=h.d.h
 have hs16:s<16:=by
  have:t.d.H.toNat=1∨t.d.H.toNat=2∨t.d.H.toNat=3∨t.d.H.toNat=4:=by omega
  rcases this with q|q|q|q<;>rw[q] at hs<;>omega
 have hu:=Tr.less_ok h (rk_pos _ (by omega) s hs)
 have hbg:=(Tr.blks_get (t.less s) hb).2.1
 obtain⟨K,hK,hKg,hKr,hKv⟩:=Tr.whl_ex h hbg
 have hwd:∀m,t.whl s ((t.less s).blks.getD b 0) m↔∃k,Tr.gv s k=false∧rk (Tr.gv s) k=((t.less s).lc ((t.less s).blks.getD b 0).toNat).2.1∧vld t.d ((t.less s).lc ((t.less s).blks.getD b 0).toNat).1 (k:Nat) ((t.less s).lc ((t.less s).blks.getD b 0).toNat).2.2∧m=numZ t.d ((t.less s).lc ((t.less s).blks.getD b 0).toNat).1 (k:Nat) ((t.less s).lc ((t.less s).blks.getD b 0).toNat).2.2:=fun _=>Iff.rfl
 generalize t.less s=u at *
 have hml:=mapL_len u
 have hW:=Where29 u.d hu.d h60 u.sp hu.sp u.mapL (Tr.mapL_ok u) (by omega) b hb
 change PureC _ _ _ _ (·=.tup [.int .i64 (u.blks.getD b 0),.int .i64 0]) at hW
 obtain⟨x,ex⟩:∃x:Nat,u.blks.getD b 0=x:=⟨(u.blks.getD b 0).toNat,by omega⟩
 rw[ex] at hW hwd hKr hKv hbg ⊢
 rw[Int.toNat_natCast] at hwd hKr hKv
 have hat:=at_loc (H:=u.d.H.toNat) (S:=u.d.S) (n:=x) (show x<u.d.cnt by omega)
 have hlc:u.lc x=loc u.d.H.toNat u.d.S x:=rfl
 rw[←hlc] at hat
 generalize u.lc x=p at *
 obtain⟨pc,ph,pz⟩:=p
 dsimp only at *
 refine pureC_of_exec Tryz.E_ok Tryz.func10 rfl (by kernel_rfl) ?_
 (repeat' ((conv=>whnf);first|(with_reducible first|apply spl|apply spl'|refine iJ ?_)<;>intro hc<;>try(exfalso;omega)|refine vcq ?_|refine dr 20 ?_|refine dr 4 ?_));all_goals(try conv=>whnf);try exact trivial
 refine callee_fo (Map28 u hu hp h60) rfl ?_
 rintro _ rfl
 (repeat' ((conv=>whnf);first|(with_reducible first|apply spl|apply spl'|refine iJ ?_)<;>intro hc<;>try(exfalso;omega)|refine vcq ?_|refine dr 20 ?_|refine dr 4 ?_));all_goals(try conv=>whnf);try exact trivial
 refine callee_view hW ?_
 (repeat' ((conv=>whnf);first|(with_reducible first|apply spl|apply spl'|refine iJ ?_)<;>intro hc<;>try(exfalso;omega)|refine vcq ?_|refine dr 20 ?_|refine dr 4 ?_));all_goals(try conv=>whnf);try exact trivial
 rintro _ rfl
 (repeat' ((conv=>whnf);first|(with_reducible first|apply spl|apply spl'|refine iJ ?_)<;>intro hc<;>try(exfalso;omega)|refine vcq ?_|refine dr 20 ?_|refine dr 4 ?_));all_goals(try conv=>whnf);try exact trivial
 refine callee_fo (Place73 u.d hu.d x pc ph pz hat) rfl ?_
 rintro _ rfl
 (repeat' ((conv=>whnf);first|(with_reducible first|apply spl|apply spl'|refine iJ ?_)<;>intro hc<;>try(exfalso;omega)|refine vcq ?_|refine dr 20 ?_|refine dr 4 ?_));all_goals(try conv=>whnf);try exact trivial
 refine⟨Nat,fun k=>k≤K,fun k=>K-k,fun k=>[(16,.int .i64 (k:Nat)),(17,.int .i64 ((ph:Int)-rk (Tr.gv s) k))]++anyS 53 15,fun _=>[],fun _=>[],0,⟨a2I _,none,?_⟩,?_⟩
 ·(repeat' ((conv=>whnf);first|(with_reducible first|apply spl|apply spl'|refine iJ ?_)<;>intro hc<;>try(exfalso;omega)|refine vcq ?_|refine dr 20 ?_|refine dr 4 ?_));all_goals(try conv=>whnf);try exact trivial
 ·intro k hk
  have hk:k≤K:=hk
  have hk4:k<4:=by omega
  have hb0:=shr_bit s hs16 k hk4
  have hb1:=shr_bit1 s hs16 k hk4
  have hrs:=rk_succ (Tr.gv s) k
  have hrm:=rk_mono (g:=Tr.gv s) hk
  have hgv:Tr.gv s k=s.testBit k:=rfl
  rw[←hgv] at hb0 hb1
  (repeat' ((conv=>whnf);first|(with_reducible first|apply spl|apply spl'|refine iJ ?_)<;>intro hc<;>try(exfalso;omega)|refine vcq ?_|refine dr 20 ?_|refine dr 4 ?_));all_goals(try conv=>whnf);try exact trivial
  refine⟨show(0:Int)≤(k:Nat)∧((k:Nat):Int)≤18446744073709551615 by omega,?_⟩
  (repeat' ((conv=>whnf);first|(with_reducible first|apply spl|apply spl'|refine iJ ?_)<;>intro hc<;>try(exfalso;omega)|refine vcq ?_|refine dr 20 ?_|refine dr 4 ?_));all_goals(try conv=>whnf);try exact trivial
  refine⟨⟨by omega,show((k:Nat):Int).toNat≤64 by omega⟩,?_⟩
  (repeat' ((conv=>whnf);first|(with_reducible first|apply spl|apply spl'|refine iJ ?_)<;>intro hc<;>try(exfalso;omega)|refine vcq ?_|refine dr 20 ?_|refine dr 4 ?_));all_goals(try conv=>whnf);try exact trivial
  ·have hkK:k<K:=by
    rcases Nat.lt_or_eq_of_le hk with q|q
    ·exact q
    ·subst q
     rcases hc with q|q
     ·rw[hb1.1 q] at hKg
      cases hKg
     ·omega
   clear hc
   refine⟨show(0:Int)≤(k:Nat)∧((k:Nat):Int)≤18446744073709551615 by omega,?_⟩
   (repeat' ((conv=>whnf);first|(with_reducible first|apply spl|apply spl'|refine iJ ?_)<;>intro hc<;>try(exfalso;omega)|refine vcq ?_|refine dr 20 ?_|refine dr 4 ?_));all_goals(try conv=>whnf);try exact trivial
   refine⟨⟨by omega,show((k:Nat):Int).toNat≤64 by omega⟩,?_⟩
   (repeat' ((conv=>whnf);first|(with_reducible first|apply spl|apply spl'|refine iJ ?_)<;>intro hc<;>try(exfalso;omega)|refine vcq ?_|refine dr 20 ?_|refine dr 4 ?_));all_goals(try conv=>whnf);try exact trivial
   ·rw[hb0.1 hc,if_neg Bool.false_ne_true] at hrs
    have hrK:=rk_le (Tr.gv s) K
    refine⟨inR_of (by omega) (by omega),?_⟩
    (repeat' ((conv=>whnf);first|(with_reducible first|apply spl|apply spl'|refine iJ ?_)<;>intro hc<;>try(exfalso;omega)|refine vcq ?_|refine dr 20 ?_|refine dr 4 ?_));all_goals(try conv=>whnf);try exact trivial
    refine⟨k+1,⟨by omega,by dsimp only;omega⟩,none,?_⟩
    (repeat' ((conv=>whnf);first|(with_reducible first|apply spl|apply spl'|refine iJ ?_)<;>intro hc<;>try(exfalso;omega)|refine vcq ?_|refine dr 20 ?_|refine dr 4 ?_));all_goals(try conv=>whnf);try exact trivial
   ·rename_i hy
    have hg1:Tr.gv s k=true:=by
     cases q:Tr.gv s k with
     |true=>rfl
     |false=>exact absurd (hb0.2 q) hy
    rw[hg1,if_pos rfl] at hrs
    refine⟨k+1,⟨by omega,by dsimp only;omega⟩,none,?_⟩
    (repeat' ((conv=>whnf);first|(with_reducible first|apply spl|apply spl'|refine iJ ?_)<;>intro hc<;>try(exfalso;omega)|refine vcq ?_|refine dr 20 ?_|refine dr 4 ?_));all_goals(try conv=>whnf);try exact trivial
  ·have hg0:Tr.gv s k=false:=by
    cases q:Tr.gv s k with
    |false=>rfl
    |true=>exact absurd (.inl (hb1.2 q)) hc
   have hkK:k=K:=by
    rcases Nat.lt_or_eq_of_le hk with q|q
    ·have:=rk_lt q hg0
     exact absurd (.inr (by omega)) hc
    ·exact q
   clear hc
   subst hkK
   (repeat' ((conv=>whnf);first|(with_reducible first|apply spl|apply spl'|refine iJ ?_)<;>intro hc<;>try(exfalso;omega)|refine vcq ?_|refine dr 20 ?_|refine dr 4 ?_));all_goals(try conv=>whnf);try exact trivial
   refine callee_fo (Number1 t.d h.d pc k pz) rfl ?_
   intro v hv
   rw[hv.1 hKv]
   (repeat' ((conv=>whnf);first|(with_reducible first|apply spl|apply spl'|refine iJ ?_)<;>intro hc<;>try(exfalso;omega)|refine vcq ?_|refine dr 20 ?_|refine dr 4 ?_));all_goals(try conv=>whnf);try exact trivial
   refine⟨_,⟨_,(hwd _).2 ⟨k,hKg,hKr,hKv,rfl⟩,rfl⟩,?_⟩
   (repeat' ((conv=>whnf);first|(with_reducible first|apply spl|apply spl'|refine iJ ?_)<;>intro hc<;>try(exfalso;omega)|refine vcq ?_|refine dr 20 ?_|refine dr 4 ?_));all_goals(try conv=>whnf);try exact trivial
theorem den_sl {I:Nat→Prop} {η:Eta} {w:World} {sz n:Nat} {f f':Nat→List V} {v:Value} (hf:∀i,i<n→∀vs,DenL I [] w (f i) vs→DenL I [] w (f' i) vs) (h:Den I η w (.sl sz n f) v):Den I η w (.sl sz n f') v:=by
 rcases h with h|⟨b,o,cap,h1,h2,h3,h4⟩
 ·exact .inl h
 ·refine .inr ⟨b,o,cap,h1,h2,h3,fun i hi=>?_⟩
  obtain⟨vs,k1,k2,k3,k4⟩:=h4 i hi
  exact⟨vs,k1,k2,k3,hf i hi vs k4⟩
theorem denL_at {I:Nat→Prop} {η:Eta} {w:World} {a b:V} (hab:∀v,Den I η w a v→Den I η w b v) {l2:List V}:∀{l1:List V} {vs:List Value},DenL I η w (l1++a :: l2) vs→DenL I η w (l1++b :: l2) vs
 |[],_,⟨v,r,h1,h2,h3⟩=>⟨v,r,h1,hab v h2,h3⟩
 |_ :: _,_,⟨v,r,h1,h2,h3⟩=>⟨v,r,h1,h2,denL_at hab h3⟩
theorem pureC_conv {P:Program} {g:FuncId} {keep:Bool} {args:List V} {a b:V} (h:PureC P g keep args (·=a)) (hab:∀I w v,Den I [] w a v→Den I [] w b v):PureC P g keep args (·=b):=by
 refine⟨h.1,fun I w vals hI hd=>(h.2 I w vals hI hd).mono ?_⟩
 rintro e w' ⟨ret,v,h1,rfl,h3,h4⟩
 exact⟨b,v,h1,rfl,hab _ _ _ h3,h4⟩
theorem Example21:PureC Tryz.prog 21 true [] (·=.agg (Dk.c exT.d)):=by
 refine pureC_of_exec Tryz.E_ok Tryz.func21 rfl (by kernel_rfl) ?_
 (repeat' ((conv=>whnf);first|(with_reducible first|apply spl|apply spl'|refine iJ ?_)<;>intro hc<;>try(exfalso;omega)|refine vcq ?_|fail));all_goals(try conv=>whnf);try exact trivial
 refine callee_exec Tryz.E_ok Tryz.func35 rfl (by kernel_rfl) ?_
 (repeat' ((conv=>whnf);first|(with_reducible first|apply spl|apply spl'|refine iJ ?_)<;>intro hc<;>try(exfalso;omega)|refine vcq ?_|fail));all_goals(try conv=>whnf);try exact trivial
 refine callee_exec Tryz.E_ok Tryz.func35 rfl (by kernel_rfl) ?_
 (repeat' ((conv=>whnf);first|(with_reducible first|apply spl|apply spl'|refine iJ ?_)<;>intro hc<;>try(exfalso;omega)|refine vcq ?_|fail));all_goals(try conv=>whnf);try exact trivial
 refine⟨_,rfl,?_⟩
 unfold Dk.c exT
 (repeat' ((conv=>whnf);first|(with_reducible first|apply spl|apply spl'|refine iJ ?_)<;>intro hc<;>try(exfalso;omega)|refine vcq ?_|fail));all_goals(try conv=>whnf);try exact trivial
 refine⟨fun i hi=>?_,.inl rfl,?_⟩
 ·have:i=0∨i=1:=by omega
  rcases this with rfl|rfl<;>rfl
 ·(repeat' ((conv=>whnf);first|(with_reducible first|apply spl|apply spl'|refine iJ ?_)<;>intro hc<;>try(exfalso;omega)|refine vcq ?_|fail));all_goals(try conv=>whnf);try exact trivial
def litC (l:List Int):List V:=[.sl 1 l.length (fun i=>get [] (l.map intC) i)]
theorem get_intC:∀(l:List Int) (i:Nat),i<l.length→get [] (l.map intC) i=rowOf intC 0 l i
 |[],_,h=>by cases h
 |_ :: _,0,_=>rfl
 |_ :: l,i+1,h=>get_intC l i (Nat.lt_of_succ_lt_succ h)
theorem litC_den {I:Nat→Prop} {η:Eta} {w:World} (l:List Int) (vs:List Value) (h:DenL I η w (litC l) vs):DenL I η w (lsC l) vs:=by
 obtain⟨v,r,h1,h2,h3⟩:=h
 exact⟨v,r,h1,den_sl (fun i hi vs q=>by rw[←get_intC l i hi];exact q) h2,h3⟩
def exA:List V:=[.int .i64 2,.int .i64 60,.sl 2 exT.d.Z.length (rowOf zC (0,0) exT.d.Z),.int .i64 10,.int .i64 25,.int .i64 4,.int .i64 12,.int .i64 20,.int .i64 30,.int .i64 1]
def exB (nd:Int):List V:=[.int .i64 1,.int .i64 0,.int .i64 1,.int .i64 1,.int .i64 5,.int .i64 nd]
theorem Example19:PureC Tryz.prog 19 true [] (·=.agg (exA++.sl 1 exT.P.length (rowOf lsC [] exT.P) :: exB 20)):=by
 have h:PureC Tryz.prog 19 true [] (·=.agg (exA++.sl 1 exT.P.length (fun i=>get [] (exT.P.map litC) i) :: exB 20)):=by
  refine pureC_of_exec Tryz.E_ok Tryz.func19 rfl (by kernel_rfl) ?_
  (repeat' ((conv=>whnf);first|(with_reducible first|apply spl|apply spl'|refine iJ ?_)<;>intro hc<;>try(exfalso;omega)|refine vcq ?_|fail));all_goals(try conv=>whnf);try exact trivial
  refine callee_fo Example21 rfl ?_
  rintro _ rfl
  (repeat' ((conv=>whnf);first|(with_reducible first|apply spl|apply spl'|refine iJ ?_)<;>intro hc<;>try(exfalso;omega)|refine vcq ?_|fail));all_goals(try conv=>whnf);try exact trivial
  refine⟨_,rfl,?_⟩
  unfold exA exB
  (repeat' ((conv=>whnf);first|(with_reducible first|apply spl|apply spl'|refine iJ ?_)<;>intro hc<;>try(exfalso;omega)|refine vcq ?_|fail));all_goals(try conv=>whnf);try exact trivial
 refine pureC_conv h fun I w v hv=>?_
 obtain⟨vs,h1,h2,h3⟩:=hv
 refine⟨vs,h1,h2,denL_at (fun v hv=>den_sl (fun i hi vs q=>?_) hv) h3⟩
 have hi:i<3:=hi
 have:i=0∨i=1∨i=2:=by omega
 rcases this with rfl|rfl|rfl<;>exact litC_den _ _ q
theorem held7:PureC Tryz.prog 7 false [] (·=.prop True inferInstance):=by
 have hR:=Rescue8 exT ex_ok ex_poss (by rw[ex_cnt];omega)
 rw[show exT.resc (2 ^ exT.d.H.toNat-1)=some (1,12) from ex_resc] at hR
 refine pureC_of_exec Tryz.E_ok Tryz.func7 rfl (by kernel_rfl) ?_
 (repeat' ((conv=>whnf);first|(with_reducible first|apply spl|apply spl'|refine iJ ?_)<;>intro hc<;>try(exfalso;omega)|refine vcq ?_|fail));all_goals(try conv=>whnf);try exact trivial
 refine callee_fo Example19 rfl ?_
 rintro _ rfl
 unfold exA exB
 (repeat' ((conv=>whnf);first|(with_reducible first|apply spl|apply spl'|refine iJ ?_)<;>intro hc<;>try(exfalso;omega)|refine vcq ?_|fail));all_goals(try conv=>whnf);try exact trivial
 refine callee_fo hR rfl ?_
 rintro _ rfl
 (repeat' ((conv=>whnf);first|(with_reducible first|apply spl|apply spl'|refine iJ ?_)<;>intro hc<;>try(exfalso;omega)|refine vcq ?_|fail));all_goals(try conv=>whnf);try exact trivial
 refine callee_fo Example21 rfl ?_
 rintro _ rfl
 (repeat' ((conv=>whnf);first|(with_reducible first|apply spl|apply spl'|refine iJ ?_)<;>intro hc<;>try(exfalso;omega)|refine vcq ?_|fail));all_goals(try conv=>whnf);try exact trivial
 refine callee_fo (Place73 exT.d ex_ok.d 22 1 1 4 ?_) rfl ?_
 ·exact⟨by decide +kernel,by decide +kernel,by decide +kernel,by decide +kernel⟩
 rintro _ rfl
 (repeat' ((conv=>whnf);first|(with_reducible first|apply spl|apply spl'|refine iJ ?_)<;>intro hc<;>try(exfalso;omega)|refine vcq ?_|fail));all_goals(try conv=>whnf);try exact trivial
 exact⟨_,rfl,⟨fun _=>trivial,fun _=>by decide⟩,trivial⟩
theorem lessL_len (H:Nat) (S:List Nat) (g:Nat→Bool) (l:List Int):(lessL H S g l).length≤l.length:=by
 unfold lessL
 rw[List.length_map]
 exact List.length_filter_le ..
theorem less_near {t:Tr} (h:t.Near) (s:Nat):(t.less s).Near:=by
 have e:(t.less s).P.length=t.P.length:=List.length_map ..
 refine⟨h.z,by rw[e];exact h.p,fun i hi=>?_⟩
 rw[e] at hi
 rw[less_P t s hi]
 exact Nat.le_trans (lessL_len ..) (h.l i hi)
theorem topHeld3 (t:Tr) (hz:t.d.Z.length≤9223372036854775807) (hp:t.P.length≤9223372036854775807) (hl:∀i,i<t.P.length→(t.P.getD i []).length≤9223372036854775807) (B:List Int) (hB:B.length≤9223372036854775807) (a b:Int):PureC Tryz.prog 3 false [t.v,.agg [.sl 1 B.length (rowOf intC 0 B),.int .i64 a,.int .i64 b]] (·=.prop True inferInstance):=by
 refine pureC_of_exec Tryz.E_ok Tryz.func3 rfl (by kernel_rfl) ?_
 (repeat' ((conv=>whnf);first|(with_reducible first|apply spl|apply spl'|refine iJ ?_)<;>intro hc<;>try(exfalso;omega)|refine vcq ?_|fail));all_goals(try conv=>whnf);try exact trivial
 refine callee_fo (Far4 t hz hp hl) rfl ?_
 rintro v (rfl|⟨rfl,hn,hf⟩)
 ·(repeat' ((conv=>whnf);first|(with_reducible first|apply spl|apply spl'|refine iJ ?_)<;>intro hc<;>try(exfalso;omega)|refine vcq ?_|fail));all_goals(try conv=>whnf);try exact trivial
  refine callee_fo held7 rfl ?_
  rintro _ rfl
  (repeat' ((conv=>whnf);first|(with_reducible first|apply spl|apply spl'|refine iJ ?_)<;>intro hc<;>try(exfalso;omega)|refine vcq ?_|fail));all_goals(try conv=>whnf);try exact trivial
  refine⟨_,rfl,?_⟩
  (repeat' ((conv=>whnf);first|(with_reducible first|apply spl|apply spl'|refine iJ ?_)<;>intro hc<;>try(exfalso;omega)|refine vcq ?_|fail));all_goals(try conv=>whnf);try exact trivial
 ·(repeat' ((conv=>whnf);first|(with_reducible first|apply spl|apply spl'|refine iJ ?_)<;>intro hc<;>try(exfalso;omega)|refine vcq ?_|fail));all_goals(try conv=>whnf);try exact trivial
  refine callee_fo (CheckTruth5 t hn) rfl ?_
  rintro _ rfl
  (repeat' ((conv=>whnf);first|(with_reducible first|apply spl|apply spl'|refine iJ ?_)<;>intro hc<;>try(exfalso;omega)|refine vcq ?_|fail));all_goals(try conv=>whnf);try exact trivial
  ·have he:t.err=0:=Int.eq_iff_le_and_ge.2 (by omega)
   obtain⟨h,hps⟩:=Tr.err_ok he
   have h60:=(hf h.d).1
   have hbl:B.length≤100:=by omega
   clear hc
   refine callee_fo (IsPossible6 t h hn B (by omega)) rfl ?_
   rintro _ rfl
   (repeat' ((conv=>whnf);first|(with_reducible first|apply spl|apply spl'|refine iJ ?_)<;>intro hc<;>try(exfalso;omega)|refine vcq ?_|fail));all_goals(try conv=>whnf);try exact trivial
   ·clear hc
    refine callee_fo held7 rfl ?_
    rintro _ rfl
    (repeat' ((conv=>whnf);first|(with_reducible first|apply spl|apply spl'|refine iJ ?_)<;>intro hc<;>try(exfalso;omega)|refine vcq ?_|fail));all_goals(try conv=>whnf);try exact trivial
    refine⟨_,rfl,?_⟩
    (repeat' ((conv=>whnf);first|(with_reducible first|apply spl|apply spl'|refine iJ ?_)<;>intro hc<;>try(exfalso;omega)|refine vcq ?_|fail));all_goals(try conv=>whnf);try exact trivial
   ·have hPB:t.PossB B:=Classical.not_not.1 hc
    clear hc
    have hR:=Rescue8 t h hps h60
    have hrk:=fun s n=>Tr.resc_ok (t:=t) (s:=s) (n:=n) (k:=2 ^ t.d.H.toNat-1)
    have hH:=h.d.h
    generalize t.resc (2 ^ t.d.H.toNat-1)=r at *
    refine callee_fo hR rfl ?_
    rintro _ rfl
    rcases r with _|⟨s,n⟩
    ·(repeat' ((conv=>whnf);first|(with_reducible first|apply spl|apply spl'|refine iJ ?_)<;>intro hc<;>try(exfalso;omega)|refine vcq ?_|fail));all_goals(try conv=>whnf);try exact trivial
     refine callee_fo held7 rfl ?_
     rintro _ rfl
     (repeat' ((conv=>whnf);first|(with_reducible first|apply spl|apply spl'|refine iJ ?_)<;>intro hc<;>try(exfalso;omega)|refine vcq ?_|fail));all_goals(try conv=>whnf);try exact trivial
     refine⟨_,rfl,?_⟩
     (repeat' ((conv=>whnf);first|(with_reducible first|apply spl|apply spl'|refine iJ ?_)<;>intro hc<;>try(exfalso;omega)|refine vcq ?_|fail));all_goals(try conv=>whnf);try exact trivial
    ·obtain⟨hs,hok,hcn⟩:=hrk s n rfl
     clear hrk
     have hrp:=rk_pos _ (by omega) s hs
     have hu:=Tr.less_ok h hrp
     have hup:=Tr.less_poss h hps s
     have hu60:=less_60 h60 s
     have hCT:=CheckTruth5 (t.less s) (less_near hn s)
     rw[Tr.err_of hu hup] at hCT
     have hnd:t.nd≤(t.less s).blks.length:=hok.2.1
     have hcap:n=(t.less s).blks.length:=hcn
     have hw:=whole10 t h s hs hup hu60
     have hld:=fun a b ha hb hab m n=>Tr.held (m:=m) (n:=n) h hrp hPB (a:=a) (b:=b) ha hb hab
     clear hok hcn
     (repeat' ((conv=>whnf);first|(with_reducible first|apply spl|apply spl'|refine iJ ?_)<;>intro hc<;>try(exfalso;omega)|refine vcq ?_|fail));all_goals(try conv=>whnf);try exact trivial
     refine callee_fo (Without9 t h hps s hs) rfl ?_
     rintro _ rfl
     (repeat' ((conv=>whnf);first|(with_reducible first|apply spl|apply spl'|refine iJ ?_)<;>intro hc<;>try(exfalso;omega)|refine vcq ?_|fail));all_goals(try conv=>whnf);try exact trivial
     refine callee_fo hCT rfl ?_
     rintro _ rfl
     clear hCT
     (repeat' ((conv=>whnf);first|(with_reducible first|apply spl|apply spl'|refine iJ ?_)<;>intro hc<;>try(exfalso;omega)|refine vcq ?_|fail));all_goals(try conv=>whnf);try exact trivial
     ·clear hc
      refine callee_fo held7 rfl ?_
      rintro _ rfl
      (repeat' ((conv=>whnf);first|(with_reducible first|apply spl|apply spl'|refine iJ ?_)<;>intro hc<;>try(exfalso;omega)|refine vcq ?_|fail));all_goals(try conv=>whnf);try exact trivial
      refine⟨_,rfl,?_⟩
      (repeat' ((conv=>whnf);first|(with_reducible first|apply spl|apply spl'|refine iJ ?_)<;>intro hc<;>try(exfalso;omega)|refine vcq ?_|fail));all_goals(try conv=>whnf);try exact trivial
     ·dsimp only at hc
      obtain⟨x,rfl⟩:∃x:Nat,a=x:=⟨a.toNat,by omega⟩
      obtain⟨y,rfl⟩:∃y:Nat,b=y:=⟨b.toNat,by omega⟩
      refine callee_fo (hw x (by omega)) rfl ?_
      rintro _ ⟨m,hm,rfl⟩
      (repeat' ((conv=>whnf);first|(with_reducible first|apply spl|apply spl'|refine iJ ?_)<;>intro hc<;>try(exfalso;omega)|refine vcq ?_|fail));all_goals(try conv=>whnf);try exact trivial
      refine callee_fo (hw y (by omega)) rfl ?_
      rintro _ ⟨k,hk,rfl⟩
      obtain⟨e1,e2,e3⟩:=hld x y (by omega) (by omega) (by omega) m k hm hk
      clear hld hw
      (repeat' ((conv=>whnf);first|(with_reducible first|apply spl|apply spl'|refine iJ ?_)<;>intro hc<;>try(exfalso;omega)|refine vcq ?_|fail));all_goals(try conv=>whnf);try exact trivial
      refine callee_fo (In11 B (by omega) m) rfl ?_
      rintro _ rfl
      (repeat' ((conv=>whnf);first|(with_reducible first|apply spl|apply spl'|refine iJ ?_)<;>intro hc<;>try(exfalso;omega)|refine vcq ?_|fail));all_goals(try conv=>whnf);try exact trivial
      ·refine callee_fo (In11 B (by omega) k) rfl ?_
       rintro _ rfl
       (repeat' ((conv=>whnf);first|(with_reducible first|apply spl|apply spl'|refine iJ ?_)<;>intro hc<;>try(exfalso;omega)|refine vcq ?_|fail));all_goals(try conv=>whnf);try exact trivial
       ·refine callee_fo held7 rfl ?_
        rintro _ rfl
        (repeat' ((conv=>whnf);first|(with_reducible first|apply spl|apply spl'|refine iJ ?_)<;>intro hc<;>try(exfalso;omega)|refine vcq ?_|fail));all_goals(try conv=>whnf);try exact trivial
        refine⟨_,rfl,?_⟩
        refine⟨⟨fun _=>trivial,fun _=>?_⟩,trivial⟩
        trivial
       ·exact absurd e3 hc
      ·exact absurd e2 hc
  ·clear hc
   refine callee_fo held7 rfl ?_
   rintro _ rfl
   (repeat' ((conv=>whnf);first|(with_reducible first|apply spl|apply spl'|refine iJ ?_)<;>intro hc<;>try(exfalso;omega)|refine vcq ?_|fail));all_goals(try conv=>whnf);try exact trivial
   refine⟨_,rfl,?_⟩
   (repeat' ((conv=>whnf);first|(with_reducible first|apply spl|apply spl'|refine iJ ?_)<;>intro hc<;>try(exfalso;omega)|refine vcq ?_|fail));all_goals(try conv=>whnf);try exact trivial
end Tp
end Go.Proofs
