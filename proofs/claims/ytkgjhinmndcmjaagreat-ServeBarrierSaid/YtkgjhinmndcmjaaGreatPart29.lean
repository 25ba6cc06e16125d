/- Own work: texts of the proof of a law (Wq8, Wq9, Wq10, SzYc, WqC0, WqC1, WqC2, WqC3, WqC4, WqD1, WqD2, WqD3, WqD4). No condition. -/
import Derived.Test.YtkgjhinmndcmjaaGreatPart28
import Derived.Test.YtkgjhinmndcmjaaGreatPart13
import Derived.Test.YtkgjhinmndcmjaaGreatPart0
set_option linter.unusedVariables false
set_option linter.unusedSimpArgs false
namespace Go.Proofs
open Go Go.Sx
set_option maxRecDepth 100000
set_option maxHeartbeats 40000000
theorem Dk.run_lin (d:Dk) (hi:Bool) (fr ct:Nat):d.run hi fr ct=sumR (durS d.H.toNat d.S d.T) fr ct+(d.gapK hi 1*sumR (isK d.H.toNat d.S 1) (fr+1) (ct-1)+d.gapK hi 2*sumR (isK d.H.toNat d.S 2) (fr+1) (ct-1)):=by
 unfold Dk.run
 rw[sumR_lin (isK d.H.toNat d.S 1) (isK d.H.toNat d.S 2) (fun i=>d.gapK hi (kindS d.H.toNat d.S i)) (d.gapK hi 1) (d.gapK hi 2) (fr+1)]
 intro i
 have hk:kindS d.H.toNat d.S i=0∨kindS d.H.toNat d.S i=1∨kindS d.H.toNat d.S i=2:=by have:d.kd i≤2:=d.kd_le i;unfold Dk.kd at this;omega
 unfold isK
 rcases hk with h|h|h<;>simp[h,Dk.gapK]
def spTo (t a b:Int):Nat→Int
 |0=>t
 |1=>t+a
 |_=>t+(a+b)
theorem spTo0 (t a b:Int):spTo t a b 0=t:=rfl
theorem spTo1 (t a b:Int):spTo t a b 1=t+a:=rfl
theorem span90 (d:Dk) (hd:d.Ok) (fr ct:Nat) (h1:1≤ct) (h2:fr+ct≤d.cnt):a0g Tryz.prog 171 false [d.v,.int .i64 fr,.int .i64 ct] (fun r=>∃L:Int,r=.tup [.agg [.int .i64 (d.run false fr ct),.int .i64 (d.run true fr ct)],.int .i64 L]):=by
 have hcn:=d.cnt_le hd
 have hT:=hd.t
 have hhk:=hd.hk
 have hck:=hd.ck
 have hhs:=hd.hs
 have hcs:=hd.cs
 unfold Dk.SpanOk at hhs hcs
 have hb0:=Dk.sumR_bnd _ 1000 fr (Dk.dur_bnd hd) ct
 have hn1:=Dk.sumR_bnd (isK d.H.toNat d.S 1) 1 (fr+1) (fun i=>by unfold isK;split<;>omega) (ct-1)
 have hn2:=Dk.sumR_bnd (isK d.H.toNat d.S 2) 1 (fr+1) (fun i=>by unfold isK;split<;>omega) (ct-1)
 have g1:=Dk.gapK_le hd 1
 have g2:=Dk.gapK_le hd 2
 rw[Dk.run_lin,Dk.run_lin]
 have q1:d.gapK false 1=d.gapOf d.hk d.hs.1:=rfl
 have q2:d.gapK true 1=d.gapOf d.hk d.hs.2:=rfl
 have q3:d.gapK false 2=d.gapOf d.ck d.cs.1:=rfl
 have q4:d.gapK true 2=d.gapOf d.ck d.cs.2:=rfl
 refine a0a Tryz.E_ok Tryz.func171 rfl (by kernel_rfl) ?_
 refine x2 ?_
 refine a0b (run104 d hd fr ct h1 h2) rfl ?_
 rintro _ rfl
 generalize sumR (isK d.H.toNat d.S 1) (fr+1) (ct-1)=n1 at *
 generalize sumR (isK d.H.toNat d.S 2) (fr+1) (ct-1)=n2 at *
 generalize sumR (durS d.H.toNat d.S d.T) fr ct=tk at *
 refine x2 ?_
 refine a0b (changes105 d) rfl ?_
 rintro _ rfl
 refine x2 ?_
 have p1:=a2r (a:=d.gapOf d.hk d.hs.1) (b:=n1) (m:=3000) (n:=6000) (by omega) (by omega) (by omega) (by omega)
 have p2:=a2r (a:=d.gapOf d.hk d.hs.2) (b:=n1) (m:=3000) (n:=6000) (by omega) (by omega) (by omega) (by omega)
 have p4:=a2r (a:=d.gapOf d.ck d.cs.1) (b:=n2) (m:=3000) (n:=6000) (by omega) (by omega) (by omega) (by omega)
 have p5:=a2r (a:=d.gapOf d.ck d.cs.2) (b:=n2) (m:=3000) (n:=6000) (by omega) (by omega) (by omega) (by omega)
 rw[q1,q2,q3,q4]
 clear q1 q2 q3 q4 g1 g2
 refine⟨Nat×Int,fun q=>q.1≤2∧0≤q.2∧q.2≤q.1*20000000,fun q=>2-q.1,fun q=>[(28,.int .i64 (q.1:Nat)),(7,.int .i64 q.2)],fun q=>[(1,.cells 27 [.int .i64 (spTo tk (d.gapOf d.hk d.hs.1*n1) (d.gapOf d.ck d.cs.1*n2) q.1),.int .i64 (spTo tk (d.gapOf d.hk d.hs.2*n1) (d.gapOf d.ck d.cs.2*n2) q.1)])],fun _=>[],(0,0),⟨⟨by dsimp only;omega,by simp,by simp⟩,some [some 0,some 1,some 2],?_⟩,?_⟩
 ·exact xc4
 ·rintro⟨i,L⟩ ⟨hi,hL1,hL2⟩
  dsimp only at hi hL1 hL2
  have h3:i=0∨i=1∨i=2:=by omega
  rcases h3 with rfl|rfl|rfl
  ·refine x2 (fun hc=>?_)
   refine a0b (gap106 d hd d.hk d.hs.1 (by omega) (by omega)) rfl ?_
   rintro _ ⟨m1,hm1,rfl⟩
   refine x2 ?_
   refine a0b (gap106 d hd d.hk d.hs.2 (by omega) (by omega)) rfl ?_
   rintro _ ⟨m2,hm2,rfl⟩
   have p3:=a2r (a:=(m2:Int)) (b:=n1) (m:=2000) (n:=6000) (by omega) (by omega) (by omega) (by omega)
   dsimp only
   rw[spTo0 tk (d.gapOf d.hk d.hs.1*n1),spTo0 tk (d.gapOf d.hk d.hs.2*n1)]
   refine x2 ?_
   refine⟨(1,L+m2*n1),⟨⟨by dsimp only;omega,by dsimp only;omega,by dsimp only;omega⟩,by dsimp only;omega⟩,some [some 0,some 1,some 2],?_⟩
   exact xc4
  ·refine x2 (fun hc=>?_)
   refine a0b (gap106 d hd d.ck d.cs.1 (by omega) (by omega)) rfl ?_
   rintro _ ⟨m1,hm1,rfl⟩
   refine x2 ?_
   refine a0b (gap106 d hd d.ck d.cs.2 (by omega) (by omega)) rfl ?_
   rintro _ ⟨m2,hm2,rfl⟩
   have p3:=a2r (a:=(m2:Int)) (b:=n2) (m:=2000) (n:=6000) (by omega) (by omega) (by omega) (by omega)
   dsimp only
   rw[spTo1 tk (d.gapOf d.hk d.hs.1*n1),spTo1 tk (d.gapOf d.hk d.hs.2*n1)]
   refine x2 ?_
   refine⟨(2,L+m2*n2),⟨⟨by dsimp only;omega,by dsimp only;omega,by dsimp only;omega⟩,by dsimp only;omega⟩,some [some 0,some 1,some 2],?_⟩
   refine x2 ?_
   refine⟨by rw[Int.add_assoc];rfl,?_⟩
   refine x2 ?_
   refine⟨by rw[Int.add_assoc];rfl,?_⟩
   exact xc4
  ·refine x2 (fun hc=>?_)
   refine⟨_,⟨L,rfl⟩,?_⟩
   exact xc4
theorem Run75 (d:Dk) (hd:d.Ok) (fr ct:Nat) (h1:1≤ct) (h2:fr+ct≤d.cnt):a0g Tryz.prog 141 false [d.v,.int .i64 fr,.int .i64 ct] (·=.tup [.agg [.int .i64 (d.run false fr ct),.int .i64 (d.run true fr ct)],.int .i64 0]):=by
 have hcn:=d.cnt_le hd
 refine a0a Tryz.E_ok Tryz.func141 rfl (by kernel_rfl) ?_
 refine x2 ?_
 refine a0b (open88 d hd) rfl ?_
 rintro _ rfl
 refine x2 (fun hc=>?_)
 refine a0b (size89 d hd) rfl ?_
 rintro _ rfl
 refine x2 (fun hc=>?_)
 refine a0b (span90 d hd fr ct h1 h2) rfl ?_
 rintro _ ⟨L,rfl⟩
 refine x2 ?_
 refine⟨_,rfl,?_⟩
 exact xc4
def rqC (r:Rq):List V:=[.int .i64 r.fr,.int .i64 r.ct,.int .i64 r.t0,.int .i64 r.du,.prop (r.od=true) inferInstance]
namespace Qu
def c (q:Qu):List V:=[.int .i64 q.d.H,.int .i64 q.d.T,.sl 2 q.d.Z.length (a0e zC (0,0) q.d.Z),.int .i64 q.d.hk,.int .i64 q.d.ck,.int .i64 q.d.hs.1,.int .i64 q.d.hs.2,.int .i64 q.d.cs.1,.int .i64 q.d.cs.2,.int .i64 q.cyl,.int .i64 q.pas,.sl 2 q.sk.length (a0e zC (0,0) q.sk),.sl 5 q.rq.length (a0e rqC Rq.none q.rq)]
def v (q:Qu):V:=.agg q.c
end Qu
theorem low33 (s:Int×Int):a0g Tryz.prog 60 false [.agg [.int .i64 s.1,.int .i64 s.2]] (·=.int .i64 s.1):=by
 refine a0a Tryz.E_ok Tryz.func60 rfl (by kernel_rfl) ?_
 refine x51 ?_
 refine⟨_,rfl,?_⟩
 exact xc67
theorem high34 (s:Int×Int):a0g Tryz.prog 61 false [.agg [.int .i64 s.1,.int .i64 s.2]] (·=.int .i64 s.2):=by
 refine a0a Tryz.E_ok Tryz.func61 rfl (by kernel_rfl) ?_
 refine x51 ?_
 refine⟨_,rfl,?_⟩
 exact xc67
theorem next_eq {T:Int} (hT:0<T) {a t:Int} (ha:0≤a) (ht:0≤t):(a-t.tmod T+T).tmod T=((a-t) % T+T) % T:=by
 have h1:=Int.emod_lt_of_pos t hT
 rw[a1I ht,a1I (by omega),Int.add_emod_right,Int.add_emod_right,Int.emod_emod_of_dvd _ (Int.dvd_refl T)]
 have e:=Int.mul_ediv_add_emod t T
 rw[show a-t % T=(a-t)+T*(t / T) by omega,Int.add_mul_emod_self_left]
theorem tm_facts {T:Int} (hT:0<T) {a t:Int} (ha:0≤a) (ht:0≤t):(0≤t.tmod T∧t.tmod T<T)∧(a-t.tmod T+T).tmod T=((a-t) % T+T) % T∧0≤(a-t.tmod T+T).tmod T∧(a-t.tmod T+T).tmod T<T:=by
 have e:=next_eq hT ha ht
 refine⟨?_,e,?_⟩
 ·rw[a1I ht]
  exact⟨Int.emod_nonneg _ (by omega),Int.emod_lt_of_pos _ hT⟩
 ·rw[e]
  exact⟨Int.emod_nonneg _ (by omega),Int.emod_lt_of_pos _ hT⟩
theorem Dk.ang_bnd {d:Dk} (hd:d.Ok) (n:Nat):0≤d.ang n∧d.ang n<d.T:=by
 have:=hd.t
 unfold ang
 exact⟨Int.emod_nonneg _ (by omega),Int.emod_lt_of_pos _ (by omega)⟩
theorem serve53 (q:Qu) (hq:q.Ok) (hi:Bool) (c r:Nat) (t:Int) (hr:r<q.rq.length) (hc0:c<q.d.S.length) (ht:0≤t∧t≤1000000000) :
  a0g Tryz.prog 95 false [q.v,.agg [.int .i64 c,.int .i64 t],.int .i64 r,.fn (.func (if hi then 61 else 60)) [] []]
   (·=.agg [.int .i64 (q.cy ((q.req r).fr+(q.req r).ct-1)),.int .i64 (q.srv r t (Qu.pick hi (q.sek c (q.cy (q.req r).fr))) (q.rn hi r))]):=by
 have hok:=hq.rq _ (Qu.req_mem hr)
 have hcn:=q.d.cnt_le hq.d
 have hS:=q.d.S_len hq.d
 have hT:=hq.d.t
 have hskl:=hq.skl
 unfold Qu.RqOk at hok
 unfold Qu.srv Qu.rn
 have htr:(r:Int).toNat=r:=a0E r
 have hrq:q.rq.getD (r:Int).toNat Rq.none=q.req r:=by rw[htr];rfl
 obtain⟨fr,hfr⟩:∃n:Nat,(q.req r).fr=n:=⟨(q.req r).fr.toNat,by omega⟩
 obtain⟨ct,hct⟩:∃n:Nat,(q.req r).ct=n:=⟨(q.req r).ct.toNat,by omega⟩
 generalize q.req r=x at *
 obtain⟨xf,xc,x0,xd,xo⟩:=x
 dsimp only at hfr hct hok
 subst hfr hct
 dsimp only
 have hat1:=at_loc (H:=q.d.H.toNat) (S:=q.d.S) (n:=fr) (by show fr<q.d.cnt;omega)
 have hat2:=at_loc (H:=q.d.H.toNat) (S:=q.d.S) (n:=fr+ct-1) (by show fr+ct-1<q.d.cnt;omega)
 have e2:(fr:Int)+(ct:Int)-1=((fr+ct-1:Nat):Int):=by omega
 have hcy1':(loc q.d.H.toNat q.d.S fr).1=q.cy (fr:Int):=rfl
 have hcy2':(loc q.d.H.toNat q.d.S (fr+ct-1)).1=q.cy ((fr+ct-1:Nat):Int):=rfl
 have hb1:q.cy (fr:Int)<q.d.S.length:=hat1.1
 have e3:∀c1:Nat,(max ((c1:Int)-(c:Int)) ((c:Int)-(c1:Int))).toNat=max (c-c1) (c1-c):=fun c1=>by omega
 rw[e2,a0E,a0E]
 refine a0a Tryz.E_ok Tryz.func95 rfl (by kernel_rfl) ?_
 cases hi
 ·have hpk:Qu.pick false (q.sek c (q.cy (fr:Int)))=(q.sek c (q.cy (fr:Int))).1:=rfl
  have hrr:=q.d.run_bnd hq.d fr ct (by omega)
  refine x51 ?_
  rw[hrq]
  dsimp only
  refine a0b (Place73 q.d hq.d fr _ _ _ hat1) rfl ?_
  rintro _ rfl
  refine x51 ?_
  rw[e2]
  refine a0b (Place73 q.d hq.d (fr+ct-1) _ _ _ hat2) rfl ?_
  rintro _ rfl
  rw[hcy1',hcy2']
  generalize hc1:q.cy (fr:Int)=c1 at *
  generalize hc2:q.cy ((fr+ct-1:Nat):Int)=c2 at *
  refine x62 ?_
  rw[e3]
  have hsk:q.sk.getD (max (c-c1) (c1-c)) (0,0)=q.sek c c1:=rfl
  rw[hsk]
  have hsb:=Qu.sek_bnd hq c c1
  generalize q.sek c c1=sp at *
  refine a0d (low33 sp) rfl ?_
  refine x62 ?_
  refine a0b (Angle74 q.d hq.d fr _ _ _ hat1) rfl ?_
  rintro _ rfl
  obtain⟨w2,w3,w4⟩:=tm_facts (T:=q.d.T) (by omega) (a:=q.d.ang fr) (q.d.ang_bnd hq.d fr).1 (t:=max t x0+sp.1) (by omega)
  have hang:=q.d.ang_bnd hq.d fr
  have w5:nextT q.d.T (q.d.ang fr) (max t x0+Qu.pick false sp)=max t x0+sp.1+((q.d.ang fr-(max t x0+sp.1)) % q.d.T+q.d.T) % q.d.T:=by rw[hpk];rfl
  rw[w5,←w3]
  clear w3 w5
  (repeat' ((conv=>whnf);first|(with_reducible first|apply spl|apply spl'|refine iJ ?_)<;>intro hc<;>try(exfalso;omega)|refine vcq ?_|refine dr 23 ?_));all_goals(try conv=>whnf);try exact trivial
  refine a0b (Run75 q.d hq.d fr ct (by omega) (by omega)) rfl ?_
  rintro _ rfl
  refine x2 ?_
  refine a0d (low33 (q.d.run false fr ct,q.d.run true fr ct)) rfl ?_
  refine x2 ?_
  refine⟨_,rfl,?_⟩
  exact xc67
 ·have hpk:Qu.pick true (q.sek c (q.cy (fr:Int)))=(q.sek c (q.cy (fr:Int))).2:=rfl
  have hrr:=q.d.run_bnd hq.d fr ct (by omega)
  refine x51 ?_
  rw[hrq]
  dsimp only
  refine a0b (Place73 q.d hq.d fr _ _ _ hat1) rfl ?_
  rintro _ rfl
  refine x51 ?_
  rw[e2]
  refine a0b (Place73 q.d hq.d (fr+ct-1) _ _ _ hat2) rfl ?_
  rintro _ rfl
  rw[hcy1',hcy2']
  generalize hc1:q.cy (fr:Int)=c1 at *
  generalize hc2:q.cy ((fr+ct-1:Nat):Int)=c2 at *
  refine x62 ?_
  rw[e3]
  have hsk:q.sk.getD (max (c-c1) (c1-c)) (0,0)=q.sek c c1:=rfl
  rw[hsk]
  have hsb:=Qu.sek_bnd hq c c1
  generalize q.sek c c1=sp at *
  refine a0d (high34 sp) rfl ?_
  refine x62 ?_
  refine a0b (Angle74 q.d hq.d fr _ _ _ hat1) rfl ?_
  rintro _ rfl
  obtain⟨w2,w3,w4⟩:=tm_facts (T:=q.d.T) (by omega) (a:=q.d.ang fr) (q.d.ang_bnd hq.d fr).1 (t:=max t x0+sp.2) (by omega)
  have hang:=q.d.ang_bnd hq.d fr
  have w5:nextT q.d.T (q.d.ang fr) (max t x0+Qu.pick true sp)=max t x0+sp.2+((q.d.ang fr-(max t x0+sp.2)) % q.d.T+q.d.T) % q.d.T:=by rw[hpk];rfl
  rw[w5,←w3]
  clear w3 w5
  (repeat' ((conv=>whnf);first|(with_reducible first|apply spl|apply spl'|refine iJ ?_)<;>intro hc<;>try(exfalso;omega)|refine vcq ?_|refine dr 23 ?_));all_goals(try conv=>whnf);try exact trivial
  refine a0b (Run75 q.d hq.d fr ct (by omega) (by omega)) rfl ?_
  rintro _ rfl
  refine x2 ?_
  refine a0d (high34 (q.d.run false fr ct,q.d.run true fr ct)) rfl ?_
  refine x2 ?_
  refine⟨_,rfl,?_⟩
  exact xc67
def natC (n:Nat):List V:=[.int .i64 n]
namespace Qu
def endTo (q:Qu) (hi:Bool) (o:List Nat) (i r:Nat):Int:=if r∈o.take i then(q.stQ hi o (o.idxOf r+1)).2 else 0
theorem endTo_all (q:Qu) (hi:Bool) (o:List Nat) (r:Nat):q.endTo hi o o.length r=q.endOf hi o r:=by unfold endTo endOf;rw[List.take_length]
theorem endTo_succ {q:Qu} {hi:Bool} {o:List Nat} (ho:IsOrd q.rq.length o) {i:Nat} (hil:i<o.length) (r:Nat):q.endTo hi o (i+1) r=if r=o.getD i 0 then(q.stQ hi o (i+1)).2 else q.endTo hi o i r:=by
 unfold endTo
 rw[a1D hil,←a1a hil]
 by_cases h:r=o.getD i 0
 ·rw[if_pos h,if_pos (by rw[h];simp),h,idxOf_getD ho hil]
 ·rw[if_neg h]
  have e:r∈o.take i++[o.getD i 0]↔r∈o.take i:=by rw[a0U,a1B];exact⟨fun g=>g.elim id (fun g=>absurd g h),.inl⟩
  simp only[e]
end Qu
theorem ends32 (q:Qu) (hq:q.Ok) (hi:Bool) (o:List Nat) (ho:IsOrd q.rq.length o):a0g Tryz.prog 59 false [q.v,.sl 1 o.length (a0e natC 0 o),.fn (.func (if hi then 61 else 60)) [] []] (·=.sl 1 q.rq.length (fun r=>[.int .i64 (q.endOf hi o r)])):=by
 have hlen:=ho.len
 have hn:=hq.rql
 have hcy:=hq.cyl
 refine a0a Tryz.E_ok Tryz.func59 rfl (by kernel_rfl) ?_
 refine x1 ?_
 refine⟨Nat,fun i=>i≤o.length,fun i=>o.length-i,fun i=>[(22,.int .i64 (i:Nat))],fun i=>[(1,.row 3 1 q.rq.length (fun r=>[.int .i64 (q.endTo hi o i r)]) false),(2,.cells 158 [.int .i64 (q.stQ hi o i).1,.int .i64 (q.stQ hi o i).2])],fun _=>[],0,⟨by omega,some [some 0,some 1,some 2],?_⟩,?_⟩
 ·refine x1 ?_
  refine⟨show q.cyl=((q.cyl.toNat:Nat):Int) by omega,?_⟩
  exact xc0
 ·intro i hi0
  have hi0:i≤o.length:=hi0
  have hti:(i:Int).toNat=i:=a0E i
  have hb:=Qu.stQ_bnd hq hi ho.lt i hi0
  refine x3 (fun hc=>?_) (fun hc=>?_)
  ·have hil:i<o.length:=by omega
   have hr:o.getD i 0<q.rq.length:=by rw[a1a hil];exact ho.lt _ (a0N hil)
   have hsv:=serve53 q hq hi (q.stQ hi o i).1 (o.getD i 0) (q.stQ hi o i).2 hr hb.1 (by omega)
   have he:=Qu.endTo_succ (q:=q) (hi:=hi) ho hil
   rw[hti]
   refine a0b hsv rfl ?_
   rintro _ rfl
   have hst:q.stQ hi o (i+1)=(q.cy ((q.req (o.getD i 0)).fr+(q.req (o.getD i 0)).ct-1),q.srv (o.getD i 0) (q.stQ hi o i).2 (Qu.pick hi (q.sek (q.stQ hi o i).1 (q.cy (q.req (o.getD i 0)).fr))) (q.rn hi (o.getD i 0))):=rfl
   refine x1 ?_
   refine⟨i+1,⟨by omega,by dsimp only;omega⟩,some [some 0,some 1,some 2],?_⟩
   refine x1 ?_
   refine⟨fun r _=>?_,?_⟩
   ·dsimp only
    rw[he r,a0E]
    by_cases h:r=o.getD i 0
    ·rw[a0w h,if_pos h,hst]
     rfl
    ·rw[a0t h,if_neg h]
   ·rw[hst]
    exact xc0
  ·obtain rfl:i=o.length:=by omega
   refine⟨_,rfl,?_⟩
   refine x1 ?_
   exact⟨fun r _=>by dsimp only;rw[Qu.endTo_all],.inr fun r _=>rfl,trivial⟩
theorem index91 (o:List Nat) (ho:o.length≤1000000) (m:Nat):a0g Tryz.prog 131 false [.sl 1 o.length (a0e natC 0 o),.int .i64 m] (fun r=>(m∈o∧∃i:Nat,r=.int .i64 i)∨(m∉o∧r=.int .i64 (-1))):=by
 refine a0a Tryz.E_ok Tryz.func131 rfl (by kernel_rfl) ?_
 refine x1 ?_
 refine⟨Nat,fun i=>i≤o.length∧m∉o.take i,fun i=>o.length-i,fun i=>[(8,.int .i64 (i:Nat))],fun _=>[],fun _=>[],0,⟨⟨by omega,by simp⟩,none,?_⟩,?_⟩
 ·exact xc0
 ·rintro i ⟨hi,hm⟩
  have hti:(i:Int).toNat=i:=a0E i
  refine x52 (fun hc hc=>?_) (fun hc hc=>?_) (fun hc=>?_)
  ·have hil:i<o.length:=by omega
   rw[hti] at hc
   refine⟨_,.inl ⟨?_,i,rfl⟩,?_⟩
   ·rw[show m=o.getD i 0 by omega,a1a hil]
    exact a0N hil
   ·exact xc0
  ·have hil:i<o.length:=by omega
   rw[hti] at hc
   refine⟨i+1,⟨⟨by omega,?_⟩,by dsimp only;omega⟩,none,?_⟩
   ·rw[a1D hil,←a1a hil,a0U,a1B]
    rintro(g|g)
    ·exact hm g
    ·omega
   ·exact xc0
  ·obtain rfl:i=o.length:=by omega
   rw[a2M] at hm
   refine⟨_,.inr ⟨hm,rfl⟩,?_⟩
   exact xc0
theorem contains83 (o:List Nat) (ho:o.length≤1000000) (m:Nat):a0g Tryz.prog 89 false [.sl 1 o.length (a0e natC 0 o),.int .i64 m] (·=.prop (m∈o) inferInstance):=by
 refine a0a Tryz.E_ok Tryz.func89 rfl (by kernel_rfl) ?_
 refine x1 ?_
 refine a0b (index91 o ho m) rfl ?_
 rintro _ (⟨hm,i,rfl⟩|⟨hm,rfl⟩)
 ·refine x1 ?_
  refine⟨_,rfl,?_⟩
  refine x1 ?_
  refine⟨⟨fun _=>hm,fun _=>by omega⟩,?_⟩
  exact xc0
 ·refine x1 ?_
  refine⟨_,rfl,?_⟩
  refine x1 ?_
  refine⟨⟨fun h=>by omega,fun h=>absurd h hm⟩,?_⟩
  exact xc0
end Go.Proofs
namespace Go.Sx
open Go
variable {P:Program}
theorem frame_core {args args0:List V} {H H0:List O} (ρ:List Nat) (hn:(nodupN ρ && allLt (len H) ρ)=true)
  (hv:vEntL (some (a2x ρ)) [] args args0 (hEnt (some (a2x ρ)) [] H (a2x ρ) H0 True)) {I:Nat→Prop} {η:Eta} {w:World} {vals:List Value} (hS:Sat I η w H) (hd:DenL I η w args vals) :
  Sat I (a1s η (a2x ρ)) w H0∧DenL I (a1s η (a2x ρ)) w args0 vals∧(∀(j id:Nat),ρ[j]? = some id→(a1s η (a2x ρ))[j]? = η[id]?)∧
  ∀(I':Nat→Prop) (η':Eta) (H':List O) (w':World),Sat I' η' w' H'→Step I (own (a1s η (a2x ρ)) H0) w I' (own η' H') w'→∀(ret:V) (v:Value),Den I' η' w' ret v→∀{K:V→List O→Prop},(lenK H fun n=>force (rnV (sg ρ n) ret) fun r=>updK (sg ρ n) ρ H H' fun H2=>K r H2)→
   ∃η2 H2 r,K r H2∧Sat I' η2 w' H2∧Den I' η2 w' r v∧Mono I η w I' η2 w'∧Step I (own η H) w I' (own η2 H2) w':=by
 simp only[a0D] at hn
 have hnd:=nodupN_spec hn.1
 have hlt:=allLt_spec hn.2
 rw[a1j] at hlt
 have hρ:=ren_renEta η (a2x ρ)
 obtain⟨hT,hH⟩:=vEntL_sound hρ (F:=[]) (fun id e o _ ho=>by simp at ho) (fun b ⟨id,c,o,_,ho,_⟩=>by simp at ho) args args0 _ _ hv hd
 obtain⟨h1,_,h3⟩:=hEnt_sound hρ (F:=[]) (fun id e o _ ho=>by simp at ho) (fun b ⟨id,c,o,_,ho,_⟩=>by simp at ho) hS.len hS.obj (a2x ρ) H0 _ hH
 rw[someL_eq] at h1 h3
 have hl0:ρ.length=H0.length:=by simpa using h1
 have hη0:∀(j id:Nat),ρ[j]? = some id→(a1s η (a2x ρ))[j]? = η[id]?:=by
  intro j id hj
  have hid:id<η.length:=by rw[hS.len];exact hlt id (a1Y hj)
  simp[a1s,someL_eq,hj,hid]
 have hlη0:(a1s η (a2x ρ)).length=H0.length:=by simp[a1s,someL_eq,hl0]
 have hlive:∀(j id b:Nat) (e:Option Nat×Nat) (o:O),ρ[j]? = some id→H0[j]? = some o→η[id]? = some e→o.has e b→∃o',H[id]? = some o'∧o'.has e b:=fun j id b e o hj ho he hl=>(((h3 j o ho).1 id (by simp[hj])).1 e b hl (.inl he)).2
 have hback:∀(j:Nat) (e:Option Nat×Nat) (o:O),(a1s η (a2x ρ))[j]? = some e→H0[j]? = some o→∃id,ρ[j]? = some id∧η[id]? = some e:=by
  intro j e o he ho
  have hj:j<ρ.length:=by rw[hl0];exact(a0B.1 ho).1
  have hid:ρ[j]? = some ρ[j]:=by simp[hj]
  rw[hη0 j _ hid] at he
  exact⟨_,hid,he⟩
 have ow:∀b,own (a1s η (a2x ρ)) H0 b→own η H b:=by
  rintro b ⟨j,c,o,g1,g2,g3⟩
  obtain⟨id,q1,q2⟩:=hback j _ o g1 g2
  obtain⟨o',q3,q4⟩:=hlive j id b c o q1 g2 q2 g3
  exact⟨id,c,o',q2,q3,q4⟩
 have hS0:Sat I (a1s η (a2x ρ)) w H0:=by
  refine⟨hlη0,?_,?_,fun b hb=>hS.notI b (ow b hb),fun b hb=>hS.lt b (ow b hb),hS.ilt⟩
  ·intro j e o he ho
   obtain⟨id,q1,q2⟩:=hback j e o he ho
   have:=((h3 j o ho).1 id (by simp[q1])).2.1 e q2
   rwa [←someL_eq] at this
  ·intro j j' b c c' o o' g1 g2 g3 g4 l1 l2
   obtain⟨id,q1,q2⟩:=hback j _ o g1 g3
   obtain⟨id',q1',q2'⟩:=hback j' _ o' g2 g4
   obtain⟨o1,q3,q4⟩:=hlive j id b c o q1 g3 q2 l1
   obtain⟨o2,q3',q4'⟩:=hlive j' id' b c' o' q1' g4 q2' l2
   have:=hS.apart id id' b c c' o1 o2 q2 q2' q3 q3' q4 q4'
   subst this
   have e1:=(a0B.1 q1)
   have e2:=(a0B.1 q1')
   rcases a3G j j' with hh|hh|hh
   ·exact absurd (e1.2.trans e2.2.symm) (a0T.1 hnd j j' e1.1 e2.1 hh)
   ·exact hh
   ·exact absurd (e2.2.trans e1.2.symm) (a0T.1 hnd j' j e2.1 e1.1 hh)
 refine⟨hS0,hT,hη0,?_⟩
 intro I' η' H' w' hS' hst ret v hden K hk
 rw[a1k,force_eq] at hk
 obtain⟨k1,k2⟩:=updK_spec _ ρ H H' _ hk
 obtain⟨s0,s1,s2,s3⟩:=hS.frame hnd hlt hl0 hη0 hlive hlη0 hS' k1 hst
 exact⟨_,_,_,k2,s1,Den.ren s0 _ _ hden,s2,s3⟩
theorem ycall_frame {i i0:Nat} {args args0:List V} {H H0:List O} {R K:V→List O→Prop} (ρ:List Nat) (h:YCall P i0 args0 H0 R) (hi:ρ[i0]? = some i) (hn:(nodupN ρ && allLt (len H) ρ)=true)
  (hv:vEntL (some (a2x ρ)) [] args args0 (hEnt (some (a2x ρ)) [] H (a2x ρ) H0 True)) (hk:∀ret H',R ret H'→lenK H fun n=>force (rnV (sg ρ n) ret) fun r=>updK (sg ρ n) ρ H H' fun H2=>K r H2):YCall P i args H K:=by
 unfold YCall at h ⊢
 intro I η w vals hS hd
 obtain⟨hS0,hT,hη0,back⟩:=frame_core ρ hn hv hS hd
 obtain⟨b,c,fn,tmps,assign,body,e1,e2,hr⟩:=h I _ w vals hS0 hT
 rw[hη0 i0 i hi] at e1
 refine⟨b,c,fn,tmps,assign,body,e1,e2,hr.mono ?_⟩
 rintro e w' ⟨I',η',H',ret,v,rfl,hr,hS',hden,_,hst⟩
 obtain⟨η2,H2,r,k1,k2,k3,k4,k5⟩:=back I' η' H' w' hS' hst ret v hden (hk ret H' hr)
 exact⟨I',η2,H2,r,v,rfl,k1,k2,k3,k4,k5⟩
theorem YCall.ent {i:Nat} {args:List V} {H:List O} {K K':V→List O→Prop} (h:YCall P i args H K) (hr:∀v H',K v H'→∃v1 H1,K' v1 H1∧∃ρ,Ent (len H) ρ [v] H' [v1] H1):YCall P i args H K':=by
 unfold YCall at h ⊢
 intro I η w vals hS hd
 obtain⟨b,c,fn,tmps,assign,body,e1,e2,hro⟩:=h I η w vals hS hd
 refine⟨b,c,fn,tmps,assign,body,e1,e2,hro.mono ?_⟩
 rintro e w' ⟨I',η',H',v,x,rfl,hret,hS',hden,hm,hst⟩
 obtain⟨v1,H1,hret,ρ,hent⟩:=hr _ _ hret
 have hg:Good I' η' w' [v] H' {tmps:=#[x],defers:=[]}:=⟨hS',SatT.ofList ⟨x,[],rfl,hden,rfl⟩⟩
 obtain⟨I1,η1,hg1,hs1⟩:=Ent_sound hent hg
 have hx:=hg1.tmp.2 0
 have h0:=(hst.toB (B:=len H)).trans hs1
 have hB:(own η H).eta.length≤len H:=by rw[a1j];exact Nat.le_of_eq hS.len
 have h1:=h0.toStep hB
 exact⟨I1,η1,H1,v1,x,rfl,hret,hg1.sat,by simpa [get] using hx,⟨h1.eta,h1.imono,hm.iblock⟩,h1⟩
theorem YCall.mono {i:Nat} {args:List V} {H:List O} {K K':V→List O→Prop} (h:YCall P i args H K) (hr:∀v H',K v H'→K' v H'):YCall P i args H K':=by
 unfold YCall at h ⊢
 intro I η w vals hS hd
 obtain⟨b,c,fn,tmps,assign,body,e1,e2,hro⟩:=h I η w vals hS hd
 refine⟨b,c,fn,tmps,assign,body,e1,e2,hro.mono ?_⟩
 rintro e w' ⟨I',η',H',v,x,he,hret,hr'⟩
 exact⟨I',η',H',v,x,he,hr _ _ hret,hr'⟩
theorem ycall_frz {i:Nat} {args args':List V} {H:List O} {K:V→List O→Prop} {ps:List Prop} {ids:List Nat} (hf:frzL (frzV 8 H) args=some (ps,ids,args')) (hp:∀p∈ps,p)
  (h:YCall P i args' (goneAt ids H) K):YCall P i args H K:=by
 unfold YCall at h ⊢
 intro I η w vals hS hd
 obtain⟨s1,m1,st1⟩:=hS.freeze ids
 have hd':DenL (frzI I η H ids) [] w args' vals:=
  frzL_sound (C:=fun id=>∀e o b,η[id]? = some e→H[id]? = some o→o.has e b→frzI I η H ids b) (fun v v' ps ids x=>frzV_sound hS.obj (fun b hb=>.inl hb) 8 v v' ps ids x) args args' ps ids vals hf hp
   (fun id hid e o b he ho hb=>.inr ⟨id,hid,e,o,he,ho,hb⟩) hd
 obtain⟨b,c,fn,tmps,assign,body,e1,e2,hr⟩:=h _ η w vals s1 (DenL.mono ⟨fun _ _ he _=>by simp at he,fun _ hb=>hb,fun _ _=>rfl⟩ _ _ hd')
 refine⟨b,c,fn,tmps,assign,body,e1,e2,hr.mono ?_⟩
 rintro e w' ⟨I',η',H',v,x,he,hret,hS',hden,hm,hst⟩
 exact⟨I',η',H',v,x,he,hret,hS',hden,m1.trans hm,st1.trans hst⟩
theorem Callee.pre {g:FuncId} {args args1:List V} {H H1:List O} {K:V→List O→Prop} (ρ:Option (List (Option Nat))) (he:Ent (len H) ρ args H args1 H1) (h:Callee P g args1 H1 K):Callee P g args H K:=by
 unfold Callee at h ⊢
 refine⟨h.1,fun I η w vals hS hd=>?_⟩
 have hg:Good I η w args H {tmps:=vals.toArray,defers:=[]}:=⟨hS,SatT.ofList (by simpa using hd)⟩
 obtain⟨I1,η1,hg1,hs1⟩:=Ent_sound he hg
 have hd1:DenL I1 η1 w args1 vals:=by simpa using hg1.tmp.list
 refine(h.2 I1 η1 w vals hg1.sat hd1).mono ?_
 rintro e w' ⟨I',η',H',v,x,he,hret,hS',hden,hm,hst⟩
 have h0:=hs1.trans (hst.toB (B:=len H))
 have hB:(own η H).eta.length≤len H:=by rw[a1j];exact Nat.le_of_eq hS.len
 have h1:=h0.toStep hB
 exact⟨I',η',H',v,x,he,hret,hS',hden,⟨h1.eta,h1.imono,fun b hb=>h1.block b (hS.ilt b hb) (fun ho=>hS.notI b ho hb)⟩,h1⟩
theorem callee_nil {g:FuncId} {rest:List V} {H:List O} {K:V→List O→Prop} (ty sz:Nat) (f:Nat→List V) (h:lenK H fun n=>appK H [.row ty sz 0 f true] fun H1=>Ent (len H) (some (a2x (List.range n)++[none])) (.lit (.slice none 0 0) :: rest) H (.osl n 0 :: rest) H1∧Callee P g (.osl n 0 :: rest) H1 K) :
  Callee P g (.lit (.slice none 0 0) :: rest) H K:=by
 rw[a1k,appK_eq] at h
 exact Callee.pre _ h.1 h.2
end Go.Sx
namespace Go.Proofs
open Go Go.Sx
set_option maxRecDepth 100000
set_option maxHeartbeats 4000000
def rfC:Code→Option (Code×Code)
 |.rangeFunc _ _ a b=>some (a,b)
 |.seq a b=>match rfC a with
  |some r=>some r
  |none=>rfC b
 |.cond _ a b=>match rfC a with
  |some r=>some r
  |none=>rfC b
 |.block _ a=>rfC a
 |.loop a=>rfC a
 |.scope a=>rfC a
 |_=>none
noncomputable def rfA (f:Func):Code:=match f.body with
 |some c=>match rfC c with
  |some r=>r.1
  |none=>.skip
 |none=>.skip
noncomputable def rfB (f:Func):Code:=match f.body with
 |some c=>match rfC c with
  |some r=>r.2
  |none=>.skip
 |none=>.skip
def crs (q:Qu) (o:List Nat):V:=.agg [.sl 1 o.length (a0e natC 0 o),.sl 1 q.rq.length (fun r=>[.int .i64 (q.endOf true o r)])]
theorem pureWk {P:Program} {g:FuncId} {keep:Bool} {args:List V} {R R':V→Prop} (h:a0g P g keep args R) (hr:∀r,R r→∃r',R' r'∧∀I w v,Den I [] w r v→Den I [] w r' v):a0g P g keep args R':=
 ⟨h.1,fun I w vals hI hd=>(h.2 I w vals hI hd).mono fun _ _ ⟨_,v,h1,h2,h3,h4⟩=>let⟨r',g1,g2⟩:=hr _ h2;⟨r',v,h1,g1,g2 _ _ _ h3,h4⟩⟩
end Go.Proofs
namespace Go.Proofs
open Go Go.Sx
set_option maxRecDepth 100000
set_option maxHeartbeats 40000000
namespace Qu
open Classical in
noncomputable def chk (q:Qu):Int:=if q.d.Ok then if q.Ok then 0 else 70 else 10
theorem chk_ok {q:Qu} (h:q.chk=0):q.Ok:=by
 unfold chk at h
 split at h
 ·split at h
  ·assumption
  ·omega
 ·omega
theorem chk_of {q:Qu} (h:q.Ok):q.chk=0:=by unfold chk;rw[if_pos h.d,if_pos h]
theorem chk_no {q:Qu} (hd:q.d.Ok) (h:¬q.Ok):q.chk=70:=by unfold chk;rw[if_pos hd,if_neg h]
theorem chk_dk {q:Qu} (h:¬q.d.Ok):q.chk=10:=by unfold chk;rw[if_neg h]
theorem sk_at {q:Qu} (h:q.Ok) {j:Nat} (hj:j<q.sk.length):0≤(q.sk.getD j (0,0)).1∧(q.sk.getD j (0,0)).1≤(q.sk.getD j (0,0)).2∧(q.sk.getD j (0,0)).2≤5000:=by
 rw[show q.sk.getD j (0,0)=q.sk[j] by simp[a0A,hj]]
 exact h.sk _ (a0N hj)
theorem rq_at {q:Qu} (h:q.Ok) {j:Nat} (hj:j<q.rq.length):q.RqOk (q.rq.getD j Rq.none):=by
 rw[show q.rq.getD j Rq.none=q.rq[j] by simp[a0A,hj]]
 exact h.rq _ (a0N hj)
theorem rq_asc {q:Qu} (h:q.Ok) {j:Nat} (hj:j<q.rq.length) (h0:0<j):(q.rq.getD (j-1) Rq.none).t0≤(q.rq.getD j Rq.none).t0:=by
 have:=h.asc (j-1) (by omega)
 rwa [show j-1+1=j by omega] at this
theorem all_getD {α:Type} {l:List α} {d:α} {P:α→Prop} (h:∀j,j<l.length→P (l.getD j d)):∀x∈l,P x:=by
 intro x hx
 obtain⟨i,hi,rfl⟩:=a1A hx
 have:=h i hi
 rwa [show l.getD i d=l[i] by simp[a0A,hi]] at this
end Qu
theorem Check26 (q:Qu) (hz:q.d.Z.length≤1000000) (_hsk:q.sk.length≤1000000) (hrq:q.rq.length≤1000000):a0g Tryz.prog 72 false [.agg q.c] (·=.int .i64 q.chk):=by
 refine a0a Tryz.E_ok Tryz.func72 rfl (by kernel_rfl) ?_
 (repeat' ((conv=>whnf);first|(with_reducible first|apply spl|apply spl'|refine iJ ?_)<;>intro hc<;>try(exfalso;omega)|refine vcq ?_|refine dr 36 ?_));all_goals(try conv=>whnf);try exact trivial
 refine a0b (Check37 q.d hz) rfl ?_
 rintro _ rfl
 refine x77 (fun hc=>?_) (fun hc=>?_)
 ·have hd:¬q.d.Ok:=fun h=>hc (Dk.chk_of h)
  rw[Qu.chk_dk hd]
  refine⟨_,rfl,?_⟩
  exact xc27
 ·have hd:q.d.Ok:=Dk.chk_ok (a0O.1 hc)
  clear hc
  refine a0b (Cylinders49 q.d hd) rfl ?_
  rintro _ rfl
  have hSl:=(q.d.S_len hd).1
  have hcn:=q.d.cnt_le hd
  (repeat' ((conv=>whnf);first|(with_reducible first|apply spl|apply spl'|refine iJ ?_)<;>intro hc<;>try(exfalso;omega)|refine vcq ?_|refine dr 36 ?_));all_goals((try conv=>whnf);try exact trivial);(repeat' ((first|(refine a0b (within27 _ _ _) rfl ?_;rintro _ rfl)|(refine a0d (within27 _ _ _) rfl ?_)|(refine a0h (fun _=>within27 _ _ _) rfl ?_));refine x77 (fun hc=>?_) (fun hc=>?_)))
  ·rw[Qu.chk_no hd (fun h=>by have:=h.cyl;have:=h.skl;have:=h.rql;have:=h.pas;omega)]
   refine⟨_,rfl,?_⟩
   exact xc27
  ·refine⟨Nat,fun i=>i≤q.sk.length∧∀j,j<i→0≤(q.sk.getD j (0,0)).1∧(q.sk.getD j (0,0)).1≤(q.sk.getD j (0,0)).2∧(q.sk.getD j (0,0)).2≤5000,fun i=>q.sk.length-i,fun i=>[(4,.int .i64 (i:Nat))],fun _=>[],fun _=>[],0,⟨⟨by omega,fun j hj=>by omega⟩,none,?_⟩,?_⟩
   ·exact xc27
   ·rintro i ⟨hi,hall⟩
    have hti:(i:Int).toNat=i:=a0E i
    (repeat' ((conv=>whnf);first|(with_reducible first|apply spl|apply spl'|refine iJ ?_)<;>intro hc<;>try(exfalso;omega)|refine vcq ?_|refine dr 36 ?_));all_goals(try conv=>whnf);try exact trivial
    ·rw[hti] at hc
     have hil:i<q.sk.length:=by omega
     rw[Qu.chk_no hd (fun h=>by have:=Qu.sk_at h hil;omega)]
     refine⟨_,rfl,?_⟩
     exact xc27
    ·rw[hti] at hc
     have hil:i<q.sk.length:=by omega
     refine⟨i+1,⟨⟨by omega,fun j hj=>?_⟩,by dsimp only;omega⟩,some [some 0],?_⟩
     ·rcases a0I (show j≤i by omega) with g|rfl
      ·exact hall j g
      ·omega
     ·exact xc27
    ·obtain rfl:i=q.sk.length:=by omega
     refine⟨Nat,fun i=>i≤q.rq.length∧∀j,j<i→q.RqOk (q.rq.getD j Rq.none)∧(0<j→(q.rq.getD (j-1) Rq.none).t0≤(q.rq.getD j Rq.none).t0),fun i=>q.rq.length-i,fun i=>[(6,.int .i64 (i:Nat))],fun _=>[],fun _=>[],0,⟨⟨by omega,fun j hj=>by omega⟩,none,?_⟩,?_⟩
     ·exact xc27
     ·rintro i ⟨hi,hreq⟩
      have hti:(i:Int).toNat=i:=a0E i
      (repeat' ((conv=>whnf);first|(with_reducible first|apply spl|apply spl'|refine iJ ?_)<;>intro hc<;>try(exfalso;omega)|refine vcq ?_|refine dr 36 ?_));all_goals((try conv=>whnf);try exact trivial);(repeat' ((first|(refine a0b (within27 _ _ _) rfl ?_;rintro _ rfl)|(refine a0d (within27 _ _ _) rfl ?_)|(refine a0h (fun _=>within27 _ _ _) rfl ?_)|(refine a0b (IsRun38 q.d hd _ _) rfl ?_;rintro _ rfl)|(refine a0d (IsRun38 q.d hd _ _) rfl ?_)|(refine a0h (fun _=>IsRun38 q.d hd _ _) rfl ?_));(repeat' ((conv=>whnf);first|(with_reducible first|apply spl|apply spl'|refine iJ ?_)<;>intro hc<;>try(exfalso;omega)|refine vcq ?_|refine dr 36 ?_));all_goals((try conv=>whnf);try exact trivial)))
      ·rw[hti] at hc
       have hil:i<q.rq.length:=by omega
       rw[Qu.chk_no hd (fun h=>by
        have h1:=Qu.rq_at h hil
        have h2:=fun g=>Qu.rq_asc h hil g
        unfold Qu.RqOk at h1
        rcases hc with((g|g)|g)|⟨g1,g2⟩
        ·exact g ⟨h1.1,h1.2.1⟩
        ·exact g h1.2.2.1
        ·exact g h1.2.2.2
        ·rw[show((i:Int)-1).toNat=i-1 by omega] at g2
         have:=h2 (by omega)
         omega)]
       refine⟨_,rfl,?_⟩
       exact xc27
      ·rw[hti] at hc
       have hil:i<q.rq.length:=by omega
       refine⟨i+1,⟨⟨by omega,fun j hj=>?_⟩,by dsimp only;omega⟩,some [some 0],?_⟩
       ·rcases a0I (show j≤i by omega) with g|rfl
        ·exact hreq j g
        ·refine⟨?_,fun g=>?_⟩
         ·unfold Qu.RqOk
          refine⟨?_,?_,?_,?_⟩<;>refine a0Q fun g=>hc ?_
          ·exact .inl (.inl (.inl fun h=>g h.1))
          ·exact .inl (.inl (.inl fun h=>g h.2))
          ·exact .inl (.inl (.inr g))
          ·exact .inl (.inr g)
         ·rcases Int.lt_or_le (q.rq.getD j Rq.none).t0 (q.rq.getD (j-1) Rq.none).t0 with g1|g1
          ·exact absurd (Or.inr ⟨by omega,by rw[show((j:Int)-1).toNat=j-1 by omega];exact g1⟩) hc
          ·exact g1
       ·exact xc27
      ·obtain rfl:i=q.rq.length:=by omega
       have hq:q.Ok:=by
        have h1:=(show ¬(((¬(0≤q.cyl∧q.cyl≤(q.d.S.length:Int)-1)∨(q.sk.length:Int)≠q.d.S.length)∨6<(q.rq.length:Int))) by assumption)
        refine⟨hd,by omega,by omega,by omega,by omega,Qu.all_getD hall,Qu.all_getD fun j hj=>(hreq j hj).1,fun j hj=>?_⟩
        have:=(hreq (j+1) hj).2 (by omega)
        rwa [Nat.add_sub_cancel] at this
       rw[Qu.chk_of hq]
       refine⟨_,rfl,?_⟩
       exact xc27
  ·rw[Qu.chk_no hd (fun h=>by have:=h.cyl;have:=h.skl;have:=h.rql;have:=h.pas;omega)]
   refine⟨_,rfl,?_⟩
   exact xc27
theorem Count57w (d:Dk) (h:d.chk=0):a0g Tryz.prog 80 false [d.v] (·=.int .i64 d.cnt):=Count57 d (Dk.chk_ok h)
def Dk.far (d:Dk):Prop:=20<(d.Z.length:Int)∨d.chk=0∧(200<(d.cnt:Int)∨120<d.T)
theorem Far48 (d:Dk) (hl:d.Z.length≤9223372036854775807):a0g Tryz.prog 41 false [d.v] (·=.prop d.far (Classical.propDecidable _)):=by
 refine a0a Tryz.E_ok Tryz.func41 rfl (by kernel_rfl) ?_
 unfold Dk.far
 (repeat' ((conv=>whnf);first|(with_reducible first|apply spl|apply spl'|refine iJ ?_)<;>intro hc<;>try(exfalso;omega)|refine vcq ?_|refine dr 6 ?_));all_goals((try conv=>whnf);try exact trivial);(repeat' ((first|(refine a0b (Check37 d (by omega)) rfl ?_;rintro _ rfl)|(refine a0d (Check37 d (by omega)) rfl ?_)|(refine a0h (fun _=>Check37 d (by omega)) rfl ?_));(repeat' ((conv=>whnf);first|(with_reducible first|apply spl|apply spl'|refine iJ ?_)<;>intro hc<;>try(exfalso;omega)|refine vcq ?_|refine dr 6 ?_));all_goals((try conv=>whnf);try exact trivial)))
 ·have hcn:=d.cnt_le (Dk.chk_ok hc)
  refine a0b (Count57w d hc) rfl ?_
  rintro _ rfl
  refine x49 ?_
  all_goals refine⟨_,rfl,?_⟩
  all_goals exact xc56
 ·refine⟨_,rfl,?_⟩
  exact xc56
 ·refine⟨_,rfl,?_⟩
  exact xc56
theorem span16 (a b:Int):a0g Tryz.prog 119 false [.int .i64 a,.int .i64 b] (·=.agg [.int .i64 a,.int .i64 b]):=by
 refine a0a Tryz.E_ok Tryz.func119 rfl (by kernel_rfl) ?_
 refine x49 ?_;(all_goals(try(refine⟨_,rfl,?_⟩;exact xc56)))
theorem span69 (a b:Int):a0g Tryz.prog 118 false [.int .i64 a,.int .i64 b] (·=.agg [.int .i64 a,.int .i64 b]):=by
 refine a0a Tryz.E_ok Tryz.func118 rfl (by kernel_rfl) ?_
 refine x49 ?_;(all_goals(try(refine⟨_,rfl,?_⟩;exact xc56)))
def intC (n:Int):List V:=[.int .i64 n]
structure IsOrdI (n:Nat) (l:List Int):Prop where
 rng:∀i,i<l.length→0≤l.getD i 0∧l.getD i 0≤(n:Int)-1
 nd:∀i,i<l.length→∀k,k<i→l.getD k 0≠l.getD i 0
 len:l.length=n
theorem IsOrdI.ord {n:Nat} {l:List Int} (h:IsOrdI n l):IsOrd n (l.map Int.toNat):=by
 have hg:∀i (hi:i<l.length),l[i]=l.getD i 0:=fun i hi=>by simp[a0A,hi]
 refine⟨by rw[a1L];exact h.len,?_,fun x hx=>?_⟩
 ·rw[List.Nodup,a0T]
  intro i j hi hj hij e
  rw[a1L] at hi hj
  rw[List.getElem_map,List.getElem_map,hg i hi,hg j hj] at e
  have h1:=h.rng i hi
  have h2:=h.rng j hj
  exact h.nd j hj i hij (by omega)
 ·obtain⟨i,hi,rfl⟩:=a1A hx
  rw[a1L] at hi
  rw[List.getElem_map,hg i hi]
  have:=h.rng i hi
  omega
theorem IsOrdI.row {n:Nat} {l:List Int} (h:IsOrdI n l):a0e intC 0 l=a0e natC 0 (l.map Int.toNat):=by
 funext i
 unfold a0e intC natC
 by_cases hi:i<l.length
 ·have:=h.rng i hi
  have e:(l.map Int.toNat).getD i 0=(l.getD i 0).toNat:=by simp[a0A,hi]
  rw[e,a3F this.1]
 ·have e1:l.getD i 0=0:=by rw[a0A,a0V (by omega)];rfl
  have e2:(l.map Int.toNat).getD i 0=0:=by rw[a0A,a0V (by rw[a1L];omega)];rfl
  rw[e1,e2]
  rfl
def swapAt:Nat→List Int→List Int
 |0,x :: y :: l=>y :: x :: l
 |k+1,x :: l=>x :: swapAt k l
 |_,l=>l
theorem swapAt_perm:∀(k:Nat) (l:List Int),(swapAt k l).Perm l
 |0,[]=>.refl _
 |0,[_]=>.refl _
 |0,x :: y :: l=>.swap x y l
 |_+1,[]=>.refl _
 |k+1,x :: l=>(swapAt_perm k l).cons x
theorem swapAt_getD:∀(k:Nat) (l:List Int),k+1<l.length→∀i,(swapAt k l).getD i 0=if i=k then l.getD (k+1) 0 else if i=k+1 then l.getD k 0 else l.getD i 0
 |0,[],h,_=>by simp at h
 |0,[_],h,_=>by simp at h
 |0,x :: y :: l,_,i=>by
  match i with
  |0=>simp[swapAt]
  |1=>simp[swapAt]
  |i+2=>simp[swapAt]
 |k+1,[],h,_=>by simp at h
 |k+1,x :: l,h,i=>by
  match i with
  |0=>simp[swapAt]
  |i+1=>
   have:=swapAt_getD k l (by simpa using h) i
   simp only[swapAt,List.getD_cons_succ]
   rw[this]
   simp
theorem less98 (x y:Int):a0g Tryz.prog 191 false [.int .i64 x,.int .i64 y] (·=.prop (x<y) inferInstance):=by
 have h116:∀z:Int,a0g Tryz.prog 210 false [.int .i64 z] (·=.prop (z≠z) inferInstance):=fun z=>by
  refine a0a Tryz.E_ok Tryz.func210 rfl (by kernel_rfl) ?_
  refine x76 ?_
  refine⟨_,rfl,?_⟩
  (repeat' ((conv=>whnf);first|(with_reducible first|apply spl|apply spl'|refine iJ ?_)<;>intro hc<;>try(exfalso;omega)|refine vcq ?_|refine dr 2015 ?_|refine dr 15 ?_));all_goals(try conv=>whnf);try exact trivial
 refine a0a Tryz.E_ok Tryz.func191 rfl (by kernel_rfl) ?_
 refine x76 ?_;(repeat' ((first|(refine a0b (h116 x) rfl ?_;rintro _ rfl)|(refine a0d (h116 x) rfl ?_)|(refine a0h (fun _=>h116 x) rfl ?_)|(refine a0b (h116 y) rfl ?_;rintro _ rfl)|(refine a0d (h116 y) rfl ?_)|(refine a0h (fun _=>h116 y) rfl ?_));refine x76 (fun hc=>?_)));(all_goals(try(refine⟨_,rfl,?_⟩;(repeat' ((conv=>whnf);first|(with_reducible first|apply spl|apply spl'|refine iJ ?_)<;>intro hc<;>try(exfalso;omega)|refine vcq ?_|refine dr 2015 ?_|refine dr 15 ?_));all_goals((try conv=>whnf);try exact trivial))))
theorem isort92 (l:List Int) (hl:l.length≤12):Sx.Callee Tryz.prog 185 [.osl 0 l.length,.int .i64 0,.int .i64 l.length] [.row 3 1 l.length (a0e intC 0 l) true]
  (fun r H=>r=.tup []∧∃m:List Int,m.Perm l∧(∀p q,p<q→q<l.length→m.getD p 0≤m.getD q 0)∧H=[.row 3 1 l.length (a0e intC 0 m) true]):=by
 refine a0k Tryz.E_ok Tryz.func185 rfl (by kernel_rfl) ?_
 refine x16 ?_
 refine⟨Nat×List Int,fun i=>i.2.Perm l∧1≤i.1∧(i.1≤l.length∨i.1=1)∧∀p q,p<q→q<i.1→q<l.length→i.2.getD p 0≤i.2.getD q 0,fun i=>l.length-i.1,fun i=>[(6,.int .i64 i.1)],fun i=>[(0,.row 3 1 l.length (a0e intC 0 i.2) true)],fun _=>[],(1,l),⟨⟨.refl _,by simp,.inr rfl,fun p q h1 h2 _=>by dsimp only at h2;omega⟩,some [some 0],?_⟩,?_⟩
 ·exact xc24
 ·rintro⟨i,m⟩ ⟨h1,h2,h3,h4⟩
  dsimp only at h1 h2 h3 h4
  (repeat' ((conv=>whnf);first|(with_reducible first|apply spl|apply spl'|refine iJ ?_)<;>intro hc<;>try(exfalso;omega)|refine vcq ?_|refine dr 15 ?_|refine dr 2015 ?_));all_goals(try conv=>whnf);try exact trivial
  ·have hi:i<l.length:=by dsimp only at hc;omega
   refine⟨Nat×List Int,fun j=>j.2.Perm l∧j.1≤i∧(∀p q,p<q→q≤i→p≠j.1→q≠j.1→j.2.getD p 0≤j.2.getD q 0)∧∀q,j.1<q→q≤i→j.2.getD j.1 0≤j.2.getD q 0,fun j=>j.1,fun j=>[(7,.int .i64 j.1)],fun j=>[(0,.row 3 1 l.length (a0e intC 0 j.2) true)],fun _=>[],(i,m),⟨⟨h1,a0K _,fun p q g1 g2 g3 g4=>?_,fun q g1 g2=>?_⟩,some [some 0],?_⟩,?_⟩
   ·dsimp only at *
    exact h4 p q g1 (by omega) (by omega)
   ·dsimp only at *
    omega
   ·exact xc24
   ·rintro⟨j,n⟩ ⟨g1,g2,g3,g4⟩
    dsimp only at g1 g2 g3 g4
    have hnl:n.length=l.length:=g1.length_eq
    refine x16 ?_
    refine a0h (fun _=>less98 _ _) rfl ?_
    have hti:(j:Int).toNat=j:=a0E j
    (repeat' ((conv=>whnf);first|(with_reducible first|apply spl|apply spl'|refine iJ ?_)<;>intro hc<;>try(exfalso;omega)|refine vcq ?_|refine dr 15 ?_|refine dr 2015 ?_));all_goals(try conv=>whnf);try exact trivial
    ·dsimp only at hc
     rw[hti] at hc
     have hj0:0<j:=by omega
     have e1:((j:Int)-1).toNat=j-1:=by omega
     rw[e1] at hc
     have hsw:=swapAt_getD (j-1) n (by omega)
     have e2:j-1+1=j:=by omega
     rw[e2] at hsw
     refine⟨(j-1,swapAt (j-1) n),⟨⟨(swapAt_perm _ _).trans g1,by dsimp only;omega,fun p q k1 k2 k3 k4=>?_,fun q k1 k2=>?_⟩,by dsimp only;omega⟩,some [some 0],?_⟩
     ·dsimp only at *
      rw[hsw p,hsw q,if_neg k3,if_neg k4]
      by_cases c1:p=j
      ·rw[if_pos c1,if_neg (by omega)]
       exact g3 (j-1) q (by omega) k2 (by omega) (by omega)
      ·rw[if_neg c1]
       by_cases c2:q=j
       ·rw[if_pos c2]
        exact g3 p (j-1) (by omega) (by omega) c1 (by omega)
       ·rw[if_neg c2]
        exact g3 p q k1 k2 c1 c2
     ·dsimp only at *
      rw[hsw (j-1),hsw q,if_pos rfl,if_neg (by omega)]
      by_cases c2:q=j
      ·rw[if_pos c2];omega
      ·rw[if_neg c2]
       exact g4 q (by omega) k2
     ·refine x16 ?_
      refine⟨fun k _=>?_,?_⟩
      ·dsimp only
       rw[hti,e1]
       unfold a0e
       rw[hsw k]
       by_cases c1:k=j-1
       ·rw[a0w c1,if_pos c1,a0t (show ¬k=j by omega)];rfl
       ·rw[a0t c1,if_neg c1]
        by_cases c2:k=j
        ·rw[a0w c2,if_pos c2];rfl
        ·rw[a0t c2,if_neg c2]
      ·exact xc24
    ·dsimp only at hc
     rw[hti] at hc
     have hi:i<l.length:=by omega
     refine⟨(i+1,n),⟨⟨g1,by dsimp only;omega,by dsimp only;omega,fun p q k1 k2 k3=>?_⟩,by dsimp only;omega⟩,some [some 0],?_⟩
     ·dsimp only at *
      by_cases c1:p=j
      ·subst c1;exact g4 q k1 (by omega)
      ·by_cases c2:q=j
       ·subst c2
        have e1:((q:Int)-1).toNat=q-1:=by omega
        rw[e1] at hc
        have:n.getD (q-1) 0≤n.getD q 0:=by omega
        by_cases c3:p=q-1
        ·rw[c3];exact this
        ·exact a3Z (g3 p (q-1) (by omega) (by omega) c1 (by omega)) this
       ·exact g3 p q k1 (by omega) c1 c2
     ·exact xc24
  ·refine⟨_,_,⟨rfl,m,h1,fun p q g1 g2=>h4 p q g1 (by dsimp only at hc;omega) g2,rfl⟩,some [some 0],?_⟩
   exact xc24
theorem byteAt_le (s:ByteArray) (i:Nat):0≤byteAt s i∧byteAt s i≤255:=by
 unfold byteAt
 cases s[i]? with
 |none=>simp
 |some b=>
  simp only[a3U,a2S]
  have:=b.toNat_lt
  omega
theorem len86 (n:Nat) (h:n≤12):a0g Tryz.prog 169 false [.int .u64 n] (fun r=>∃k:Int,r=.int .i64 k):=by
 refine a0a Tryz.E_ok Tryz.func169 rfl (by kernel_rfl) ?_
 refine x16 ?_
 refine a0r Tryz.E_ok Tryz.func195 rfl (by kernel_rfl) ?_
 refine x16 (fun hc hc hc=>?_)
 refine⟨⟨by show(0:Int)≤n;omega,by show(n:Int)≤255;omega⟩,?_⟩
 refine x16 ?_
 refine⟨⟨by omega,Int.lt_of_lt_of_le (show(n:Int)<256 by omega) (by decide +kernel)⟩,?_⟩
 generalize hby:byteAt _ _=y
 have hy:0≤y∧y≤255:=by rw[←hby];exact byteAt_le _ _
 refine x16 ?_
 exact⟨_,⟨_,rfl⟩,rfl,trivial⟩
theorem pdq85 (l:List Int) (hl:l.length≤12) (k:Int):Sx.Callee Tryz.prog 168 [.osl 0 l.length,.int .i64 0,.int .i64 l.length,.int .i64 k] [.row 3 1 l.length (a0e intC 0 l) true]
  (fun r H=>r=.tup []∧∃m:List Int,m.Perm l∧(∀p q,p<q→q<l.length→m.getD p 0≤m.getD q 0)∧H=[.row 3 1 l.length (a0e intC 0 m) true]):=by
 refine a0k Tryz.E_ok Tryz.func168 rfl (by kernel_rfl) ?_
 refine x16 ?_
 refine⟨Unit,fun _=>True,fun _=>0,fun _=>[(1,.int .i64 0),(2,.int .i64 l.length),(3,.int .i64 k)],fun _=>[],fun _=>[],(),⟨trivial,some [some 0],?_⟩,?_⟩
 ·exact xc24
 ·rintro⟨⟩ _
  refine x16 (fun hc=>?_)
  refine a0c [0] (isort92 l hl) rfl ?_ ?_
  ·exact xc24
  ·rintro _ _ ⟨rfl,m,h1,h2,rfl⟩
   refine x16 ?_
   refine⟨_,_,⟨rfl,m,h1,h2,rfl⟩,some [some 0],?_⟩
   exact xc24
theorem sort71 (l:List Int) (hl:l.length≤12):Sx.Callee Tryz.prog 137 [.osl 0 l.length] [.row 3 1 l.length (a0e intC 0 l) true]
  (fun r H=>r=.tup []∧∃m:List Int,m.Perm l∧(∀p q,p<q→q<l.length→m.getD p 0≤m.getD q 0)∧H=[.row 3 1 l.length (a0e intC 0 m) true]):=by
 refine a0k Tryz.E_ok Tryz.func137 rfl (by kernel_rfl) ?_
 refine x16 ?_
 refine⟨⟨by show(0:Int)≤l.length;omega,by show(l.length:Int)≤18446744073709551615;omega⟩,?_⟩
 refine x16 ?_
 refine a0b (len86 l.length hl) rfl ?_
 rintro _ ⟨k,rfl⟩
 refine x16 ?_
 refine a0c [0] (pdq85 l hl k) rfl ?_ ?_
 ·exact xc24
 ·rintro _ _ ⟨rfl,m,h1,h2,rfl⟩
  refine x16 ?_
  refine⟨_,_,⟨rfl,m,h1,h2,rfl⟩,some [some 0],?_⟩
  exact xc24
theorem sorted_unique:∀(m l:List Int),m.Perm l→m.Pairwise (·≤·)→l.Pairwise (·<·)→m=l
 |[],l,h,_,_=>(List.nil_perm.1 h).symm
 |x :: m,[],h,_,_=>absurd h.length_eq (by simp)
 |x :: m,y :: l,h,h1,h2=>by
  have p1:=a3D.1 h1
  have p2:=a3D.1 h2
  have hxy:x=y:=by
   have hx:x∈y :: l:=h.mem_iff.1 a1V
   have hy:y∈x :: m:=h.mem_iff.2 a1V
   rcases a0Z.1 hx with h|hx
   ·exact h
   ·rcases a0Z.1 hy with h|hy
    ·exact h.symm
    ·have:=p1.1 y hy
     have:=p2.1 x hx
     omega
  subst hxy
  rw[sorted_unique m l (List.Perm.cons_inv h) p1.2 p2.2]
theorem pairwise_of_getD {m:List Int} (h:∀p q,p<q→q<m.length→m.getD p 0≤m.getD q 0):m.Pairwise (·≤·):=by
 rw[a0T]
 intro i j hi hj hij
 have:=h i j hij hj
 rwa [a0A,a0C hi,a0A,a0C hj] at this
theorem sorted51 (l:List Int) (hl:l.length≤12):Sx.Callee Tryz.prog 93 [.fn (.func 138) [] [.ptr 0 0]] [.cells 31 [.sl 1 l.length (a0e intC 0 l)]]
  (fun r H=>∃m:List Int,m.Perm l∧(∀p q,p<q→q<l.length→m.getD p 0≤m.getD q 0)∧r=.osl 1 l.length∧H=[.cells 31 [.sl 1 l.length (a0e intC 0 l)],.row 3 1 l.length (a0e intC 0 m) true]):=by
 refine a0k Tryz.E_ok Tryz.func93 rfl (by kernel_rfl) ?_
 refine x44 ?_
 refine a0r Tryz.E_ok Tryz.func136 rfl (by kernel_rfl) ?_
 refine x44 ?_
 refine a0r Tryz.E_ok Tryz.func167 rfl (by kernel_rfl) ?_
 refine x44 ?_
 refine a0r Tryz.E_ok Tryz.func138 rfl (by kernel_rfl) ?_
 refine x44 ?_
 refine⟨Nat,fun i=>i≤l.length,fun i=>l.length-i,fun i=>[(7,.int .i64 (i:Nat))],fun i=>[(1,.cells 31 [.osl 3 (l.take i).length])],fun i=>[.row 3 1 (l.take i).length (a0e intC 0 (l.take i)) true],0,⟨by omega,some [some 0,some 1,some 2,none],?_⟩,?_⟩
 ·exact xc60
 ·intro i hi
  have hi:i≤l.length:=hi
  have hti:(i:Int).toNat=i:=a0E i
  (repeat' ((conv=>whnf);first|(with_reducible first|apply spl|apply spl'|refine iJ ?_)<;>intro hc<;>try(exfalso;omega)|refine vcq ?_|refine dr 15 ?_));all_goals(try conv=>whnf);try exact trivial
  ·have hil:i<l.length:=by omega
   have hlt:(l.take i).length=i:=by rw[a0J];omega
   rw[hti]
   refine ycall_exec Tryz.E_ok rfl rfl rfl ?_
   refine x44 ?_
   have e:l.take (i+1)=l.take i++[l.getD i 0]:=by
    rw[a1D hil]
    simp[a0A,hil]
   have hlt2:(l.take (i+1)).length=(l.take i).length+1:=by rw[e];simp
   refine⟨i+1,⟨by omega,by dsimp only;omega⟩,some [some 0,some 1,some 2,some 5],?_⟩
   refine x44 ?_
   refine⟨fun k hk=>?_,?_⟩
   ·rw[e]
    exact a1q (c:=intC) rfl (fun _ _=>rfl) k (by omega)
   ·exact xc60
  ·obtain rfl:i=l.length:=by omega
   rw[a2M]
   refine a0c [3] (sort71 l hl) rfl ?_ ?_
   ·exact xc60
   ·rintro _ _ ⟨rfl,m,g1,g2,rfl⟩
    refine x44 ?_
    refine⟨_,_,⟨m,g1,g2,rfl,rfl⟩,some [some 0,some 3],?_⟩
    exact xc60
end Go.Proofs
