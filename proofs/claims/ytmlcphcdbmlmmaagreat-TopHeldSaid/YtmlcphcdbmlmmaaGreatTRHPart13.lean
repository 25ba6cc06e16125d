/- Own work: texts of the proof of a law (QuN, QuM, QuA, QuT, QuQ, QuL, SyCfz, T1, T2, T7, ThA, ThB, ThC, ThD, ThE, T9, T10, T11, T4). No condition. -/
import Derived.Test.YtmlcphcdbmlmmaaGreatPart12
set_option linter.unusedVariables false
set_option linter.unusedSimpArgs false
namespace Go.Proofs
set_option maxHeartbeats 1000000
def loc (H:Nat):List Nat→Nat→Nat×Nat×Nat
 |[],_=>(0,0,0)
 |s :: S,n=>if n<H*s then(0,n / s,n % s) else let p:=loc H S (n-H*s);(p.1+1,p.2)
def fstS (H:Nat) (S:List Nat) (c h:Nat):Nat:=H*(S.take c).sum+h*S.getD c 0
def AtS (H:Nat) (S:List Nat) (n c h s:Nat):Prop:=c<S.length∧h<H∧s<S.getD c 0∧n=fstS H S c h+s
theorem loc_of {H:Nat}:∀{S:List Nat} {n c h s:Nat},AtS H S n c h s→loc H S n=(c,h,s)
 |[],n,c,h,s,⟨h1,_⟩=>by simp at h1
 |a :: S,n,0,h,s,⟨h1,h2,h3,h4⟩=>by
  simp only[fstS,List.take_zero,List.sum_nil,Nat.mul_zero,a2K,List.getD_cons_zero] at h3 h4
  have hlt:n<H*a:=by
   have:(h+1)*a≤H*a:=a0C _ h2
   rw[Nat.succ_mul] at this
   omega
  have e1:n / a=h:=by
   rw[h4,Nat.mul_comm,Nat.mul_add_div (by omega),Nat.div_eq_of_lt h3,a1L]
  have e2:n % a=s:=by
   rw[h4,Nat.mul_comm,Nat.mul_add_mod,Nat.mod_eq_of_lt h3]
  unfold loc
  rw[if_pos hlt,e1,e2]
 |a :: S,n,c+1,h,s,⟨h1,h2,h3,h4⟩=>by
  simp only[fstS,List.take_succ_cons,List.sum_cons,List.getD_cons_succ,Nat.mul_add] at h3 h4
  have hr:AtS H S (n-H*a) c h s:=⟨by simpa using h1,h2,h3,by unfold fstS;omega⟩
  have ih:=loc_of hr
  unfold loc
  rw[if_neg (by omega)]
  simp only[ih]
theorem at_loc {H:Nat}:∀{S:List Nat} {n:Nat},n<H*S.sum→AtS H S n (loc H S n).1 (loc H S n).2.1 (loc H S n).2.2
 |[],n,h=>by simp at h
 |a :: S,n,h=>by
  unfold loc
  by_cases hlt:n<H*a
  ·rw[if_pos hlt]
   have ha:0<a:=by
    rcases Nat.eq_zero_or_pos a with e|e
    ·subst e;simp at hlt
    ·exact e
   refine⟨by simp,?_,?_,?_⟩
   ·exact Nat.div_lt_of_lt_mul (by rw[Nat.mul_comm];exact hlt)
   ·exact Nat.mod_lt _ ha
   ·simp only[fstS,List.take_zero,List.sum_nil,Nat.mul_zero,a2K,List.getD_cons_zero]
    rw[Nat.mul_comm]
    exact(Nat.div_add_mod n a).symm
  ·rw[if_neg hlt]
   simp only[List.sum_cons,Nat.mul_add] at h
   obtain⟨h1,h2,h3,h4⟩:=at_loc (H:=H) (S:=S) (n:=n-H*a) (by omega)
   refine⟨by simpa using h1,h2,by simpa using h3,?_⟩
   simp only[fstS,List.take_succ_cons,List.sum_cons,List.getD_cons_succ,Nat.mul_add]
   unfold fstS at h4
   omega
theorem fstS_head (H:Nat) (S:List Nat) (c h:Nat):fstS H S c (h+1)=fstS H S c h+S.getD c 0:=by
 unfold fstS
 rw[Nat.succ_mul]
 omega
theorem fstS_cyl (H:Nat) (S:List Nat) (c:Nat) (hc:c<S.length):fstS H S (c+1) 0=fstS H S c H:=by
 unfold fstS
 rw[List.take_succ_eq_append_getElem hc,List.sum_append,Nat.mul_add,Nat.zero_mul,a1L]
 simp[List.getD_eq_getElem?_getD,hc]
theorem fstS_zero (H:Nat) (S:List Nat):fstS H S 0 0=0:=by simp[fstS]
theorem fstS_all (H:Nat) (S:List Nat):fstS H S S.length 0=H*S.sum:=by simp[fstS]
theorem at_prev {H:Nat} {S:List Nat} {n c h s:Nat} (h1:AtS H S (n+1) c h s) (hpos:∀a∈S,0<a) :
  AtS H S n c h (s-1)∧0<s∨s=0∧0<h∧AtS H S n c (h-1) (S.getD c 0-1)∨s=0∧h=0∧0<c∧AtS H S n (c-1) (H-1) (S.getD (c-1) 0-1):=by
 obtain⟨h2,h3,h4,h5⟩:=h1
 have hp:∀c,c<S.length→0<S.getD c 0:=fun c hc=>by
  rw[show S.getD c 0=S[c] by simp[List.getD_eq_getElem?_getD,hc]]
  exact hpos _ (List.getElem_mem hc)
 rcases Nat.eq_zero_or_pos s with rfl|hs
 ·rcases Nat.eq_zero_or_pos h with rfl|hh
  ·rcases Nat.eq_zero_or_pos c with rfl|hc
   ·rw[fstS_zero] at h5;omega
   ·have hp1:=hp (c-1) (by omega)
    have e:=fstS_cyl H S (c-1) (by omega)
    rw[show c-1+1=c by omega] at e
    have e2:=fstS_head H S (c-1) (H-1)
    rw[show H-1+1=H by omega] at e2
    exact .inr (.inr ⟨rfl,rfl,hc,by omega,by omega,by omega,by omega⟩)
  ·have hp1:=hp c h2
   have e:=fstS_head H S c (h-1)
   rw[show h-1+1=h by omega] at e
   exact .inr (.inl ⟨rfl,hh,h2,by omega,by omega,by omega⟩)
 ·exact .inl ⟨⟨h2,h3,by omega,by omega⟩,hs⟩
def kindS (H:Nat) (S:List Nat) (n:Nat):Nat:=
 if(loc H S n).1≠(loc H S (n-1)).1 then 2 else if(loc H S n).2.1≠(loc H S (n-1)).2.1 then 1 else 0
end Go.Proofs
namespace Go.Proofs
open Go Go.Sx
set_option maxHeartbeats 1000000
def sumR (f:Nat→Int) (a:Nat):Nat→Int
 |0=>0
 |k+1=>sumR f a k+f (a+k)
def durS (H:Nat) (S:List Nat) (T:Int) (n:Nat):Int:=T / (S.getD (loc H S n).1 0:Nat)
def cntGt (l:List Nat) (m:Nat):Nat:=(l.filter fun b=>decide (m<b)).length
def FitsQ (n p:Nat) (od:Nat→Prop) (before:List Nat) (r:Nat):Prop:=∀m,m<n→m<r→m∉before→1+cntGt before m≤p∧¬od m∧¬od r
structure IsOrd (n:Nat) (o:List Nat):Prop where
 len:o.length=n
 nd:o.Nodup
 lt:∀x∈o,x<n
theorem getD_get {o:List Nat} {i:Nat} (h:i<o.length):o.getD i 0=o[i]:=by simp[List.getD_eq_getElem?_getD,h]
theorem IsOrd.inj {n:Nat} {o:List Nat} (h:IsOrd n o) {i k:Nat} (hi:i<o.length) (hk:k<o.length) (e:o.getD i 0=o.getD k 0):i=k:=by
 rw[getD_get hi,getD_get hk] at e
 have hp:=a1X.1 h.nd
 rcases Nat.lt_trichotomy i k with g|g|g
 ·exact absurd e (hp i k hi hk g)
 ·exact g
 ·exact absurd e.symm (hp k i hk hi g)
open Classical in
noncomputable def dfsQ (n p:Nat) (od:Nat→Prop):Nat→List Nat→List (List Nat)
 |0,b=>[b]
 |m+1,b=>(List.range n).flatMap fun k=>if k∈b then [] else if FitsQ n p od b k then dfsQ n p od m (b++[k]) else []
noncomputable def allQ (n p:Nat) (od:Nat→Prop):List (List Nat):=dfsQ n p od n []
structure Dk where
 H:Int
 T:Int
 Z:List (Int×Int)
 hk:Int
 ck:Int
 hs:Int×Int
 cs:Int×Int
namespace Dk
def SpanOk (s:Int×Int):Prop:=0≤s.1∧s.1≤s.2∧s.2≤2000
structure Ok (d:Dk):Prop where
 h:1≤d.H∧d.H≤4
 t:1≤d.T∧d.T≤1000
 z:1≤d.Z.length∧d.Z.length≤4
 hk:0≤d.hk∧d.hk≤d.T-1
 ck:0≤d.ck∧d.ck≤d.T-1
 hs:SpanOk d.hs
 cs:SpanOk d.cs
 zone:∀z∈d.Z,(1≤z.1∧z.1≤20)∧(1≤z.2∧z.2≤16)∧d.T % z.2=0
def S (d:Dk):List Nat:=d.Z.flatMap fun z=>List.replicate z.1.toNat z.2.toNat
def cnt (d:Dk):Nat:=d.H.toNat*d.S.sum
def off (d:Dk) (c h:Nat):Int:=(c*d.ck+(c*(d.H-1)+h)*d.hk) % d.T
def ang (d:Dk) (n:Nat):Int:=
 let p:=loc d.H.toNat d.S n
 (d.off p.1 p.2.1+p.2.2*(d.T / (d.S.getD p.1 0:Nat))) % d.T
def gapOf (d:Dk) (skew ticks:Int):Int:=ticks+((skew-ticks) % d.T+d.T) % d.T
def gapK (d:Dk) (hi:Bool) (k:Nat):Int:=
 if k=1 then d.gapOf d.hk (if hi then d.hs.2 else d.hs.1) else if k=2 then d.gapOf d.ck (if hi then d.cs.2 else d.cs.1) else 0
def run (d:Dk) (hi:Bool) (fr ct:Nat):Int:=
 sumR (durS d.H.toNat d.S d.T) fr ct+sumR (fun i=>d.gapK hi (kindS d.H.toNat d.S i)) (fr+1) (ct-1)
def Spre (d:Dk) (i k:Nat):List Nat:=(d.Z.take i).flatMap (fun z=>List.replicate z.1.toNat z.2.toNat)++List.replicate k (d.Z.getD i (0,0)).2.toNat
theorem Spre_zero (d:Dk):d.Spre 0 0=[]:=by simp[Spre]
theorem Spre_all (d:Dk):d.Spre d.Z.length 0=d.S:=by simp[Spre,S]
theorem Spre_succ (d:Dk) (i k:Nat):d.Spre i (k+1)=d.Spre i k++[(d.Z.getD i (0,0)).2.toNat]:=by
 unfold Spre
 rw[List.replicate_succ',a1V]
theorem Spre_zone (d:Dk) (i:Nat) (hi:i<d.Z.length):d.Spre (i+1) 0=d.Spre i (d.Z.getD i (0,0)).1.toNat:=by
 unfold Spre
 rw[List.take_succ_eq_append_getElem hi,List.flatMap_append]
 simp[List.getD_eq_getElem?_getD,hi]
theorem Spre_prefix (d:Dk) (i k:Nat) (hi:i<d.Z.length) (hk:k≤(d.Z.getD i (0,0)).1.toNat):d.Spre i k <+: d.S:=by
 have e:d.S=d.Spre i k++(List.replicate ((d.Z.getD i (0,0)).1.toNat-k) (d.Z.getD i (0,0)).2.toNat++(d.Z.drop (i+1)).flatMap (fun z=>List.replicate z.1.toNat z.2.toNat)):=by
  unfold S Spre
  conv=>lhs;rw[←a1S i d.Z]
  rw[List.flatMap_append,a1V,a2A hi,List.flatMap_cons]
  rw[←a1V (List.replicate k _),List.replicate_append_replicate]
  rw[show d.Z[i]=d.Z.getD i (0,0) by simp[List.getD_eq_getElem?_getD,hi]]
  rw[show k+((d.Z.getD i (0,0)).1.toNat-k)=(d.Z.getD i (0,0)).1.toNat by omega]
 rw[e]
 exact List.prefix_append _ _
theorem Spre_get (d:Dk) (i k:Nat) (hi:i<d.Z.length) (hk:k<(d.Z.getD i (0,0)).1.toNat):(d.Spre i k).length<d.S.length∧d.S.getD (d.Spre i k).length 0=(d.Z.getD i (0,0)).2.toNat∧d.S.take (d.Spre i k).length=d.Spre i k:=by
 obtain⟨t,ht⟩:=d.Spre_prefix i (k+1) hi hk
 rw[Spre_succ,a1V] at ht
 rw[←ht]
 refine⟨by simp,?_,by simp⟩
 simp[List.getD_eq_getElem?_getD]
theorem zone_at {d:Dk} (hd:d.Ok) {i:Nat} (hi:i<d.Z.length):(1≤(d.Z.getD i (0,0)).1∧(d.Z.getD i (0,0)).1≤20)∧(1≤(d.Z.getD i (0,0)).2∧(d.Z.getD i (0,0)).2≤16)∧d.T % (d.Z.getD i (0,0)).2=0:=by
 rw[show d.Z.getD i (0,0)=d.Z[i] by simp[List.getD_eq_getElem?_getD,hi]]
 exact hd.zone _ (List.getElem_mem hi)
theorem S_pos {d:Dk} (hd:d.Ok):∀a∈d.S,0<a∧a≤16:=by
 intro a ha
 unfold S at ha
 obtain⟨z,hz,ha⟩:=List.mem_flatMap.1 ha
 have:=hd.zone z hz
 rw[(List.mem_replicate.1 ha).2]
 omega
theorem Sl_aux:∀(Z:List (Int×Int)),(∀z∈Z,z.1≤20∧z.2≤16)→(Z.flatMap fun z=>List.replicate z.1.toNat z.2.toNat).length≤20*Z.length∧(Z.flatMap fun z=>List.replicate z.1.toNat z.2.toNat).sum≤320*Z.length
 |[],_=>by simp
 |z :: Z,h=>by
  have ih:=Sl_aux Z (fun z hz=>h z (a2E _ hz))
  have hz:=h z List.mem_cons_self
  simp only[List.flatMap_cons,a0P,List.length_replicate,List.sum_append,List.sum_replicate_nat,List.length_cons]
  have:z.1.toNat*z.2.toNat≤20*16:=a2J (by omega) (by omega)
  omega
theorem S_len {d:Dk} (hd:d.Ok):d.S.length≤80∧d.S.sum≤1280:=by
 have:=Sl_aux d.Z (fun z hz=>by have:=hd.zone z hz;omega)
 have:=hd.z
 unfold S
 omega
theorem cnt_le {d:Dk} (hd:d.Ok):d.cnt≤5120:=by
 have:=(S_len hd).2
 have h:=hd.h
 have:d.cnt≤4*1280:=a2J (by omega) this
 omega
end Dk
def nextT (T a t:Int):Int:=t+((a-t) % T+T) % T
structure Rq where
 fr:Int
 ct:Int
 t0:Int
 du:Int
 od:Bool
def Rq.none:Rq:=⟨0,0,0,0,false⟩
structure Qu where
 d:Dk
 cyl:Int
 pas:Int
 sk:List (Int×Int)
 rq:List Rq
namespace Qu
def RqOk (q:Qu) (r:Rq):Prop:=(0≤r.fr∧r.fr≤q.d.cnt-1)∧(1≤r.ct∧r.ct≤q.d.cnt-r.fr)∧(0≤r.t0∧r.t0≤10000)∧-1≤r.du∧r.du≤100000
structure Ok (q:Qu):Prop where
 d:q.d.Ok
 cyl:0≤q.cyl∧q.cyl≤q.d.S.length-1
 skl:q.sk.length=q.d.S.length
 rql:q.rq.length≤6
 pas:0≤q.pas∧q.pas≤6
 sk:∀s∈q.sk,0≤s.1∧s.1≤s.2∧s.2≤5000
 rq:∀r∈q.rq,q.RqOk r
 asc:∀i,i+1<q.rq.length→(q.rq.getD i Rq.none).t0≤(q.rq.getD (i+1) Rq.none).t0
structure Small (q:Qu):Prop where
 ok:q.Ok
 cnt:q.d.cnt≤200
 t:q.d.T≤120
 rql:q.rq.length≤4
def req (q:Qu) (r:Nat):Rq:=q.rq.getD r Rq.none
def cy (q:Qu) (n:Int):Nat:=(loc q.d.H.toNat q.d.S n.toNat).1
def sek (q:Qu) (a b:Nat):Int×Int:=q.sk.getD (max (a-b) (b-a)) (0,0)
def pick (hi:Bool) (s:Int×Int):Int:=if hi then s.2 else s.1
def srv (q:Qu) (r:Nat) (t sk rn:Int):Int:=nextT q.d.T (q.d.ang (q.req r).fr.toNat) (max t (q.req r).t0+sk)+rn
def rn (q:Qu) (hi:Bool) (r:Nat):Int:=q.d.run hi (q.req r).fr.toNat (q.req r).ct.toNat
def stQ (q:Qu) (hi:Bool) (o:List Nat):Nat→Nat×Int
 |0=>(q.cyl.toNat,0)
 |k+1=>(q.cy ((q.req (o.getD k 0)).fr+(q.req (o.getD k 0)).ct-1),
   q.srv (o.getD k 0) (stQ q hi o k).2 (pick hi (q.sek (stQ q hi o k).1 (q.cy (q.req (o.getD k 0)).fr))) (q.rn hi (o.getD k 0)))
def endOf (q:Qu) (hi:Bool) (o:List Nat) (r:Nat):Int:=if r∈o then(q.stQ hi o (o.idxOf r+1)).2 else 0
end Qu
namespace Dk
end Dk
namespace Qu
def n (q:Qu):Nat:=q.rq.length
def od (q:Qu) (r:Nat):Prop:=(q.req r).od=true
noncomputable def all (q:Qu) (p:Int):List (List Nat):=allQ q.n p.toNat q.od
def isLate (q:Qu) (o:List Nat) (r:Nat):Prop:=0≤(q.req r).du∧(q.req r).du<q.endOf true o r
instance (q:Qu) (o:List Nat) (r:Nat):Decidable (q.isLate o r):=inferInstanceAs (Decidable (_∧_))
end Qu
end Go.Proofs
namespace Go.Sx
open Go
variable {P:Program}
end Go.Sx
namespace Go.Proofs
open Go Go.Sx
set_option maxRecDepth 100000
set_option maxHeartbeats 40000000
def zC (z:Int×Int):List V:=[.int .i64 z.1,.int .i64 z.2]
namespace Dk
def c (d:Dk):List V:=[.int .i64 d.H,.int .i64 d.T,.sl 2 d.Z.length (rowOf zC (0,0) d.Z),.int .i64 d.hk,.int .i64 d.ck,.int .i64 d.hs.1,.int .i64 d.hs.2,.int .i64 d.cs.1,.int .i64 d.cs.2]
def v (d:Dk):V:=.agg d.c
open Classical in
noncomputable def chk (d:Dk):Int:=if d.Ok then 0 else 10
theorem chk_ok {d:Dk} (h:d.chk=0):d.Ok:=by unfold chk at h;split at h;assumption;omega
theorem chk_of {d:Dk} (h:d.Ok):d.chk=0:=if_pos h
theorem chk_no {d:Dk} (h:¬d.Ok):d.chk=10:=if_neg h
end Dk
theorem within55 (n x y:Int):PureC Tryz.prog 31 false [.int .i64 n,.int .i64 x,.int .i64 y] (·=.prop (x≤n∧n≤y) inferInstance):=by
 refine pureC_of_exec Tryz.E_ok Tryz.func31 rfl (by kernel_rfl) ?_
 (repeat' ((conv=>whnf);first|(with_reducible first|apply spl|apply spl'|refine iJ ?_)<;>intro hc<;>try(exfalso;omega)|refine vcq ?_|fail));all_goals((try conv=>whnf);try exact trivial);(all_goals(try(refine⟨_,rfl,?_⟩;(repeat' ((conv=>whnf);first|(with_reducible first|apply spl|apply spl'|refine iJ ?_)<;>intro hc<;>try(exfalso;omega)|refine vcq ?_|fail));all_goals((try conv=>whnf);try exact trivial))))
theorem in80 (n x y:Int):PureC Tryz.prog 48 false [.int .i64 n,.int .i64 x,.int .i64 y] (·=.prop (x≤n∧n≤y) inferInstance):=by
 refine pureC_of_exec Tryz.E_ok Tryz.func48 rfl (by kernel_rfl) ?_
 (repeat' ((conv=>whnf);first|(with_reducible first|apply spl|apply spl'|refine iJ ?_)<;>intro hc<;>try(exfalso;omega)|refine vcq ?_|fail));all_goals((try conv=>whnf);try exact trivial);(all_goals(try(refine⟨_,rfl,?_⟩;(repeat' ((conv=>whnf);first|(with_reducible first|apply spl|apply spl'|refine iJ ?_)<;>intro hc<;>try(exfalso;omega)|refine vcq ?_|fail));all_goals((try conv=>whnf);try exact trivial))))
theorem span79 (s:Int×Int):PureC Tryz.prog 83 false [.agg [.int .i64 s.1,.int .i64 s.2]] (·=.prop (Dk.SpanOk s) (inferInstanceAs (Decidable (_∧_∧_)))):=by
 refine pureC_of_exec Tryz.E_ok Tryz.func83 rfl (by kernel_rfl) ?_
 unfold Dk.SpanOk
 (repeat' ((conv=>whnf);first|(with_reducible first|apply spl|apply spl'|refine iJ ?_)<;>intro hc<;>try(exfalso;omega)|refine vcq ?_|fail));all_goals(try conv=>whnf);try exact trivial
 refine⟨_,rfl,?_⟩
 (repeat' ((conv=>whnf);first|(with_reducible first|apply spl|apply spl'|refine iJ ?_)<;>intro hc<;>try(exfalso;omega)|refine vcq ?_|fail));all_goals(try conv=>whnf);try exact trivial
theorem Dk.zat {d:Dk} (h:d.Ok) {i:Nat} (hi:i<d.Z.length):(1≤(d.Z.getD i (0,0)).1∧(d.Z.getD i (0,0)).1≤20)∧(1≤(d.Z.getD i (0,0)).2∧(d.Z.getD i (0,0)).2≤16)∧d.T % (d.Z.getD i (0,0)).2=0:=Dk.zone_at h hi
theorem Check37 (d:Dk) (hl:d.Z.length≤1000000):PureC Tryz.prog 13 false [d.v] (·=.int .i64 d.chk):=by
 refine pureC_of_exec Tryz.E_ok Tryz.func13 rfl (by kernel_rfl) ?_
 (repeat' ((conv=>whnf);first|(with_reducible first|apply spl|apply spl'|refine iJ ?_)<;>intro hc<;>try(exfalso;omega)|refine vcq ?_|fail));all_goals((try conv=>whnf);try exact trivial);(repeat' ((first|(refine callee_fo (within55 _ _ _) rfl ?_;rintro _ rfl)|(refine pcall_intro (within55 _ _ _) rfl ?_)|(refine pcall_soft (fun _=>within55 _ _ _) rfl ?_));(repeat' ((conv=>whnf);first|(with_reducible first|apply spl|apply spl'|refine iJ ?_)<;>intro hc<;>try(exfalso;omega)|refine vcq ?_|fail));all_goals((try conv=>whnf);try exact trivial)))
 ·rw[Dk.chk_no (fun h=>by have:=h.ck;omega)]
  refine⟨_,rfl,?_⟩
  (repeat' ((conv=>whnf);first|(with_reducible first|apply spl|apply spl'|refine iJ ?_)<;>intro hc<;>try(exfalso;omega)|refine vcq ?_|fail));all_goals(try conv=>whnf);try exact trivial
 ·refine⟨Nat,fun i=>i≤d.Z.length∧∀j,j<i→(1≤(d.Z.getD j (0,0)).1∧(d.Z.getD j (0,0)).1≤20)∧(1≤(d.Z.getD j (0,0)).2∧(d.Z.getD j (0,0)).2≤16)∧d.T % (d.Z.getD j (0,0)).2=0,fun i=>d.Z.length-i,fun i=>[(3,.int .i64 (i:Nat))],fun _=>[],fun _=>[],0,⟨⟨by omega,fun j hj=>by omega⟩,none,?_⟩,?_⟩
  ·(repeat' ((conv=>whnf);first|(with_reducible first|apply spl|apply spl'|refine iJ ?_)<;>intro hc<;>try(exfalso;omega)|refine vcq ?_|fail));all_goals(try conv=>whnf);try exact trivial
  ·rintro i ⟨hi,hz⟩
   have hti:(i:Int).toNat=i:=Int.toNat_natCast i
   (repeat' ((conv=>whnf);first|(with_reducible first|apply spl|apply spl'|refine iJ ?_)<;>intro hc<;>try(exfalso;omega)|refine vcq ?_|fail));all_goals((try conv=>whnf);try exact trivial);(repeat' ((first|(refine callee_fo (within55 _ _ _) rfl ?_;rintro _ rfl)|(refine pcall_intro (within55 _ _ _) rfl ?_)|(refine pcall_soft (fun _=>within55 _ _ _) rfl ?_));(repeat' ((conv=>whnf);first|(with_reducible first|apply spl|apply spl'|refine iJ ?_)<;>intro hc<;>try(exfalso;omega)|refine vcq ?_|fail));all_goals((try conv=>whnf);try exact trivial)))
   ·rw[hti] at *
    have hi1:i<d.Z.length:=by omega
    rw[Dk.chk_no (fun h=>by have:=Dk.zat h hi1;rw[Int.tmod_eq_emod_of_nonneg (by omega)] at hc;omega)]
    refine⟨_,rfl,?_⟩
    (repeat' ((conv=>whnf);first|(with_reducible first|apply spl|apply spl'|refine iJ ?_)<;>intro hc<;>try(exfalso;omega)|refine vcq ?_|fail));all_goals(try conv=>whnf);try exact trivial
   ·rw[hti] at *
    have hi1:i<d.Z.length:=by omega
    refine⟨i+1,⟨⟨by omega,fun j hj=>?_⟩,by dsimp only;omega⟩,some [some 0],?_⟩
    ·rcases Nat.lt_or_eq_of_le (show j≤i by omega) with g|rfl
     ·exact hz j g
     ·rw[Int.tmod_eq_emod_of_nonneg (by omega)] at hc
      omega
    ·(repeat' ((conv=>whnf);first|(with_reducible first|apply spl|apply spl'|refine iJ ?_)<;>intro hc<;>try(exfalso;omega)|refine vcq ?_|fail));all_goals(try conv=>whnf);try exact trivial
   ·rw[hti] at *
    have hi1:i<d.Z.length:=by omega
    rw[Dk.chk_no (fun h=>by have:=Dk.zat h hi1;omega)]
    refine⟨_,rfl,?_⟩
    (repeat' ((conv=>whnf);first|(with_reducible first|apply spl|apply spl'|refine iJ ?_)<;>intro hc<;>try(exfalso;omega)|refine vcq ?_|fail));all_goals(try conv=>whnf);try exact trivial
   ·rw[Dk.chk_no (fun h=>by have:=h.hs;have:=h.cs;unfold Dk.SpanOk at *;omega)]
    refine⟨_,rfl,?_⟩
    (repeat' ((conv=>whnf);first|(with_reducible first|apply spl|apply spl'|refine iJ ?_)<;>intro hc<;>try(exfalso;omega)|refine vcq ?_|fail));all_goals(try conv=>whnf);try exact trivial
   ·have hie:i=d.Z.length:=by omega
    subst hie
    rw[Dk.chk_of ⟨by omega,by omega,by omega,by omega,by omega,by unfold Dk.SpanOk;omega,by unfold Dk.SpanOk;omega,fun z hzm=>by
     obtain⟨j,hj,rfl⟩:=List.getElem_of_mem hzm
     have:=hz j hj
     rwa [show d.Z.getD j (0,0)=d.Z[j] by simp[List.getD_eq_getElem?_getD,hj]] at this⟩]
    refine⟨_,rfl,?_⟩
    (repeat' ((conv=>whnf);first|(with_reducible first|apply spl|apply spl'|refine iJ ?_)<;>intro hc<;>try(exfalso;omega)|refine vcq ?_|fail));all_goals(try conv=>whnf);try exact trivial
 ·rw[Dk.chk_no (fun h=>by have:=h.hk;omega)]
  refine⟨_,rfl,?_⟩
  (repeat' ((conv=>whnf);first|(with_reducible first|apply spl|apply spl'|refine iJ ?_)<;>intro hc<;>try(exfalso;omega)|refine vcq ?_|fail));all_goals(try conv=>whnf);try exact trivial
 ·rw[Dk.chk_no (fun h=>by have:=h.z;omega)]
  refine⟨_,rfl,?_⟩
  (repeat' ((conv=>whnf);first|(with_reducible first|apply spl|apply spl'|refine iJ ?_)<;>intro hc<;>try(exfalso;omega)|refine vcq ?_|fail));all_goals(try conv=>whnf);try exact trivial
 ·rw[Dk.chk_no (fun h=>by have:=h.t;omega)]
  refine⟨_,rfl,?_⟩
  (repeat' ((conv=>whnf);first|(with_reducible first|apply spl|apply spl'|refine iJ ?_)<;>intro hc<;>try(exfalso;omega)|refine vcq ?_|fail));all_goals(try conv=>whnf);try exact trivial
 ·rw[Dk.chk_no (fun h=>by have:=h.h;omega)]
  refine⟨_,rfl,?_⟩
  (repeat' ((conv=>whnf);first|(with_reducible first|apply spl|apply spl'|refine iJ ?_)<;>intro hc<;>try(exfalso;omega)|refine vcq ?_|fail));all_goals(try conv=>whnf);try exact trivial
theorem Check63 (d:Dk) (hl:d.Z.length≤1000000):PureC Tryz.prog 69 false [d.v] (·=.int .i64 d.chk):=by
 refine pureC_of_exec Tryz.E_ok Tryz.func69 rfl (by kernel_rfl) ?_
 (repeat' ((conv=>whnf);first|(with_reducible first|apply spl|apply spl'|refine iJ ?_)<;>intro hc<;>try(exfalso;omega)|refine vcq ?_|fail));all_goals((try conv=>whnf);try exact trivial);(repeat' ((first|(refine callee_fo (in80 _ _ _) rfl ?_;rintro _ rfl)|(refine pcall_intro (in80 _ _ _) rfl ?_)|(refine pcall_soft (fun _=>in80 _ _ _) rfl ?_)|(refine callee_fo (span79 d.hs) rfl ?_;rintro _ rfl)|(refine pcall_intro (span79 d.hs) rfl ?_)|(refine pcall_soft (fun _=>span79 d.hs) rfl ?_)|(refine callee_fo (span79 d.cs) rfl ?_;rintro _ rfl)|(refine pcall_intro (span79 d.cs) rfl ?_)|(refine pcall_soft (fun _=>span79 d.cs) rfl ?_));(repeat' ((conv=>whnf);first|(with_reducible first|apply spl|apply spl'|refine iJ ?_)<;>intro hc<;>try(exfalso;omega)|refine vcq ?_|fail));all_goals((try conv=>whnf);try exact trivial)))
 all_goals first
  |(exfalso;contradiction)
  |(rw[Dk.chk_no (fun h=>by have:=h.h;have:=h.t;have:=h.z;have:=h.hk;have:=h.ck;have:=h.hs;have:=h.cs;first|omega|contradiction)];refine⟨_,rfl,?_⟩;(repeat' ((conv=>whnf);first|(with_reducible first|apply spl|apply spl'|refine iJ ?_)<;>intro hc<;>try(exfalso;omega)|refine vcq ?_|fail));all_goals((try conv=>whnf);try exact trivial);done)
  |skip
 refine⟨Nat,fun i=>i≤d.Z.length∧∀j,j<i→(1≤(d.Z.getD j (0,0)).1∧(d.Z.getD j (0,0)).1≤20)∧(1≤(d.Z.getD j (0,0)).2∧(d.Z.getD j (0,0)).2≤16)∧d.T % (d.Z.getD j (0,0)).2=0,fun i=>d.Z.length-i,fun i=>[(48,.int .i64 (i:Nat))],fun _=>[],fun _=>[],0,⟨⟨by omega,fun j hj=>by omega⟩,none,?_⟩,?_⟩
 ·(repeat' ((conv=>whnf);first|(with_reducible first|apply spl|apply spl'|refine iJ ?_)<;>intro hc<;>try(exfalso;omega)|refine vcq ?_|fail));all_goals(try conv=>whnf);try exact trivial
 ·rintro i ⟨hi,hz⟩
  have hti:(i:Int).toNat=i:=Int.toNat_natCast i
  (repeat' ((conv=>whnf);first|(with_reducible first|apply spl|apply spl'|refine iJ ?_)<;>intro hc<;>try(exfalso;omega)|refine vcq ?_|fail));all_goals((try conv=>whnf);try exact trivial);(repeat' ((first|(refine callee_fo (in80 _ _ _) rfl ?_;rintro _ rfl)|(refine pcall_intro (in80 _ _ _) rfl ?_)|(refine pcall_soft (fun _=>in80 _ _ _) rfl ?_));(repeat' ((conv=>whnf);first|(with_reducible first|apply spl|apply spl'|refine iJ ?_)<;>intro hc<;>try(exfalso;omega)|refine vcq ?_|fail));all_goals((try conv=>whnf);try exact trivial)))
  ·rw[hti] at *
   have hi1:i<d.Z.length:=by omega
   rw[Dk.chk_no (fun h=>by have:=Dk.zat h hi1;rw[Int.tmod_eq_emod_of_nonneg (by omega)] at hc;omega)]
   refine⟨_,rfl,?_⟩
   (repeat' ((conv=>whnf);first|(with_reducible first|apply spl|apply spl'|refine iJ ?_)<;>intro hc<;>try(exfalso;omega)|refine vcq ?_|fail));all_goals(try conv=>whnf);try exact trivial
  ·rw[hti] at *
   have hi1:i<d.Z.length:=by omega
   refine⟨i+1,⟨⟨by omega,fun j hj=>?_⟩,by dsimp only;omega⟩,some [some 0],?_⟩
   ·rcases Nat.lt_or_eq_of_le (show j≤i by omega) with g|rfl
    ·exact hz j g
    ·rw[Int.tmod_eq_emod_of_nonneg (by omega)] at hc
     omega
   ·(repeat' ((conv=>whnf);first|(with_reducible first|apply spl|apply spl'|refine iJ ?_)<;>intro hc<;>try(exfalso;omega)|refine vcq ?_|fail));all_goals(try conv=>whnf);try exact trivial
  ·rw[hti] at *
   have hi1:i<d.Z.length:=by omega
   rw[Dk.chk_no (fun h=>by have:=Dk.zat h hi1;omega)]
   refine⟨_,rfl,?_⟩
   (repeat' ((conv=>whnf);first|(with_reducible first|apply spl|apply spl'|refine iJ ?_)<;>intro hc<;>try(exfalso;omega)|refine vcq ?_|fail));all_goals(try conv=>whnf);try exact trivial
  ·have hie:i=d.Z.length:=by omega
   subst hie
   rw[Dk.chk_of ⟨by omega,by omega,by omega,by omega,by omega,Classical.not_not.1 (by assumption),Classical.not_not.1 (by assumption),fun z hzm=>by
    obtain⟨j,hj,rfl⟩:=List.getElem_of_mem hzm
    have:=hz j hj
    rwa [show d.Z.getD j (0,0)=d.Z[j] by simp[List.getD_eq_getElem?_getD,hj]] at this⟩]
   refine⟨_,rfl,?_⟩
   (repeat' ((conv=>whnf);first|(with_reducible first|apply spl|apply spl'|refine iJ ?_)<;>intro hc<;>try(exfalso;omega)|refine vcq ?_|fail));all_goals(try conv=>whnf);try exact trivial
namespace Dk
theorem Spre_len (d:Dk) (i k:Nat):(d.Spre i k).length=(d.Spre i 0).length+k:=by unfold Spre;simp
theorem Spre_sum (d:Dk) (i k:Nat):(d.Spre i k).sum=(d.Spre i 0).sum+k*(d.Z.getD i (0,0)).2.toNat:=by unfold Spre;simp
theorem Spre_len_succ (d:Dk) {i:Nat} (hi:i<d.Z.length):(d.Spre (i+1) 0).length=(d.Spre i 0).length+(d.Z.getD i (0,0)).1.toNat:=by rw[Spre_zone d i hi,Spre_len]
theorem Spre_sum_succ (d:Dk) {i:Nat} (hi:i<d.Z.length):(d.Spre (i+1) 0).sum=(d.Spre i 0).sum+(d.Z.getD i (0,0)).1.toNat*(d.Z.getD i (0,0)).2.toNat:=by rw[Spre_zone d i hi,Spre_sum]
theorem Spre_le {d:Dk} (hd:d.Ok):∀i,i≤d.Z.length→(d.Spre i 0).length≤20*i∧(d.Spre i 0).sum≤320*i
 |0,_=>by rw[Spre_zero];simp
 |i+1,h=>by
  have ih:=Spre_le hd i (by omega)
  have hz:=zone_at hd (show i<d.Z.length by omega)
  rw[Spre_len_succ d (by omega),Spre_sum_succ d (by omega)]
  have:(d.Z.getD i (0,0)).1.toNat*(d.Z.getD i (0,0)).2.toNat≤20*16:=a2J (by omega) (by omega)
  omega
end Dk
theorem mul_bnd {a b m n:Int} (h1:1≤a) (h2:a≤m) (h3:1≤b) (h4:b≤n):0≤a*b∧a*b≤m*n:=
 ⟨Int.mul_nonneg (by omega) (by omega),Int.mul_le_mul h2 h4 (by omega) (by omega)⟩
theorem mul_bnd0 {a b m n:Int} (h1:0≤a) (h2:a≤m) (h3:0≤b) (h4:b≤n):0≤a*b∧a*b≤m*n:=
 ⟨Int.mul_nonneg h1 h3,Int.mul_le_mul h2 h4 h3 (by omega)⟩
theorem Count57 (d:Dk) (hd:d.Ok):PureC Tryz.prog 14 false [d.v] (·=.int .i64 d.cnt):=by
 have hZ:=hd.z
 have hH:=hd.h
 refine pureC_of_exec Tryz.E_ok Tryz.func14 rfl (by kernel_rfl) ?_
 (repeat' ((conv=>whnf);first|(with_reducible first|apply spl|apply spl'|refine iJ ?_)<;>intro hc<;>try(exfalso;omega)|refine vcq ?_|refine dr 18 ?_));all_goals(try conv=>whnf);try exact trivial
 refine⟨Nat,fun i=>i≤d.Z.length,fun i=>d.Z.length-i,fun i=>[(4,.int .i64 (i:Nat)),(3,.int .i64 ((d.H.toNat*(d.Spre i 0).sum:Nat)))],fun _=>[],fun _=>[],0,⟨by omega,none,?_⟩,?_⟩
 ·(repeat' ((conv=>whnf);first|(with_reducible first|apply spl|apply spl'|refine iJ ?_)<;>intro hc<;>try(exfalso;omega)|refine vcq ?_|refine dr 18 ?_));all_goals(try conv=>whnf);try exact trivial
 ·intro i hi
  have hi:i≤d.Z.length:=hi
  have hti:(i:Int).toNat=i:=Int.toNat_natCast i
  have hle:=Dk.Spre_le hd i hi
  by_cases hi1:i<d.Z.length
  ·have hz:=Dk.zone_at hd hi1
   have hs:=Dk.Spre_sum_succ d hi1
   have hle2:=Dk.Spre_le hd (i+1) hi1
   have m1:0≤(d.Z.getD i (0,0)).1*(d.Z.getD i (0,0)).2∧(d.Z.getD i (0,0)).1*(d.Z.getD i (0,0)).2≤20*16:=mul_bnd hz.1.1 hz.1.2 hz.2.1.1 hz.2.1.2
   have m2:0≤(d.Z.getD i (0,0)).1*(d.Z.getD i (0,0)).2*d.H∧(d.Z.getD i (0,0)).1*(d.Z.getD i (0,0)).2*d.H≤320*4:=mul_bnd0 m1.1 m1.2 (by omega) hH.2
   have m3:((d.H.toNat*(d.Spre (i+1) 0).sum:Nat):Int)=((d.H.toNat*(d.Spre i 0).sum:Nat):Int)+(d.Z.getD i (0,0)).1*(d.Z.getD i (0,0)).2*d.H:=by
    rw[hs]
    push_cast
    rw[Int.toNat_of_nonneg (by omega),Int.toNat_of_nonneg (by omega),Int.toNat_of_nonneg (by omega),Int.mul_add,Int.mul_comm d.H ((d.Z.getD i (0,0)).1*_)]
   have m4:d.H.toNat*(d.Spre i 0).sum≤4*1280:=a2J (by omega) (by omega)
   (repeat' ((conv=>whnf);first|(with_reducible first|apply spl|apply spl'|refine iJ ?_)<;>intro hc<;>try(exfalso;omega)|refine vcq ?_|refine dr 18 ?_));all_goals(try conv=>whnf);try exact trivial
   rw[hti]
   (repeat' ((conv=>whnf);first|(with_reducible first|apply spl|apply spl'|refine iJ ?_)<;>intro hc<;>try(exfalso;omega)|refine vcq ?_|refine dr 18 ?_));all_goals(try conv=>whnf);try exact trivial
   refine⟨i+1,⟨by omega,by dsimp only;omega⟩,none,?_⟩
   (repeat' ((conv=>whnf);first|(with_reducible first|apply spl|apply spl'|refine iJ ?_)<;>intro hc<;>try(exfalso;omega)|refine vcq ?_|refine dr 18 ?_));all_goals(try conv=>whnf);try exact trivial
  ·obtain rfl:i=d.Z.length:=by omega
   (repeat' ((conv=>whnf);first|(with_reducible first|apply spl|apply spl'|refine iJ ?_)<;>intro hc<;>try(exfalso;omega)|refine vcq ?_|refine dr 18 ?_));all_goals(try conv=>whnf);try exact trivial
   rw[Dk.Spre_all]
   refine⟨_,rfl,?_⟩
   (repeat' ((conv=>whnf);first|(with_reducible first|apply spl|apply spl'|refine iJ ?_)<;>intro hc<;>try(exfalso;omega)|refine vcq ?_|refine dr 18 ?_));all_goals(try conv=>whnf);try exact trivial
theorem IsSector56 (d:Dk) (hd:d.Ok) (n:Int):PureC Tryz.prog 49 false [d.v,.int .i64 n] (·=.prop (0≤n∧n≤d.cnt-1) inferInstance):=by
 have hc:=d.cnt_le hd
 refine pureC_of_exec Tryz.E_ok Tryz.func49 rfl (by kernel_rfl) ?_
 (repeat' ((conv=>whnf);first|(with_reducible first|apply spl|apply spl'|refine iJ ?_)<;>intro hc<;>try(exfalso;omega)|refine vcq ?_|refine dr 18 ?_));all_goals((try conv=>whnf);try exact trivial);(repeat' ((first|(refine callee_fo (Count57 d hd) rfl ?_;rintro _ rfl)|(refine pcall_intro (Count57 d hd) rfl ?_)|(refine pcall_soft (fun _=>Count57 d hd) rfl ?_)|(refine callee_fo (within55 _ _ _) rfl ?_;rintro _ rfl)|(refine pcall_intro (within55 _ _ _) rfl ?_)|(refine pcall_soft (fun _=>within55 _ _ _) rfl ?_));(repeat' ((conv=>whnf);first|(with_reducible first|apply spl|apply spl'|refine iJ ?_)<;>intro hc<;>try(exfalso;omega)|refine vcq ?_|refine dr 18 ?_));all_goals((try conv=>whnf);try exact trivial)));(all_goals(try(refine⟨_,rfl,?_⟩;(repeat' ((conv=>whnf);first|(with_reducible first|apply spl|apply spl'|refine iJ ?_)<;>intro hc<;>try(exfalso;omega)|refine vcq ?_|refine dr 18 ?_));all_goals((try conv=>whnf);try exact trivial))))
namespace Dk
end Dk
theorem at_lt {H:Nat} {S:List Nat} {n c h s:Nat} (g:AtS H S n c h s):n<H*S.sum:=by
 obtain⟨h1,h2,h3,h4⟩:=g
 have e1:=fstS_head H S c h
 have e2:fstS H S c (h+1)≤fstS H S c H:=by unfold fstS;exact Nat.add_le_add_left (Nat.mul_le_mul_right _ h2) _
 have e3:=fstS_cyl H S c h1
 have e4:fstS H S (c+1) 0≤H*S.sum:=by
  unfold fstS
  rw[Nat.zero_mul,a1L]
  refine Nat.mul_le_mul_left _ ?_
  conv=>rhs;rw[←a1S (c+1) S,List.sum_append]
  omega
 omega
def plC (p:Nat×Nat×Nat):List V:=[.int .i64 p.1,.int .i64 p.2.1,.int .i64 p.2.2]
def Dk.plR (d:Dk) (n:Nat):List V:=plC (loc d.H.toNat d.S n)
theorem Count57w (d:Dk) (h:d.chk=0):PureC Tryz.prog 14 false [d.v] (·=.int .i64 d.cnt):=Count57 d (Dk.chk_ok h)
def Dk.far (d:Dk):Prop:=20<(d.Z.length:Int)∨d.chk=0∧(200<(d.cnt:Int)∨120<d.T)
theorem Far48 (d:Dk) (hl:d.Z.length≤9223372036854775807):PureC Tryz.prog 12 false [d.v] (·=.prop d.far (Classical.propDecidable _)):=by
 refine pureC_of_exec Tryz.E_ok Tryz.func12 rfl (by kernel_rfl) ?_
 unfold Dk.far
 (repeat' ((conv=>whnf);first|(with_reducible first|apply spl|apply spl'|refine iJ ?_)<;>intro hc<;>try(exfalso;omega)|refine vcq ?_|fail));all_goals((try conv=>whnf);try exact trivial);(repeat' ((first|(refine callee_fo (Check37 d (by omega)) rfl ?_;rintro _ rfl)|(refine pcall_intro (Check37 d (by omega)) rfl ?_)|(refine pcall_soft (fun _=>Check37 d (by omega)) rfl ?_));(repeat' ((conv=>whnf);first|(with_reducible first|apply spl|apply spl'|refine iJ ?_)<;>intro hc<;>try(exfalso;omega)|refine vcq ?_|fail));all_goals((try conv=>whnf);try exact trivial)))
 ·have hcn:=d.cnt_le (Dk.chk_ok hc)
  refine callee_fo (Count57w d hc) rfl ?_
  rintro _ rfl
  (repeat' ((conv=>whnf);first|(with_reducible first|apply spl|apply spl'|refine iJ ?_)<;>intro hc<;>try(exfalso;omega)|refine vcq ?_|fail));all_goals(try conv=>whnf);try exact trivial
  all_goals refine⟨_,rfl,?_⟩
  all_goals(repeat' ((conv=>whnf);first|(with_reducible first|apply spl|apply spl'|refine iJ ?_)<;>intro hc<;>try(exfalso;omega)|refine vcq ?_|fail));all_goals(try conv=>whnf);try exact trivial
 ·refine⟨_,rfl,?_⟩
  (repeat' ((conv=>whnf);first|(with_reducible first|apply spl|apply spl'|refine iJ ?_)<;>intro hc<;>try(exfalso;omega)|refine vcq ?_|fail));all_goals(try conv=>whnf);try exact trivial
 ·refine⟨_,rfl,?_⟩
  (repeat' ((conv=>whnf);first|(with_reducible first|apply spl|apply spl'|refine iJ ?_)<;>intro hc<;>try(exfalso;omega)|refine vcq ?_|fail));all_goals(try conv=>whnf);try exact trivial
end Go.Proofs
namespace Go.Proofs
open Go Go.Sx
set_option maxRecDepth 100000
set_option maxHeartbeats 4000000
namespace Tp
def rk (g:Nat→Bool):Nat→Nat
 |0=>0
 |h+1=>rk g h+(if g h then 0 else 1)
theorem rk_succ (g:Nat→Bool) (h:Nat):rk g (h+1)=rk g h+(if g h then 0 else 1):=rfl
theorem rk_mono {g:Nat→Bool} {a:Nat}:∀{b:Nat},a≤b→rk g a≤rk g b
 |0,e=>by rw[Nat.le_zero.1 e];exact a0O _
 |b+1,e=>by
  rcases Nat.lt_or_eq_of_le e with q|q
  ·exact Nat.le_trans (rk_mono (Nat.le_of_lt_succ q)) (by rw[rk_succ];omega)
  ·rw[q];exact a0O _
theorem rk_lt {g:Nat→Bool} {a b:Nat} (h:a<b) (ha:g a=false):rk g a<rk g b:=by
 have:=rk_mono (g:=g) (show a+1≤b from h)
 rw[rk_succ,ha] at this
 simp at this
 omega
theorem rk_le (g:Nat→Bool):∀h,rk g h≤h
 |0=>a0O _
 |h+1=>by have:=rk_le g h;rw[rk_succ];split<;>omega
theorem rk_surj {g:Nat→Bool} {r:Nat}:∀{H:Nat},r<rk g H→∃h,h<H∧g h=false∧rk g h=r
 |0,e=>by cases e
 |H+1,e=>by
  rw[rk_succ] at e
  by_cases q:r<rk g H
  ·obtain⟨h,h1,h2⟩:=rk_surj q
   exact⟨h,by omega,h2⟩
  ·cases hg:g H with
   |true=>rw[hg] at e;simp at e;omega
   |false=>rw[hg] at e;simp at e;exact⟨H,by omega,hg,by omega⟩
def cl (H:Nat) (S:List Nat) (g:Nat→Bool):Nat→Nat
 |0=>0
 |n+1=>cl H S g n+(if g (loc H S n).2.1 then 0 else 1)
theorem cl_succ (H:Nat) (S:List Nat) (g:Nat→Bool) (n:Nat):cl H S g (n+1)=cl H S g n+(if g (loc H S n).2.1 then 0 else 1):=rfl
theorem cl_mono {H:Nat} {S:List Nat} {g:Nat→Bool} {a:Nat}:∀{b:Nat},a≤b→cl H S g a≤cl H S g b
 |0,e=>by rw[Nat.le_zero.1 e];exact a0O _
 |b+1,e=>by
  rcases Nat.lt_or_eq_of_le e with q|q
  ·exact Nat.le_trans (cl_mono (Nat.le_of_lt_succ q)) (by rw[cl_succ];omega)
  ·rw[q];exact a0O _
theorem cl_lt {H:Nat} {S:List Nat} {g:Nat→Bool} {a b:Nat} (h:a<b) (ha:g (loc H S a).2.1=false):cl H S g a<cl H S g b:=by
 have:=cl_mono (H:=H) (S:=S) (g:=g) (show a+1≤b from h)
 rw[cl_succ,ha] at this
 simp at this
 omega
theorem cl_le (H:Nat) (S:List Nat) (g:Nat→Bool):∀n,cl H S g n≤n
 |0=>a0O _
 |n+1=>by have:=cl_le H S g n;rw[cl_succ];split<;>omega
theorem sum_pos {S:List Nat} (hpos:∀a∈S,0<a) {c:Nat} (hc:c<S.length) (h0:0<c):0<(S.take c).sum:=by
 cases S with
 |nil=>simp at hc
 |cons a S=>
  obtain⟨k,rfl⟩:∃k,c=k+1:=⟨c-1,by omega⟩
  rw[List.take_succ_cons,List.sum_cons]
  have:=hpos a (List.mem_cons_self ..)
  omega
theorem getD_pos {S:List Nat} (hpos:∀a∈S,0<a) {c:Nat} (hc:c<S.length):0<S.getD c 0:=by
 rw[List.getD_eq_getElem?_getD,a0I hc]
 exact hpos _ (List.getElem_mem hc)
theorem at_zero {H:Nat} {S:List Nat} {c h s:Nat} (hpos:∀a∈S,0<a) (a:AtS H S 0 c h s):c=0∧h=0∧s=0:=by
 obtain⟨h1,h2,h3,h4⟩:=a
 have hs:s=0:=by omega
 have hf:fstS H S c h=0:=by omega
 unfold fstS at hf
 have hS:=getD_pos hpos h1
 have e1:h*S.getD c 0=0:=by omega
 have e2:H*(S.take c).sum=0:=by omega
 have hh:h=0:=by
  rcases Nat.mul_eq_zero.1 e1 with q|q
  ·exact q
  ·omega
 refine⟨?_,hh,hs⟩
 rcases Nat.eq_zero_or_pos c with q|q
 ·exact q
 ·have:=sum_pos hpos h1 q
  rcases Nat.mul_eq_zero.1 e2 with r|r<;>omega
theorem cl_at {H:Nat} {S:List Nat} {g:Nat→Bool} (hpos:∀a∈S,0<a):∀{n c h s:Nat},AtS H S n c h s→cl H S g n=fstS (rk g H) S c (rk g h)+(if g h then 0 else s)
 |0,c,h,s,a=>by
  obtain⟨rfl,rfl,rfl⟩:=at_zero hpos a
  change 0=fstS _ _ 0 0+_
  rw[fstS_zero]
  simp
 |n+1,c,h,s,a=>by
  rcases at_prev a hpos with⟨b,hs⟩|⟨rfl,hh,b⟩|⟨rfl,rfl,hc,b⟩
  ·rw[cl_succ,cl_at hpos b,loc_of b]
   dsimp only
   cases g h<;>simp
   omega
  ·have hS:=getD_pos hpos a.1
   obtain⟨k,rfl⟩:∃k,h=k+1:=⟨h-1,by omega⟩
   rw[cl_succ,cl_at hpos b,loc_of b]
   dsimp only
   rw[Nat.add_sub_cancel,rk_succ]
   cases g k
   ·simp only[a1N,if_false,ite_self]
    rw[fstS_head]
    omega
   ·simp
  ·obtain⟨k,rfl⟩:∃k,c=k+1:=⟨c-1,by omega⟩
   have hH:=a.2.1
   have hk:=b.1
   have hS:=getD_pos hpos hk
   obtain⟨m,rfl⟩:∃m,H=m+1:=⟨H-1,by omega⟩
   simp only[Nat.add_sub_cancel] at hk hS b
   have ih:=cl_at hpos (g:=g) b
   rw[cl_succ,ih,loc_of b]
   dsimp only
   have e:=fstS_cyl (rk g (m+1)) S k hk
   have e0:rk g 0=0:=rfl
   rw[e0,e,rk_succ]
   cases hg:g m
   ·simp only[a1N,if_false,ite_self]
    rw[fstS_head]
    omega
   ·simp
theorem less_at {H:Nat} {S:List Nat} {g:Nat→Bool} (hpos:∀a∈S,0<a) {n c h s:Nat} (a:AtS H S n c h s) (hg:g h=false):AtS (rk g H) S (cl H S g n) c (rk g h) s:=
 ⟨a.1,rk_lt a.2.1 hg,a.2.2.1,by rw[cl_at hpos a,hg];rfl⟩
theorem less_surj {H:Nat} {S:List Nat} {g:Nat→Bool} (hpos:∀a∈S,0<a) {n c h s:Nat} (a:AtS (rk g H) S n c h s):∃k m,g k=false∧rk g k=h∧AtS H S m c k s∧cl H S g m=n:=by
 obtain⟨k,h1,h2,h3⟩:=rk_surj a.2.1
 have b:AtS H S (fstS H S c k+s) c k s:=⟨a.1,h1,a.2.2.1,rfl⟩
 refine⟨k,_,h2,h3,b,?_⟩
 rw[cl_at hpos b,h2,h3]
 exact a.2.2.2.symm
theorem cl_inj {H:Nat} {S:List Nat} {g:Nat→Bool} {a b:Nat} (ha:g (loc H S a).2.1=false) (hb:g (loc H S b).2.1=false) (e:cl H S g a=cl H S g b):a=b:=by
 rcases Nat.lt_trichotomy a b with q|q|q
 ·have:=cl_lt q ha;omega
 ·exact q
 ·have:=cl_lt q hb;omega
structure Tr where
 d:Dk
 sp:Int
 P:List (List Int)
 ms:Int
 fl:Int
 mg:Int
 sc:Int
 mo:Int
 nd:Int
def PassOk (n:Nat) (l:List Int):Prop:=l.Pairwise (·<·)∧∀x∈l,0≤x∧x<n
theorem passOk_adj {n:Nat}:∀{l:List Int},(∀k,k<l.length→(0≤l.getD k 0∧l.getD k 0<n)∧(0<k→l.getD (k-1) 0<l.getD k 0))→PassOk n l
 |[],_=>⟨List.Pairwise.nil,by simp⟩
 |a :: l,h=>by
  have h0:=(h 0 (Nat.succ_pos _)).1
  have ih:=passOk_adj (n:=n) (l:=l) fun k hk=>by
   have:=h (k+1) (Nat.succ_lt_succ hk)
   refine⟨this.1,fun hp=>?_⟩
   have q:=this.2 (Nat.succ_pos _)
   obtain⟨j,rfl⟩:∃j,k=j+1:=⟨k-1,by omega⟩
   exact q
  refine⟨List.pairwise_cons.2 ⟨fun x hx=>?_,ih.1⟩,fun x hx=>?_⟩
  ·cases l with
   |nil=>simp at hx
   |cons b l=>
    have h1:a<b:=(h 1 (by simp)).2 (by omega)
    rcases a0R.1 hx with q|q
    ·rw[q];exact h1
    ·have:=(List.pairwise_cons.1 ih.1).1 x q
     omega
  ·rcases a0R.1 hx with q|q
   ·rw[q];exact h0
   ·exact ih.2 x q
theorem passOk_get {n:Nat} {l:List Int} (h:PassOk n l) {k:Nat} (hk:k<l.length):(0≤l.getD k 0∧l.getD k 0<n)∧(0<k→l.getD (k-1) 0<l.getD k 0):=by
 have e:∀i,i<l.length→l.getD i 0∈l:=fun i hi=>by
  rw[List.getD_eq_getElem?_getD,a0I hi]
  exact List.getElem_mem hi
 refine⟨h.2 _ (e k hk),fun hp=>?_⟩
 have:=a1X.1 h.1 (k-1) k (by omega) hk (by omega)
 rw[List.getD_eq_getElem?_getD,List.getD_eq_getElem?_getD,a0I hk,a0I (show k-1<l.length by omega)]
 exact this
namespace Tr
structure Ok (t:Tr):Prop where
 d:t.d.Ok
 sp:0≤t.sp∧t.sp≤20
 P:1≤t.P.length∧t.P.length≤8
 ms:0≤t.ms∧t.ms≤8
 fl:0≤t.fl∧t.fl≤8
 mg:0≤t.mg∧t.mg≤4
 sc:0≤t.sc∧t.sc≤4
 mo:0≤t.mo∧t.mo≤5120
 nd:0≤t.nd∧t.nd≤5120
 pass:∀l∈t.P,PassOk t.d.cnt l
def flg (t:Tr) (n:Nat):Nat:=t.P.countP fun l=>decide ((n:Int)∈l)
def bad (t:Tr) (n:Nat):Prop:=(t.P.length:Int)-t.flg n≤t.ms
def good (t:Tr) (n:Nat):Prop:=(t.flg n:Int)≤t.fl
instance (t:Tr) (n:Nat):Decidable (t.bad n):=inferInstanceAs (Decidable (_≤_))
instance (t:Tr) (n:Nat):Decidable (t.good n):=inferInstanceAs (Decidable (_≤_))
def Poss (t:Tr):Prop:=∀n,n<t.d.cnt→t.bad n∨t.good n
end Tr
def lessL (H:Nat) (S:List Nat) (g:Nat→Bool) (l:List Int):List Int:=(l.filter fun x=>!g (loc H S x.toNat).2.1).map fun x=>(cl H S g x.toNat:Int)
theorem at_cnt {H:Nat} {S:List Nat} {n c h s:Nat} (g:AtS H S n c h s):n<H*S.sum:=by
 obtain⟨h1,h2,h3,h4⟩:=g
 have e1:=fstS_head H S c h
 have e2:fstS H S c (h+1)≤fstS H S c H:=by unfold fstS;exact Nat.add_le_add_left (Nat.mul_le_mul_right _ h2) _
 have e3:=fstS_cyl H S c h1
 have e4:fstS H S (c+1) 0≤H*S.sum:=by
  unfold fstS
  rw[Nat.zero_mul,a1L]
  refine Nat.mul_le_mul_left _ ?_
  conv=>rhs;rw[←a1S (c+1) S,List.sum_append]
  omega
 omega
theorem lessL_ok {H:Nat} {S:List Nat} {g:Nat→Bool} (hpos:∀a∈S,0<a) {l:List Int} (h:PassOk (H*S.sum) l):PassOk (rk g H*S.sum) (lessL H S g l):=by
 refine⟨?_,fun x hx=>?_⟩
 ·unfold lessL
  rw[a2F]
  have h2:(l.filter fun x=>!g (loc H S x.toNat).2.1).Pairwise (·<·):=h.1.filter _
  refine(List.Pairwise.and_mem.1 h2).imp ?_
  rintro a b ⟨ha,hb,hab⟩
  rw[List.mem_filter] at ha
  have ha0:=h.2 a ha.1
  have:=cl_lt (H:=H) (S:=S) (g:=g) (show a.toNat<b.toNat by omega) (by simpa using ha.2)
  omega
 ·unfold lessL at hx
  obtain⟨y,hy,rfl⟩:=List.mem_map.1 hx
  rw[List.mem_filter] at hy
  have hy0:=h.2 y hy.1
  have ha:=less_at hpos (at_loc (H:=H) (S:=S) (n:=y.toNat) (by omega)) (g:=g) (by simpa using hy.2)
  have:=at_cnt ha
  omega
theorem mem_lessL {H:Nat} {S:List Nat} {g:Nat→Bool} {l:List Int} (h:∀x∈l,0≤x) {m:Nat} (hm:g (loc H S m).2.1=false):(cl H S g m:Int)∈lessL H S g l↔(m:Int)∈l:=by
 unfold lessL
 constructor
 ·intro q
  obtain⟨y,hy,e⟩:=List.mem_map.1 q
  rw[List.mem_filter] at hy
  have:=cl_inj (by simpa using hy.2) hm (Int.ofNat.inj e)
  have h0:=h y hy.1
  have e2:y=(m:Int):=by omega
  rw[←e2]
  exact hy.1
 ·intro q
  exact List.mem_map.2 ⟨(m:Int),List.mem_filter.2 ⟨q,by rw[Int.toNat_natCast,hm];rfl⟩,by rw[Int.toNat_natCast]⟩
namespace Tr
def gv (s:Nat):Nat→Bool:=fun h=>s.testBit h
def less (t:Tr) (s:Nat):Tr:={t with d:={t.d with H:=(rk (gv s) t.d.H.toNat:Nat)},P:=t.P.map (lessL t.d.H.toNat t.d.S (gv s))}
theorem less_S (t:Tr) (s:Nat):(t.less s).d.S=t.d.S:=rfl
theorem less_H (t:Tr) (s:Nat):(t.less s).d.H.toNat=rk (gv s) t.d.H.toNat:=Int.toNat_natCast _
theorem less_cnt (t:Tr) (s:Nat):(t.less s).d.cnt=rk (gv s) t.d.H.toNat*t.d.S.sum:=by
 unfold Dk.cnt
 rw[less_H,less_S]
theorem less_ok {t:Tr} (h:t.Ok) {s:Nat} (hs:0<rk (gv s) t.d.H.toNat):(t.less s).Ok:=by
 have hd:=h.d
 have h4:=rk_le (gv s) t.d.H.toNat
 have hH:=hd.h
 refine⟨⟨⟨?_,?_⟩,hd.t,hd.z,hd.hk,hd.ck,hd.hs,hd.cs,hd.zone⟩,h.sp,?_,h.ms,h.fl,h.mg,h.sc,h.mo,h.nd,fun l hl=>?_⟩
 ·change (1:Int)≤(rk (gv s) t.d.H.toNat:Nat)
  omega
 ·change ((rk (gv s) t.d.H.toNat:Nat):Int)≤4
  omega
 ·change 1≤(t.P.map _).length∧(t.P.map _).length≤8
  rw[List.length_map]
  exact h.P
 ·obtain⟨l',hl',rfl⟩:=List.mem_map.1 hl
  rw[less_cnt]
  exact lessL_ok (fun a ha=>(Dk.S_pos hd a ha).1) (h.pass l' hl')
theorem less_flg {t:Tr} (h:t.Ok) (s:Nat) {m:Nat} (hm:gv s (loc t.d.H.toNat t.d.S m).2.1=false):(t.less s).flg (cl t.d.H.toNat t.d.S (gv s) m)=t.flg m:=by
 unfold flg
 change (t.P.map _).countP _=_
 rw[List.countP_map]
 refine List.countP_congr fun l hl=>?_
 have:=mem_lessL (g:=gv s) (H:=t.d.H.toNat) (S:=t.d.S) (l:=l) (fun x hx=>((h.pass l hl).2 x hx).1) hm
 simp only[Function.comp,decide_eq_true_eq]
 exact this
theorem less_bad {t:Tr} (h:t.Ok) (s:Nat) {m:Nat} (hm:gv s (loc t.d.H.toNat t.d.S m).2.1=false):(t.less s).bad (cl t.d.H.toNat t.d.S (gv s) m)↔t.bad m:=by
 unfold bad
 rw[less_flg h s hm]
 change ((t.P.map _).length:Int)-_≤t.ms↔_
 rw[List.length_map]
theorem less_good {t:Tr} (h:t.Ok) (s:Nat) {m:Nat} (hm:gv s (loc t.d.H.toNat t.d.S m).2.1=false):(t.less s).good (cl t.d.H.toNat t.d.S (gv s) m)↔t.good m:=by
 unfold good
 rw[less_flg h s hm]
 exact Iff.rfl
theorem less_ex {t:Tr} (h:t.Ok) {s n':Nat} (hn:n'<(t.less s).d.cnt):∃m,m<t.d.cnt∧gv s (loc t.d.H.toNat t.d.S m).2.1=false∧cl t.d.H.toNat t.d.S (gv s) m=n':=by
 rw[less_cnt] at hn
 obtain⟨k,m,h1,h2,h3,h4⟩:=less_surj (fun a ha=>(Dk.S_pos h.d a ha).1) (at_loc hn)
 refine⟨m,at_cnt h3,?_,h4⟩
 rw[loc_of h3]
 exact h1
theorem less_poss {t:Tr} (h:t.Ok) (hp:t.Poss) (s:Nat):(t.less s).Poss:=by
 intro n' hn
 obtain⟨m,h1,h2,rfl⟩:=less_ex h hn
 rw[less_bad h s h2,less_good h s h2]
 exact hp m h1
end Tr
def zoneI:List (Int×Int)→Int→Nat
 |[],_=>0
 |z :: Z,c=>if c<z.1 then 0 else zoneI Z (c-z.1)+1
def vld (d:Dk) (c h s:Int):Prop:=(0≤c∧c<d.S.length)∧(0≤h∧h<d.H)∧0≤s∧s<(d.S.getD c.toNat 0:Nat)
instance (d:Dk) (c h s:Int):Decidable (vld d c h s):=inferInstanceAs (Decidable (_∧_∧_∧_))
def numZ (d:Dk) (c h s:Int):Nat:=fstS d.H.toNat d.S c.toNat h.toNat+s.toNat
def numO (d:Dk) (c h s:Int):Nat:=if vld d c h s then numZ d c h s else 0
theorem vld_at {d:Dk} {c h s:Int} (v:vld d c h s):AtS d.H.toNat d.S (numZ d c h s) c.toNat h.toNat s.toNat:=by
 obtain⟨h1,h2,h3⟩:=v
 exact⟨by omega,by omega,by omega,rfl⟩
theorem vld_lt {d:Dk} {c h s:Int} (v:vld d c h s):numZ d c h s<d.cnt:=at_cnt (vld_at v)
theorem numO_lt {d:Dk} (hd:0<d.cnt) (c h s:Int):numO d c h s<d.cnt:=by
 unfold numO
 split
 ·rename_i v
  exact vld_lt v
 ·exact hd
theorem vld_loc {d:Dk} (hd:d.Ok) {n:Nat} (hn:n<d.cnt):vld d (loc d.H.toNat d.S n).1 (loc d.H.toNat d.S n).2.1 (loc d.H.toNat d.S n).2.2∧numZ d (loc d.H.toNat d.S n).1 (loc d.H.toNat d.S n).2.1 (loc d.H.toNat d.S n).2.2=n:=by
 have hH:=hd.h
 obtain⟨h1,h2,h3,h4⟩:=at_loc (H:=d.H.toNat) (S:=d.S) (n:=n) hn
 generalize loc d.H.toNat d.S n=p at *
 refine⟨⟨⟨by omega,by omega⟩,⟨by omega,by omega⟩,by omega,?_⟩,?_⟩
 ·rw[Int.toNat_natCast];omega
 ·unfold numZ
  simp only[Int.toNat_natCast]
  exact h4.symm
theorem cnt_pos {d:Dk} (hd:d.Ok):0<d.cnt:=by
 have hz:=hd.z
 have hH:=hd.h
 have h0:=Dk.zone_at hd (show 0<d.Z.length by omega)
 have hg:=Dk.Spre_get d 0 0 (by omega) (by omega)
 have hp:=getD_pos (fun a ha=>(Dk.S_pos hd a ha).1) hg.1
 have ha:AtS d.H.toNat d.S (fstS d.H.toNat d.S (d.Spre 0 0).length 0+0) (d.Spre 0 0).length 0 0:=⟨hg.1,by omega,by omega,rfl⟩
 exact Nat.lt_of_le_of_lt (a2I _) (at_cnt ha)
namespace Tr
def lc (t:Tr) (n:Nat):Nat×Nat×Nat:=loc t.d.H.toNat t.d.S n
def scr (t:Tr) (m o:Nat):Prop:=(t.lc m).2.1=(t.lc o).2.1∧(t.lc o).1=(t.lc m).1+2∧zoneI t.d.Z (t.lc m).1=zoneI t.d.Z (t.lc o).1∧((max (t.lc m).2.2 (t.lc o).2.2:Nat):Int)-(min (t.lc m).2.2 (t.lc o).2.2:Nat)≤t.sc
instance (t:Tr) (m o:Nat):Decidable (t.scr m o):=inferInstanceAs (Decidable (_∧_∧_∧_))
def scrN (t:Tr) (m o n:Nat):Prop:=t.scr m o∧∃s,s<max (t.lc m).2.2 (t.lc o).2.2+1∧min (t.lc m).2.2 (t.lc o).2.2≤s∧n=numO t.d ((t.lc m).1+1:Nat) (t.lc m).2.1 s
instance (t:Tr) (m o n:Nat):Decidable (t.scrN m o n):=inferInstanceAs (Decidable (_∧_))
def mrk (t:Tr) (n:Nat):Prop:=∃m,m<t.d.cnt∧t.bad m∧(n=m∨∃o,o<t.d.cnt∧t.bad o∧t.scrN m o n)
instance (t:Tr) (n:Nat):Decidable (t.mrk n):=inferInstanceAs (Decidable (∃_,_∧_))
def al (t:Tr) (x:Nat):Prop:=∃n,n<t.d.cnt∧t.mrk n∧∃s,s<t.d.S.getD (t.lc n).1 0∧(((t.lc n).2.2:Int)-t.mg≤s∧(s:Int)≤(t.lc n).2.2+t.mg)∧x=numZ t.d (t.lc n).1 (t.lc n).2.1 s
instance (t:Tr) (x:Nat):Decidable (t.al x):=inferInstanceAs (Decidable (∃_,_∧_))
def mapL (t:Tr):List Int:=((List.range t.d.cnt).filter fun x:Nat=>decide (t.al x)).map fun x:Nat=>(x:Int)
theorem mrk_lt {t:Tr} (h:0<t.d.cnt) {n:Nat} (k:t.mrk n):n<t.d.cnt:=by
 obtain⟨m,h1,_,rfl|⟨o,_,_,_,s,_,_,rfl⟩⟩:=k
 ·exact h1
 ·exact numO_lt h ((t.lc m).1+1:Nat) (t.lc m).2.1 s
theorem mapL_ok (t:Tr):PassOk t.d.cnt t.mapL:=by
 refine⟨?_,fun x hx=>?_⟩
 ·unfold mapL
  rw[a2F]
  refine List.Pairwise.imp ?_ ((List.pairwise_lt_range (n:=t.d.cnt)).filter _)
  intro a b q
  omega
 ·unfold mapL at hx
  obtain⟨y,hy,rfl⟩:=List.mem_map.1 hx
  have:=a1Z.1 (List.mem_filter.1 hy).1
  omega
theorem bad_map {t:Tr} (h:t.Ok) {n:Nat} (hn:n<t.d.cnt) (hb:t.bad n):(n:Int)∈t.mapL:=by
 obtain⟨h1,h2⟩:=vld_loc h.d hn
 have hg:=h.mg
 have hal:t.al n:=by
  have h3:=h1.2.2.2
  rw[Int.toNat_natCast] at h3
  exact⟨n,hn,⟨n,hn,hb,.inl rfl⟩,(t.lc n).2.2,by unfold lc;omega,by unfold lc;omega,h2.symm⟩
 exact List.mem_map.2 ⟨n,List.mem_filter.2 ⟨List.mem_range.2 hn,by simpa using hal⟩,rfl⟩
end Tr
def goodK (L:List Int) (a:Nat):Nat→List Int
 |0=>[]
 |k+1=>goodK L a k++(if((a+k:Nat):Int)∈L then [] else [((a+k:Nat):Int)])
theorem goodK_succ (L:List Int) (a k:Nat):goodK L a (k+1)=goodK L a k++(if((a+k:Nat):Int)∈L then [] else [((a+k:Nat):Int)]):=rfl
theorem goodK_mem {L:List Int} {a:Nat}:∀{k:Nat} {x:Int},x∈goodK L a k→x∉L∧(a:Int)≤x∧x<((a+k:Nat):Int)
 |0,x,h=>(List.not_mem_nil h).elim
 |k+1,x,h=>by
  rw[goodK_succ] at h
  rcases a0U.1 h with q|q
  ·have:=goodK_mem q
   exact⟨this.1,by omega,by omega⟩
  ·split at q
   ·exact(List.not_mem_nil q).elim
   ·rename_i hn
    rw[List.mem_singleton] at q
    subst q
    exact⟨hn,by omega,by omega⟩
theorem goodK_asc {L:List Int} {a:Nat}:∀k,(goodK L a k).Pairwise (·<·)
 |0=>List.Pairwise.nil
 |k+1=>by
  rw[goodK_succ,List.pairwise_append]
  refine⟨goodK_asc k,?_,fun x hx y hy=>?_⟩
  ·split
   ·exact List.Pairwise.nil
   ·exact List.pairwise_singleton ..
  ·split at hy
   ·exact(List.not_mem_nil hy).elim
   ·rw[List.mem_singleton] at hy
    have:=goodK_mem hx
    omega
theorem goodK_len (L:List Int) (a:Nat):∀k,(goodK L a k).length≤k
 |0=>a0O _
 |k+1=>by
  have:=goodK_len L a k
  rw[goodK_succ,a0P]
  split
  ·exact Nat.le_succ_of_le this
  ·rw[List.length_singleton];omega
def zF (d:Dk) (i:Nat):Nat:=d.H.toNat*(d.Spre i 0).sum
def blk (d:Dk) (sp:Int) (L:List Int):Nat→List Int
 |0=>[]
 |i+1=>blk d sp L i++(goodK L (zF d i) (zF d (i+1)-zF d i)).take ((goodK L (zF d i) (zF d (i+1)-zF d i)).length-sp.toNat)
theorem blk_succ (d:Dk) (sp:Int) (L:List Int) (i:Nat):blk d sp L (i+1)=blk d sp L i++(goodK L (zF d i) (zF d (i+1)-zF d i)).take ((goodK L (zF d i) (zF d (i+1)-zF d i)).length-sp.toNat):=rfl
theorem blk_mem {d:Dk} {sp:Int} {L:List Int} (hm:∀i,i<d.Z.length→zF d i≤zF d (i+1)):∀{i:Nat},i≤d.Z.length→∀x∈blk d sp L i,x∉L∧0≤x∧x<zF d i
 |0,_,x,h=>(List.not_mem_nil h).elim
 |i+1,hi,x,h=>by
  have:=hm i hi
  rw[blk_succ] at h
  rcases a0U.1 h with q|q
  ·have:=blk_mem hm (Nat.le_of_lt hi) x q
   exact⟨this.1,by omega,by omega⟩
  ·have:=goodK_mem (a0L q)
   exact⟨this.1,by omega,by omega⟩
theorem blk_asc {d:Dk} {sp:Int} {L:List Int} (hm:∀i,i<d.Z.length→zF d i≤zF d (i+1)):∀{i:Nat},i≤d.Z.length→(blk d sp L i).Pairwise (·<·)
 |0,_=>List.Pairwise.nil
 |i+1,hi=>by
  rw[blk_succ,List.pairwise_append]
  refine⟨blk_asc hm (Nat.le_of_lt hi),(goodK_asc _).sublist (List.take_sublist ..),fun x hx y hy=>?_⟩
  have h1:=blk_mem hm (Nat.le_of_lt hi) x hx
  have h2:=goodK_mem (a0L hy)
  omega
theorem blk_get {d:Dk} {sp:Int} {L:List Int} (hm:∀i,i<d.Z.length→zF d i≤zF d (i+1)) (he:zF d d.Z.length=d.cnt) {a:Nat} (ha:a<(blk d sp L d.Z.length).length) :
  (blk d sp L d.Z.length).getD a 0∉L∧(0≤(blk d sp L d.Z.length).getD a 0∧(blk d sp L d.Z.length).getD a 0<d.cnt)∧∀b,b<(blk d sp L d.Z.length).length→(blk d sp L d.Z.length).getD a 0=(blk d sp L d.Z.length).getD b 0→a=b:=by
 have hk:=blk_asc (sp:=sp) (L:=L) hm (a0O _)
 have hx:=blk_mem (sp:=sp) (L:=L) hm (a0O _)
 rw[he] at hx
 generalize blk d sp L d.Z.length=B at *
 have hg:∀i (hi:i<B.length),B.getD i 0=B[i]:=fun i hi=>by
  rw[List.getD_eq_getElem?_getD,a0I hi];rfl
 have h0:=hx _ (List.getElem_mem ha)
 rw[←hg a ha] at h0
 refine⟨h0.1,h0.2,fun b hb e=>?_⟩
 rw[hg a ha,hg b hb] at e
 rcases Nat.lt_trichotomy a b with q|q|q
 ·have:=a1X.1 hk a b ha hb q;omega
 ·exact q
 ·have:=a1X.1 hk b a hb ha q;omega
namespace Tr
def blks (t:Tr):List Int:=blk t.d t.sp t.mapL t.d.Z.length
end Tr
theorem zF_le (d:Dk) {i:Nat} (hi:i<d.Z.length):zF d i≤zF d (i+1):=by
 unfold zF
 refine Nat.mul_le_mul_left _ ?_
 rw[Dk.Spre_zone d i hi]
 have e:(d.Spre i (d.Z.getD i (0,0)).1.toNat).sum=(d.Spre i 0).sum+(d.Z.getD i (0,0)).1.toNat*(d.Z.getD i (0,0)).2.toNat:=by unfold Dk.Spre;simp
 omega
theorem zF_all (d:Dk):zF d d.Z.length=d.cnt:=by unfold zF Dk.cnt;rw[Dk.Spre_all]
theorem zF_succ (d:Dk) {i:Nat} (hi:i<d.Z.length):zF d (i+1)=zF d i+d.H.toNat*((d.Z.getD i (0,0)).1.toNat*(d.Z.getD i (0,0)).2.toNat):=by
 unfold zF
 rw[Dk.Spre_zone d i hi]
 have e:(d.Spre i (d.Z.getD i (0,0)).1.toNat).sum=(d.Spre i 0).sum+(d.Z.getD i (0,0)).1.toNat*(d.Z.getD i (0,0)).2.toNat:=by unfold Dk.Spre;simp
 rw[e,Nat.mul_add]
namespace Tr
variable {t:Tr}
def whl (t:Tr) (s:Nat) (x m:Int):Prop:=∃k,gv s k=false∧rk (gv s) k=((t.less s).lc x.toNat).2.1∧vld t.d ((t.less s).lc x.toNat).1 (k:Nat) ((t.less s).lc x.toNat).2.2∧m=numZ t.d ((t.less s).lc x.toNat).1 (k:Nat) ((t.less s).lc x.toNat).2.2
theorem lc_less (s n:Nat):(t.less s).lc n=loc (rk (gv s) t.d.H.toNat) t.d.S n:=by
 unfold lc
 rw[less_H,less_S]
theorem whl_ex (h:t.Ok) {s:Nat} {x:Int} (hx:0≤x∧x<(t.less s).d.cnt):∃k:Nat,k<t.d.H.toNat∧gv s k=false∧rk (gv s) k=((t.less s).lc x.toNat).2.1∧vld t.d ((t.less s).lc x.toNat).1 (k:Nat) ((t.less s).lc x.toNat).2.2:=by
 have hH:=h.d.h
 have hn:x.toNat<rk (gv s) t.d.H.toNat*t.d.S.sum:=by rw[←less_cnt];omega
 rw[lc_less]
 obtain⟨h1,h2,h3,h4⟩:=at_loc hn
 obtain⟨k,k1,k2,k3⟩:=rk_surj h2
 refine⟨k,k1,k2,k3,⟨by omega,by omega⟩,⟨by omega,by omega⟩,by omega,?_⟩
 rw[Int.toNat_natCast]
 omega
theorem whl_at (h:t.Ok) {s:Nat} {x m:Int} (hx:0≤x∧x<(t.less s).d.cnt) (w:t.whl s x m):(0≤m∧m<t.d.cnt)∧gv s (loc t.d.H.toNat t.d.S m.toNat).2.1=false∧(cl t.d.H.toNat t.d.S (gv s) m.toNat:Int)=x:=by
 obtain⟨k,k1,k2,hv,rfl⟩:=w
 have hn:x.toNat<rk (gv s) t.d.H.toNat*t.d.S.sum:=by rw[←less_cnt];omega
 have ha:=at_loc hn
 rw[lc_less] at *
 have hat:=vld_at hv
 have hlt:=vld_lt hv
 simp only[Int.toNat_natCast] at hat
 have hpos:∀a∈t.d.S,0<a:=fun a ha=>(Dk.S_pos h.d a ha).1
 refine⟨by omega,?_,?_⟩
 ·rw[Int.toNat_natCast,loc_of hat]
  exact k1
 ·rw[Int.toNat_natCast,cl_at hpos hat,k1,k2]
  have:=ha.2.2.2
  simp only[a1N,if_false]
  omega
theorem whl_inj (h:t.Ok) {s:Nat} {x y m:Int} (hx:0≤x∧x<(t.less s).d.cnt) (hy:0≤y∧y<(t.less s).d.cnt) (w:t.whl s x m) (w2:t.whl s y m):x=y:=by
 rw[←(whl_at h hx w).2.2,←(whl_at h hy w2).2.2]
theorem whl_bad (h:t.Ok) {s:Nat} (hs:0<rk (gv s) t.d.H.toNat) {x m:Int} (hx:0≤x∧x<(t.less s).d.cnt) (hn:x∉(t.less s).mapL) (w:t.whl s x m):¬t.bad m.toNat:=by
 obtain⟨h1,h2,h3⟩:=whl_at h hx w
 intro hb
 refine hn ?_
 have:=bad_map (less_ok h hs) (n:=cl t.d.H.toNat t.d.S (gv s) m.toNat) (by omega) ((less_bad h s h2).2 hb)
 rwa [h3] at this
theorem blks_get (t:Tr) {a:Nat} (ha:a<t.blks.length):t.blks.getD a 0∉t.mapL∧(0≤t.blks.getD a 0∧t.blks.getD a 0<t.d.cnt)∧∀b,b<t.blks.length→t.blks.getD a 0=t.blks.getD b 0→a=b:=
 blk_get (fun _ hi=>zF_le t.d hi) (zF_all t.d) ha
def PossB (t:Tr) (B:List Int):Prop:=∀n:Nat,n<t.d.cnt→((n:Int)∈B→t.bad n)∧((n:Int)∉B→t.good n)
theorem held (h:t.Ok) {s:Nat} (hs:0<rk (gv s) t.d.H.toNat) {B:List Int} (hB:t.PossB B) {a b:Nat} (ha:a<(t.less s).blks.length) (hb:b<(t.less s).blks.length) (hab:a≠b) {m n:Int} (wm:t.whl s ((t.less s).blks.getD a 0) m) (wn:t.whl s ((t.less s).blks.getD b 0) n):m≠n∧m∉B∧n∉B:=by
 obtain⟨a1,a2,a3⟩:=blks_get (t.less s) ha
 obtain⟨b1,b2,b3⟩:=blks_get (t.less s) hb
 refine⟨fun e=>hab (a3 b hb (whl_inj h a2 b2 wm (by rw[e];exact wn))),fun e=>?_,fun e=>?_⟩
 ·have q:=(whl_at h a2 wm).1
  have e2:((m.toNat:Nat):Int)=m:=Int.toNat_of_nonneg q.1
  exact whl_bad h hs a2 a1 wm ((hB m.toNat (by omega)).1 (by rw[e2];exact e))
 ·have q:=(whl_at h b2 wn).1
  have e2:((n.toNat:Nat):Int)=n:=Int.toNat_of_nonneg q.1
  exact whl_bad h hs b2 b1 wn ((hB n.toNat (by omega)).1 (by rw[e2];exact e))
end Tr
end Tp
end Go.Proofs
namespace Go.Proofs
open Go Go.Sx
set_option maxRecDepth 100000
set_option maxHeartbeats 4000000
namespace Tp
def pop (s:Nat):Nat:=(s.testBit 0).toNat+(s.testBit 1).toNat+(s.testBit 2).toNat+(s.testBit 3).toNat
theorem rk_pop:∀H,H<5→∀s,s<2 ^ H→rk (Tr.gv s) H+pop s=H:=by decide +kernel
theorem rk_pos:∀H,H<5→∀s,s<2 ^ H-1→0<rk (Tr.gv s) H:=by decide +kernel
namespace Tr
def onH (t:Tr) (h:Nat):Nat:=t.mapL.countP fun x=>(t.lc x.toNat).2.1 == h
def okS (t:Tr):Prop:=t.mapL.length≤60∧t.nd≤t.blks.length∧∀h,h<t.d.H.toNat→¬t.mo<t.onH h
instance (t:Tr):Decidable t.okS:=inferInstanceAs (Decidable (_∧_∧∀h,h<_→¬_))
def cap (t:Tr) (s:Nat):Nat:=(t.less s).blks.length
def better (a b:Nat×Nat):Prop:=pop a.1<pop b.1∨pop a.1=pop b.1∧(b.2<a.2∨b.2=a.2∧a.1<b.1)
instance (a b:Nat×Nat):Decidable (better a b):=inferInstanceAs (Decidable (_∨_∧(_∨_∧_)))
def rstep (t:Tr) (b:Option (Nat×Nat)) (s:Nat):Option (Nat×Nat):=
 if(t.less s).okS then(match b with
  |none=>some (s,t.cap s)
  |some b=>if better (s,t.cap s) b then some (s,t.cap s) else some b) else b
def resc (t:Tr) (k:Nat):Option (Nat×Nat):=(List.range k).foldl t.rstep none
theorem resc_succ (t:Tr) (k:Nat):t.resc (k+1)=t.rstep (t.resc k) k:=by
 unfold resc
 rw[List.range_succ,List.foldl_append]
 rfl
theorem resc_ok {t:Tr} {s n:Nat}:∀{k:Nat},t.resc k=some (s,n)→s<k∧(t.less s).okS∧n=t.cap s
 |0,h=>by cases h
 |k+1,h=>by
  rw[resc_succ] at h
  unfold rstep at h
  split at h
  ·rename_i ho
   split at h
   ·cases h
    exact⟨Nat.lt_succ_self _,ho,rfl⟩
   ·rename_i b hb
    split at h
    ·cases h
     exact⟨Nat.lt_succ_self _,ho,rfl⟩
    ·cases h
     have:=resc_ok hb
     exact⟨Nat.lt_succ_of_lt this.1,this.2⟩
  ·have:=resc_ok h
   exact⟨Nat.lt_succ_of_lt this.1,this.2⟩
end Tr
def exT:Tr:=⟨⟨2,60,[(2,6),(1,5)],10,25,(4,12),(20,30)⟩,1,[[2,7,14],[2,14,26],[2,7,26]],1,0,1,1,5,10⟩
theorem ex_resc:exT.resc 3=some (1,12):=by decide +kernel
theorem ex_cnt:exT.d.cnt=34:=by decide +kernel
theorem ex_poss:exT.Poss:=by
 have:∀n,n<34→exT.bad n∨exT.good n:=by decide +kernel
 intro n hn
 rw[ex_cnt] at hn
 exact this n hn
theorem ex_ok:exT.Ok:=by
 refine⟨⟨by decide,by decide,by decide,by decide,by decide,by unfold Dk.SpanOk;decide,by unfold Dk.SpanOk;decide,by decide +kernel⟩,by decide,by decide,by decide,by decide,by decide,by decide,by decide,by decide,?_⟩
 rw[ex_cnt]
 intro l hl
 have:l=[2,7,14]∨l=[2,14,26]∨l=[2,7,26]:=by simpa [exT] using hl
 rcases this with rfl|rfl|rfl<;>exact⟨by decide,by decide⟩
end Tp
end Go.Proofs
namespace Go.Proofs
open Go Go.Sx
set_option maxRecDepth 100000
set_option maxHeartbeats 40000000
namespace Tp
def intC (n:Int):List V:=[.int .i64 n]
def lsC (l:List Int):List V:=[.sl 1 l.length (rowOf intC 0 l)]
def Tr.c (t:Tr):List V:=[.int .i64 t.d.H,.int .i64 t.d.T,.sl 2 t.d.Z.length (rowOf zC (0,0) t.d.Z),.int .i64 t.d.hk,.int .i64 t.d.ck,.int .i64 t.d.hs.1,.int .i64 t.d.hs.2,.int .i64 t.d.cs.1,.int .i64 t.d.cs.2,.int .i64 t.sp,.sl 1 t.P.length (rowOf lsC [] t.P),.int .i64 t.ms,.int .i64 t.fl,.int .i64 t.mg,.int .i64 t.sc,.int .i64 t.mo,.int .i64 t.nd]
def Tr.v (t:Tr):V:=.agg t.c
structure Tr.Near (t:Tr):Prop where
 z:t.d.Z.length≤20
 p:t.P.length≤20
 l:∀i,i<t.P.length→(t.P.getD i []).length≤100
theorem within50 (n x y:Int):PureC Tryz.prog 50 false [.int .i64 n,.int .i64 x,.int .i64 y] (·=.prop (x≤n∧n≤y) inferInstance):=by
 refine pureC_of_exec Tryz.E_ok Tryz.func50 rfl (by kernel_rfl) ?_
 (repeat' ((conv=>whnf);first|(with_reducible first|apply spl|apply spl'|refine iJ ?_)<;>intro hc<;>try(exfalso;omega)|refine vcq ?_|fail));all_goals((try conv=>whnf);try exact trivial);(all_goals(try(refine⟨_,rfl,?_⟩;(repeat' ((conv=>whnf);first|(with_reducible first|apply spl|apply spl'|refine iJ ?_)<;>intro hc<;>try(exfalso;omega)|refine vcq ?_|fail));all_goals((try conv=>whnf);try exact trivial))))
 all_goals exact⟨by omega,trivial⟩
theorem mem_getD {l:List Int} {n:Int} {i:Nat} (hi:i<l.length):(n∈l.take (i+1))↔n∈l.take i∨l.getD i 0=n:=by
 rw[List.take_succ_eq_append_getElem hi,a0U,List.mem_singleton,List.getD_eq_getElem?_getD,a0I hi]
 exact⟨fun q=>q.imp_right Eq.symm,fun q=>q.imp_right Eq.symm⟩
theorem In11 (l:List Int) (hl:l.length≤1000000) (n:Int):PureC Tryz.prog 11 false [.sl 1 l.length (rowOf intC 0 l),.int .i64 n] (·=.prop (n∈l) inferInstance):=by
 refine pureC_of_exec Tryz.E_ok Tryz.func11 rfl (by kernel_rfl) ?_
 (repeat' ((conv=>whnf);first|(with_reducible first|apply spl|apply spl'|refine iJ ?_)<;>intro hc<;>try(exfalso;omega)|refine vcq ?_|fail));all_goals(try conv=>whnf);try exact trivial
 refine⟨Nat,fun i=>i≤l.length∧n∉l.take i,fun i=>l.length-i,fun i=>[(5,.int .i64 (i:Nat))],fun _=>[],fun _=>[],0,⟨⟨a2I _,by simp⟩,none,?_⟩,?_⟩
 ·(repeat' ((conv=>whnf);first|(with_reducible first|apply spl|apply spl'|refine iJ ?_)<;>intro hc<;>try(exfalso;omega)|refine vcq ?_|fail));all_goals(try conv=>whnf);try exact trivial
 ·rintro i ⟨hi,hI⟩
  have hti:((i:Nat):Int).toNat=i:=Int.toNat_natCast i
  (repeat' ((conv=>whnf);first|(with_reducible first|apply spl|apply spl'|refine iJ ?_)<;>intro hc<;>try(exfalso;omega)|refine vcq ?_|fail));all_goals(try conv=>whnf);try exact trivial
  ·rw[hti] at hc
   have hil:i<l.length:=by omega
   have hm:n∈l:=a0L ((mem_getD hil).2 (.inr hc))
   refine⟨_,rfl,?_⟩
   exact⟨hm,trivial⟩
  ·rw[hti] at hc
   have hil:i<l.length:=by omega
   refine⟨i+1,⟨⟨by omega,fun q=>(mem_getD hil).1 q |>.elim hI hc⟩,by dsimp only;omega⟩,none,?_⟩
   (repeat' ((conv=>whnf);first|(with_reducible first|apply spl|apply spl'|refine iJ ?_)<;>intro hc<;>try(exfalso;omega)|refine vcq ?_|fail));all_goals(try conv=>whnf);try exact trivial
  ·have:i=l.length:=by omega
   subst this
   rw[List.take_length] at hI
   refine⟨_,rfl,?_⟩
   exact⟨hI,trivial⟩
theorem getD_mem {α:Type} {l:List α} {d:α} {i:Nat} (hi:i<l.length):l.getD i d∈l:=by
 rw[List.getD_eq_getElem?_getD,a0I hi]
 exact List.getElem_mem hi
theorem count_succ (p:List Int→Bool) {l:List (List Int)} {i:Nat} (hi:i<l.length):(l.take (i+1)).countP p=(l.take i).countP p+(if p (l.getD i []) then 1 else 0):=by
 rw[List.take_succ_eq_append_getElem hi,List.countP_append,List.getD_eq_getElem?_getD,a0I hi]
 simp[List.countP_cons]
theorem Flagged33 (t:Tr) (hp:t.P.length≤1000) (hl:∀i,i<t.P.length→(t.P.getD i []).length≤1000000) (n:Nat):PureC Tryz.prog 33 false [t.v,.int .i64 n] (·=.int .i64 (t.flg n)):=by
 refine pureC_of_exec Tryz.E_ok Tryz.func33 rfl (by kernel_rfl) ?_
 (repeat' ((conv=>whnf);first|(with_reducible first|apply spl|apply spl'|refine iJ ?_)<;>intro hc<;>try(exfalso;omega)|refine vcq ?_|fail));all_goals(try conv=>whnf);try exact trivial
 refine⟨Nat,fun i=>i≤t.P.length,fun i=>t.P.length-i,fun i=>[(6,.int .i64 (i:Nat)),(5,.int .i64 ((t.P.take i).countP fun l=>decide ((n:Int)∈l):Nat))],fun _=>[],fun _=>[],0,⟨a2I _,some [some 0],?_⟩,?_⟩
 ·(repeat' ((conv=>whnf);first|(with_reducible first|apply spl|apply spl'|refine iJ ?_)<;>intro hc<;>try(exfalso;omega)|refine vcq ?_|fail));all_goals(try conv=>whnf);try exact trivial
 ·intro i hi
  have hi:i≤t.P.length:=hi
  have hti:((i:Nat):Int).toNat=i:=Int.toNat_natCast i
  have hle:(t.P.take i).countP (fun l=>decide ((n:Int)∈l))≤i:=Nat.le_trans List.countP_le_length (List.length_take_le ..)
  by_cases hil:i<t.P.length
  ·have hs:=count_succ (fun l=>decide ((n:Int)∈l)) hil
   have hli:=hl i hil
   (repeat' ((conv=>whnf);first|(with_reducible first|apply spl|apply spl'|refine iJ ?_)<;>intro hc<;>try(exfalso;omega)|refine vcq ?_|fail));all_goals(try conv=>whnf);try exact trivial
   rw[hti]
   generalize t.P.getD i []=l at *
   refine callee_fo (In11 l hli n) rfl ?_
   rintro _ rfl
   (repeat' ((conv=>whnf);first|(with_reducible first|apply spl|apply spl'|refine iJ ?_)<;>intro hc<;>try(exfalso;omega)|refine vcq ?_|fail));all_goals(try conv=>whnf);try exact trivial
   ·rw[if_pos (decide_eq_true hc)] at hs
    refine⟨i+1,⟨by omega,by dsimp only;omega⟩,some [some 0],?_⟩
    (repeat' ((conv=>whnf);first|(with_reducible first|apply spl|apply spl'|refine iJ ?_)<;>intro hc<;>try(exfalso;omega)|refine vcq ?_|fail));all_goals(try conv=>whnf);try exact trivial
   ·rw[if_neg (by simpa using hc)] at hs
    refine⟨i+1,⟨by omega,by dsimp only;omega⟩,some [some 0],?_⟩
    (repeat' ((conv=>whnf);first|(with_reducible first|apply spl|apply spl'|refine iJ ?_)<;>intro hc<;>try(exfalso;omega)|refine vcq ?_|fail));all_goals(try conv=>whnf);try exact trivial
  ·have e:i=t.P.length:=by omega
   subst e
   have hf:(t.P.take t.P.length).countP (fun l=>decide ((n:Int)∈l))=t.flg n:=by rw[List.take_length];rfl
   (repeat' ((conv=>whnf);first|(with_reducible first|apply spl|apply spl'|refine iJ ?_)<;>intro hc<;>try(exfalso;omega)|refine vcq ?_|fail));all_goals(try conv=>whnf);try exact trivial
   rw[hf]
   refine⟨_,rfl,?_⟩
   (repeat' ((conv=>whnf);first|(with_reducible first|apply spl|apply spl'|refine iJ ?_)<;>intro hc<;>try(exfalso;omega)|refine vcq ?_|fail));all_goals(try conv=>whnf);try exact trivial
theorem flg_le (t:Tr) (n:Nat):t.flg n≤t.P.length:=List.countP_le_length
theorem canBad17 (t:Tr) (hp:t.P.length≤1000) (hl:∀i,i<t.P.length→(t.P.getD i []).length≤1000000) (_hm:-1000≤t.ms∧t.ms≤1000) (n:Nat):PureC Tryz.prog 17 false [t.v,.int .i64 n] (·=.prop (t.bad n) inferInstance):=by
 have hle:=flg_le t n
 refine pureC_of_exec Tryz.E_ok Tryz.func17 rfl (by kernel_rfl) ?_
 (repeat' ((conv=>whnf);first|(with_reducible first|apply spl|apply spl'|refine iJ ?_)<;>intro hc<;>try(exfalso;omega)|refine vcq ?_|refine dr 24 ?_|refine dr 11 ?_|refine dr 7 ?_));all_goals((try conv=>whnf);try exact trivial);(repeat' ((first|(refine callee_fo (Flagged33 t hp hl n) rfl ?_;rintro _ rfl)|(refine pcall_intro (Flagged33 t hp hl n) rfl ?_)|(refine pcall_soft (fun _=>Flagged33 t hp hl n) rfl ?_));(repeat' ((conv=>whnf);first|(with_reducible first|apply spl|apply spl'|refine iJ ?_)<;>intro hc<;>try(exfalso;omega)|refine vcq ?_|refine dr 24 ?_|refine dr 11 ?_|refine dr 7 ?_));all_goals((try conv=>whnf);try exact trivial)))
 refine⟨_,rfl,?_⟩
 exact⟨Iff.rfl,trivial⟩
theorem canGood18 (t:Tr) (hp:t.P.length≤1000) (hl:∀i,i<t.P.length→(t.P.getD i []).length≤1000000) (n:Nat):PureC Tryz.prog 18 false [t.v,.int .i64 n] (·=.prop (t.good n) inferInstance):=by
 have hle:=flg_le t n
 refine pureC_of_exec Tryz.E_ok Tryz.func18 rfl (by kernel_rfl) ?_
 (repeat' ((conv=>whnf);first|(with_reducible first|apply spl|apply spl'|refine iJ ?_)<;>intro hc<;>try(exfalso;omega)|refine vcq ?_|refine dr 24 ?_|refine dr 11 ?_|refine dr 7 ?_));all_goals((try conv=>whnf);try exact trivial);(repeat' ((first|(refine callee_fo (Flagged33 t hp hl n) rfl ?_;rintro _ rfl)|(refine pcall_intro (Flagged33 t hp hl n) rfl ?_)|(refine pcall_soft (fun _=>Flagged33 t hp hl n) rfl ?_));(repeat' ((conv=>whnf);first|(with_reducible first|apply spl|apply spl'|refine iJ ?_)<;>intro hc<;>try(exfalso;omega)|refine vcq ?_|refine dr 24 ?_|refine dr 11 ?_|refine dr 7 ?_));all_goals((try conv=>whnf);try exact trivial)))
 refine⟨_,rfl,?_⟩
 exact⟨Iff.rfl,trivial⟩
def PassK (n:Nat) (l:List Int) (k:Nat):Prop:=∀j,j<k→(0≤l.getD j 0∧l.getD j 0<n)∧(0<j→l.getD (j-1) 0<l.getD j 0)
theorem PassK.succ {n:Nat} {l:List Int} {k:Nat} (h:PassK n l k) (h1:0≤l.getD k 0∧l.getD k 0<n) (h2:0<k→l.getD (k-1) 0<l.getD k 0):PassK n l (k+1):=fun j hj=>by
 rcases Nat.lt_or_eq_of_le (Nat.le_of_lt_succ hj) with q|rfl
 ·exact h j q
 ·exact⟨h1,h2⟩
theorem Tr.ok_iff {t:Tr} (hd:t.d.Ok) (hp:∀l∈t.P,PassOk t.d.cnt l):t.Ok↔(0≤t.sp∧t.sp≤20)∧(1≤(t.P.length:Int)∧(t.P.length:Int)≤8)∧(0≤t.ms∧t.ms≤8)∧(0≤t.fl∧t.fl≤8)∧(0≤t.mg∧t.mg≤4)∧(0≤t.sc∧t.sc≤4)∧(0≤t.mo∧t.mo≤5120)∧(0≤t.nd∧t.nd≤5120):=by
 constructor
 ·rintro⟨_,h1,h2,h3,h4,h5,h6,h7,h8,_⟩
  omega
 ·rintro⟨h1,h2,h3,h4,h5,h6,h7,h8⟩
  exact⟨hd,h1,by omega,h3,h4,h5,h6,h7,h8,hp⟩
theorem isTrial32 (t:Tr) (hd:t.d.Ok) (hn:t.Near):PureC Tryz.prog 32 false [t.v] (·=.prop t.Ok (Classical.propDecidable _)):=by
 have hp20:=hn.p
 refine pureC_of_exec Tryz.E_ok Tryz.func32 rfl (by kernel_rfl) ?_
 (repeat' ((conv=>whnf);first|(with_reducible first|apply spl|apply spl'|refine iJ ?_)<;>intro hc<;>try(exfalso;omega)|refine vcq ?_|refine dr 24 ?_|refine dr 11 ?_|refine dr 7 ?_));all_goals(try conv=>whnf);try exact trivial
 refine⟨Nat,fun i=>i≤t.P.length∧∀l∈t.P.take i,PassOk t.d.cnt l,fun i=>t.P.length-i,fun i=>[(3,.int .i64 (i:Nat))],fun _=>[],fun _=>[],0,⟨⟨a2I _,by simp⟩,some [some 0],?_⟩,?_⟩
 ·(repeat' ((conv=>whnf);first|(with_reducible first|apply spl|apply spl'|refine iJ ?_)<;>intro hc<;>try(exfalso;omega)|refine vcq ?_|refine dr 24 ?_|refine dr 11 ?_|refine dr 7 ?_));all_goals(try conv=>whnf);try exact trivial
 ·rintro i ⟨hi,hI⟩
  have hti:((i:Nat):Int).toNat=i:=Int.toNat_natCast i
  by_cases hil:i<t.P.length
  ·have hli:=hn.l i hil
   have hm:t.P.getD i []∈t.P:=getD_mem hil
   have hall:t.P.take (i+1)=t.P.take i++[t.P.getD i []]:=by
    rw[List.take_succ_eq_append_getElem hil,List.getD_eq_getElem?_getD,a0I hil]
    rfl
   (repeat' ((conv=>whnf);first|(with_reducible first|apply spl|apply spl'|refine iJ ?_)<;>intro hc<;>try(exfalso;omega)|refine vcq ?_|refine dr 24 ?_|refine dr 11 ?_|refine dr 7 ?_));all_goals(try conv=>whnf);try exact trivial
   rw[hti]
   generalize t.P.getD i []=l at *
   refine⟨Nat,fun k=>k≤l.length∧PassK t.d.cnt l k,fun k=>l.length-k,fun k=>[(5,.int .i64 (k:Nat))],fun _=>[],fun _=>[],0,⟨⟨a2I _,fun j hj=>by omega⟩,some [some 0],?_⟩,?_⟩
   ·(repeat' ((conv=>whnf);first|(with_reducible first|apply spl|apply spl'|refine iJ ?_)<;>intro hc<;>try(exfalso;omega)|refine vcq ?_|refine dr 24 ?_|refine dr 11 ?_|refine dr 7 ?_));all_goals(try conv=>whnf);try exact trivial
   ·rintro k ⟨hk,hK⟩
    have htk:((k:Nat):Int).toNat=k:=Int.toNat_natCast k
    by_cases hkl:k<l.length
    ·(repeat' ((conv=>whnf);first|(with_reducible first|apply spl|apply spl'|refine iJ ?_)<;>intro hc<;>try(exfalso;omega)|refine vcq ?_|refine dr 24 ?_|refine dr 11 ?_|refine dr 7 ?_));all_goals((try conv=>whnf);try exact trivial);(repeat' ((first|(refine callee_fo (IsSector56 t.d hd _) rfl ?_;rintro _ rfl)|(refine pcall_intro (IsSector56 t.d hd _) rfl ?_)|(refine pcall_soft (fun _=>IsSector56 t.d hd _) rfl ?_));(repeat' ((conv=>whnf);first|(with_reducible first|apply spl|apply spl'|refine iJ ?_)<;>intro hc<;>try(exfalso;omega)|refine vcq ?_|refine dr 24 ?_|refine dr 11 ?_|refine dr 7 ?_));all_goals((try conv=>whnf);try exact trivial)))
     ·refine⟨_,rfl,?_⟩
      refine⟨fun q=>?_,trivial⟩
      have hq:=passOk_get (q.pass l hm) hkl
      have e:((k:Int)-1).toNat=k-1:=by omega
      rw[htk,e] at hc
      omega
     ·have e:((k:Int)-1).toNat=k-1:=by omega
      rw[htk,e] at hc
      refine⟨k+1,⟨⟨by omega,hK.succ (by omega) (fun _=>by omega)⟩,by dsimp only;omega⟩,some [some 0],?_⟩
      (repeat' ((conv=>whnf);first|(with_reducible first|apply spl|apply spl'|refine iJ ?_)<;>intro hc<;>try(exfalso;omega)|refine vcq ?_|refine dr 24 ?_|refine dr 11 ?_|refine dr 7 ?_));all_goals(try conv=>whnf);try exact trivial
    ·have e:k=l.length:=by omega
     subst e
     have hok:PassOk t.d.cnt l:=passOk_adj hK
     (repeat' ((conv=>whnf);first|(with_reducible first|apply spl|apply spl'|refine iJ ?_)<;>intro hc<;>try(exfalso;omega)|refine vcq ?_|refine dr 24 ?_|refine dr 11 ?_|refine dr 7 ?_));all_goals(try conv=>whnf);try exact trivial
     refine⟨i+1,⟨⟨by omega,fun x hx=>?_⟩,by dsimp only;omega⟩,some [some 0],?_⟩
     ·rw[hall] at hx
      rcases a0U.1 hx with q|q
      ·exact hI x q
      ·rw[List.mem_singleton] at q
       rw[q]
       exact hok
     ·(repeat' ((conv=>whnf);first|(with_reducible first|apply spl|apply spl'|refine iJ ?_)<;>intro hc<;>try(exfalso;omega)|refine vcq ?_|refine dr 24 ?_|refine dr 11 ?_|refine dr 7 ?_));all_goals(try conv=>whnf);try exact trivial
  ·have e:i=t.P.length:=by omega
   subst e
   rw[List.take_length] at hI
   have hiff:=Tr.ok_iff hd hI
   (repeat' ((conv=>whnf);first|(with_reducible first|apply spl|apply spl'|refine iJ ?_)<;>intro hc<;>try(exfalso;omega)|refine vcq ?_|refine dr 24 ?_|refine dr 11 ?_|refine dr 7 ?_));all_goals((try conv=>whnf);try exact trivial);(repeat' ((first|(refine callee_fo (within50 _ _ _) rfl ?_;rintro _ rfl)|(refine pcall_intro (within50 _ _ _) rfl ?_)|(refine pcall_soft (fun _=>within50 _ _ _) rfl ?_));(repeat' ((conv=>whnf);first|(with_reducible first|apply spl|apply spl'|refine iJ ?_)<;>intro hc<;>try(exfalso;omega)|refine vcq ?_|refine dr 24 ?_|refine dr 11 ?_|refine dr 7 ?_));all_goals((try conv=>whnf);try exact trivial)))
   all_goals refine⟨_,rfl,?_⟩
   all_goals exact⟨by rw[hiff];omega,trivial⟩
namespace Tr
open Classical in
noncomputable def chk (t:Tr):Int:=if t.d.Ok then(if t.Ok then 0 else 110) else 10
open Classical in
noncomputable def err (t:Tr):Int:=if t.chk=0 then(if t.Poss then 0 else 111) else t.chk
theorem chk_ok {t:Tr} (h:t.chk=0):t.Ok:=by
 unfold chk at h
 split at h
 ·split at h
  ·assumption
  ·omega
 ·omega
theorem err_ok {t:Tr} (h:t.err=0):t.Ok∧t.Poss:=by
 unfold err at h
 split at h
 ·rename_i h0
  split at h
  ·exact⟨chk_ok h0,by assumption⟩
  ·omega
 ·rename_i h0
  exact absurd h h0
theorem chk_of {t:Tr} (h:t.Ok):t.chk=0:=by unfold chk;rw[if_pos h.d,if_pos h]
theorem err_of {t:Tr} (h:t.Ok) (hp:t.Poss):t.err=0:=by unfold err;rw[if_pos (chk_of h),if_pos hp]
end Tr
theorem Near.pl {t:Tr} (hn:t.Near):∀i,i<t.P.length→(t.P.getD i []).length≤1000000:=fun i hi=>by have:=hn.l i hi;omega
theorem Check15 (t:Tr) (hn:t.Near):PureC Tryz.prog 15 false [t.v] (·=.int .i64 t.chk):=by
 have hz:=hn.z
 refine pureC_of_exec Tryz.E_ok Tryz.func15 rfl (by kernel_rfl) ?_
 (repeat' ((conv=>whnf);first|(with_reducible first|apply spl|apply spl'|refine iJ ?_)<;>intro hc<;>try(exfalso;omega)|refine vcq ?_|refine dr 24 ?_|refine dr 11 ?_|refine dr 7 ?_));all_goals(try conv=>whnf);try exact trivial
 refine callee_fo (Check37 t.d (by omega)) rfl ?_
 rintro _ rfl
 by_cases hd:t.d.Ok
 ·rw[Dk.chk_of hd]
  (repeat' ((conv=>whnf);first|(with_reducible first|apply spl|apply spl'|refine iJ ?_)<;>intro hc<;>try(exfalso;omega)|refine vcq ?_|refine dr 24 ?_|refine dr 11 ?_|refine dr 7 ?_));all_goals(try conv=>whnf);try exact trivial
  refine callee_fo (isTrial32 t hd hn) rfl ?_
  rintro _ rfl
  unfold Tr.chk
  (repeat' ((conv=>whnf);first|(with_reducible first|apply spl|apply spl'|refine iJ ?_)<;>intro hc<;>try(exfalso;omega)|refine vcq ?_|refine dr 24 ?_|refine dr 11 ?_|refine dr 7 ?_));all_goals(try conv=>whnf);try exact trivial
  ·refine⟨_,rfl,?_⟩
   rw[if_pos hd,if_neg hc]
   (repeat' ((conv=>whnf);first|(with_reducible first|apply spl|apply spl'|refine iJ ?_)<;>intro hc<;>try(exfalso;omega)|refine vcq ?_|refine dr 24 ?_|refine dr 11 ?_|refine dr 7 ?_));all_goals(try conv=>whnf);try exact trivial
  ·refine⟨_,rfl,?_⟩
   rw[if_pos hd,if_pos (Classical.not_not.1 hc)]
   (repeat' ((conv=>whnf);first|(with_reducible first|apply spl|apply spl'|refine iJ ?_)<;>intro hc<;>try(exfalso;omega)|refine vcq ?_|refine dr 24 ?_|refine dr 11 ?_|refine dr 7 ?_));all_goals(try conv=>whnf);try exact trivial
 ·rw[Dk.chk_no hd]
  (repeat' ((conv=>whnf);first|(with_reducible first|apply spl|apply spl'|refine iJ ?_)<;>intro hc<;>try(exfalso;omega)|refine vcq ?_|refine dr 24 ?_|refine dr 11 ?_|refine dr 7 ?_));all_goals(try conv=>whnf);try exact trivial
  refine⟨_,rfl,?_⟩
  unfold Tr.chk
  rw[if_neg hd]
  (repeat' ((conv=>whnf);first|(with_reducible first|apply spl|apply spl'|refine iJ ?_)<;>intro hc<;>try(exfalso;omega)|refine vcq ?_|refine dr 24 ?_|refine dr 11 ?_|refine dr 7 ?_));all_goals(try conv=>whnf);try exact trivial
theorem anyTruth16 (t:Tr) (h:t.Ok) (hn:t.Near):PureC Tryz.prog 16 false [t.v] (·=.prop t.Poss (Classical.propDecidable _)):=by
 have hp20:=hn.p
 have hms:=h.ms
 have hcn:=Dk.cnt_le h.d
 refine pureC_of_exec Tryz.E_ok Tryz.func16 rfl (by kernel_rfl) ?_
 (repeat' ((conv=>whnf);first|(with_reducible first|apply spl|apply spl'|refine iJ ?_)<;>intro hc<;>try(exfalso;omega)|refine vcq ?_|refine dr 24 ?_|refine dr 11 ?_|refine dr 7 ?_));all_goals(try conv=>whnf);try exact trivial
 refine⟨Nat,fun n=>n≤t.d.cnt∧∀m,m<n→t.bad m∨t.good m,fun n=>t.d.cnt-n,fun n=>[(3,.int .i64 (n:Nat))],fun _=>[],fun _=>[],0,⟨⟨a2I _,fun m hm=>by omega⟩,some [some 0],?_⟩,?_⟩
 ·(repeat' ((conv=>whnf);first|(with_reducible first|apply spl|apply spl'|refine iJ ?_)<;>intro hc<;>try(exfalso;omega)|refine vcq ?_|refine dr 24 ?_|refine dr 11 ?_|refine dr 7 ?_));all_goals(try conv=>whnf);try exact trivial
 ·rintro n ⟨hi,hI⟩
  (repeat' ((conv=>whnf);first|(with_reducible first|apply spl|apply spl'|refine iJ ?_)<;>intro hc<;>try(exfalso;omega)|refine vcq ?_|refine dr 24 ?_|refine dr 11 ?_|refine dr 7 ?_));all_goals(try conv=>whnf);try exact trivial
  refine callee_fo (Count57 t.d h.d) rfl ?_
  rintro _ rfl
  (repeat' ((conv=>whnf);first|(with_reducible first|apply spl|apply spl'|refine iJ ?_)<;>intro hc<;>try(exfalso;omega)|refine vcq ?_|refine dr 24 ?_|refine dr 11 ?_|refine dr 7 ?_));all_goals(try conv=>whnf);try exact trivial
  ·(repeat' ((conv=>whnf);first|(with_reducible first|apply spl|apply spl'|refine iJ ?_)<;>intro hc<;>try(exfalso;omega)|refine vcq ?_|refine dr 24 ?_|refine dr 11 ?_|refine dr 7 ?_));all_goals((try conv=>whnf);try exact trivial);(repeat' ((first|(refine callee_fo (canBad17 t (by omega) (Near.pl hn) (by omega) n) rfl ?_;rintro _ rfl)|(refine pcall_intro (canBad17 t (by omega) (Near.pl hn) (by omega) n) rfl ?_)|(refine pcall_soft (fun _=>canBad17 t (by omega) (Near.pl hn) (by omega) n) rfl ?_)|(refine callee_fo (canGood18 t (by omega) (Near.pl hn) n) rfl ?_;rintro _ rfl)|(refine pcall_intro (canGood18 t (by omega) (Near.pl hn) n) rfl ?_)|(refine pcall_soft (fun _=>canGood18 t (by omega) (Near.pl hn) n) rfl ?_));(repeat' ((conv=>whnf);first|(with_reducible first|apply spl|apply spl'|refine iJ ?_)<;>intro hc<;>try(exfalso;omega)|refine vcq ?_|refine dr 24 ?_|refine dr 11 ?_|refine dr 7 ?_));all_goals((try conv=>whnf);try exact trivial)))
   ·rename_i hb
    refine⟨_,rfl,?_⟩
    exact⟨fun q=>(q n (by omega)).elim hb hc,trivial⟩
   ·refine⟨n+1,⟨⟨by omega,fun m hm=>?_⟩,by dsimp only;omega⟩,some [some 0],?_⟩
    ·rcases Nat.lt_or_eq_of_le (Nat.le_of_lt_succ hm) with q|rfl
     ·exact hI m q
     ·exact .inr (Classical.not_not.1 hc)
    ·(repeat' ((conv=>whnf);first|(with_reducible first|apply spl|apply spl'|refine iJ ?_)<;>intro hc<;>try(exfalso;omega)|refine vcq ?_|refine dr 24 ?_|refine dr 11 ?_|refine dr 7 ?_));all_goals(try conv=>whnf);try exact trivial
   ·refine⟨n+1,⟨⟨by omega,fun m hm=>?_⟩,by dsimp only;omega⟩,some [some 0],?_⟩
    ·rcases Nat.lt_or_eq_of_le (Nat.le_of_lt_succ hm) with q|rfl
     ·exact hI m q
     ·exact .inl (Classical.not_not.1 hc)
    ·(repeat' ((conv=>whnf);first|(with_reducible first|apply spl|apply spl'|refine iJ ?_)<;>intro hc<;>try(exfalso;omega)|refine vcq ?_|refine dr 24 ?_|refine dr 11 ?_|refine dr 7 ?_));all_goals(try conv=>whnf);try exact trivial
  ·have e:n=t.d.cnt:=by omega
   subst e
   refine⟨_,rfl,?_⟩
   exact⟨hI,trivial⟩
theorem CheckTruth5 (t:Tr) (hn:t.Near):PureC Tryz.prog 5 false [t.v] (·=.int .i64 t.err):=by
 refine pureC_of_exec Tryz.E_ok Tryz.func5 rfl (by kernel_rfl) ?_
 (repeat' ((conv=>whnf);first|(with_reducible first|apply spl|apply spl'|refine iJ ?_)<;>intro hc<;>try(exfalso;omega)|refine vcq ?_|fail));all_goals(try conv=>whnf);try exact trivial
 refine callee_fo (Check15 t hn) rfl ?_
 rintro _ rfl
 unfold Tr.err
 by_cases h0:t.chk=0
 ·rw[if_pos h0,h0]
  have h:=Tr.chk_ok h0
  (repeat' ((conv=>whnf);first|(with_reducible first|apply spl|apply spl'|refine iJ ?_)<;>intro hc<;>try(exfalso;omega)|refine vcq ?_|fail));all_goals(try conv=>whnf);try exact trivial
  refine callee_fo (anyTruth16 t h hn) rfl ?_
  rintro _ rfl
  (repeat' ((conv=>whnf);first|(with_reducible first|apply spl|apply spl'|refine iJ ?_)<;>intro hc<;>try(exfalso;omega)|refine vcq ?_|fail));all_goals(try conv=>whnf);try exact trivial
  ·refine⟨_,rfl,?_⟩
   rw[if_neg hc]
   (repeat' ((conv=>whnf);first|(with_reducible first|apply spl|apply spl'|refine iJ ?_)<;>intro hc<;>try(exfalso;omega)|refine vcq ?_|fail));all_goals(try conv=>whnf);try exact trivial
  ·refine⟨_,rfl,?_⟩
   rw[if_pos (Classical.not_not.1 hc)]
   (repeat' ((conv=>whnf);first|(with_reducible first|apply spl|apply spl'|refine iJ ?_)<;>intro hc<;>try(exfalso;omega)|refine vcq ?_|fail));all_goals(try conv=>whnf);try exact trivial
 ·rw[if_neg h0]
  (repeat' ((conv=>whnf);first|(with_reducible first|apply spl|apply spl'|refine iJ ?_)<;>intro hc<;>try(exfalso;omega)|refine vcq ?_|fail));all_goals(try conv=>whnf);try exact trivial
  refine⟨_,rfl,?_⟩
  (repeat' ((conv=>whnf);first|(with_reducible first|apply spl|apply spl'|refine iJ ?_)<;>intro hc<;>try(exfalso;omega)|refine vcq ?_|fail));all_goals(try conv=>whnf);try exact trivial
theorem IsPossible6 (t:Tr) (h:t.Ok) (hn:t.Near) (B:List Int) (hB:B.length≤1000000):PureC Tryz.prog 6 false [t.v,.sl 1 B.length (rowOf intC 0 B)] (·=.prop (t.PossB B) (Classical.propDecidable _)):=by
 have hp20:=hn.p
 have hms:=h.ms
 have hcn:=Dk.cnt_le h.d
 refine pureC_of_exec Tryz.E_ok Tryz.func6 rfl (by kernel_rfl) ?_
 (repeat' ((conv=>whnf);first|(with_reducible first|apply spl|apply spl'|refine iJ ?_)<;>intro hc<;>try(exfalso;omega)|refine vcq ?_|fail));all_goals(try conv=>whnf);try exact trivial
 refine⟨Nat,fun n=>n≤t.d.cnt∧∀m:Nat,m<n→((m:Int)∈B→t.bad m)∧((m:Int)∉B→t.good m),fun n=>t.d.cnt-n,fun n=>[(5,.int .i64 (n:Nat))],fun _=>[],fun _=>[],0,⟨⟨a2I _,fun m hm=>by omega⟩,some [some 0],?_⟩,?_⟩
 ·(repeat' ((conv=>whnf);first|(with_reducible first|apply spl|apply spl'|refine iJ ?_)<;>intro hc<;>try(exfalso;omega)|refine vcq ?_|fail));all_goals(try conv=>whnf);try exact trivial
 ·rintro n ⟨hi,hI⟩
  (repeat' ((conv=>whnf);first|(with_reducible first|apply spl|apply spl'|refine iJ ?_)<;>intro hc<;>try(exfalso;omega)|refine vcq ?_|fail));all_goals(try conv=>whnf);try exact trivial
  refine callee_fo (Count57 t.d h.d) rfl ?_
  rintro _ rfl
  (repeat' ((conv=>whnf);first|(with_reducible first|apply spl|apply spl'|refine iJ ?_)<;>intro hc<;>try(exfalso;omega)|refine vcq ?_|fail));all_goals(try conv=>whnf);try exact trivial
  ·have nx:((n:Int)∈B→t.bad n)∧((n:Int)∉B→t.good n)→∀m:Nat,m<n+1→((m:Int)∈B→t.bad m)∧((m:Int)∉B→t.good m):=fun q m hm=>by
    rcases Nat.lt_or_eq_of_le (Nat.le_of_lt_succ hm) with u|rfl
    ·exact hI m u
    ·exact q
   refine callee_fo (In11 B hB n) rfl ?_
   rintro _ rfl
   (repeat' ((conv=>whnf);first|(with_reducible first|apply spl|apply spl'|refine iJ ?_)<;>intro hc<;>try(exfalso;omega)|refine vcq ?_|fail));all_goals((try conv=>whnf);try exact trivial);(repeat' ((first|(refine callee_fo (canBad17 t (by omega) (Near.pl hn) (by omega) n) rfl ?_;rintro _ rfl)|(refine pcall_intro (canBad17 t (by omega) (Near.pl hn) (by omega) n) rfl ?_)|(refine pcall_soft (fun _=>canBad17 t (by omega) (Near.pl hn) (by omega) n) rfl ?_)|(refine callee_fo (canGood18 t (by omega) (Near.pl hn) n) rfl ?_;rintro _ rfl)|(refine pcall_intro (canGood18 t (by omega) (Near.pl hn) n) rfl ?_)|(refine pcall_soft (fun _=>canGood18 t (by omega) (Near.pl hn) n) rfl ?_));(repeat' ((conv=>whnf);first|(with_reducible first|apply spl|apply spl'|refine iJ ?_)<;>intro hc<;>try(exfalso;omega)|refine vcq ?_|fail));all_goals((try conv=>whnf);try exact trivial)))
   ·rename_i hb
    refine⟨_,rfl,?_⟩
    exact⟨fun q=>hc.elim (fun u=>u ((q n (by omega)).1 hb)) (fun u=>u.1 hb),trivial⟩
   ·rename_i hb
    have hq:=nx ⟨fun _=>a0W fun u=>hc (.inl u),fun u=>absurd hb u⟩
    clear hc
    refine⟨n+1,⟨⟨by omega,hq⟩,by dsimp only;omega⟩,some [some 0],?_⟩
    (repeat' ((conv=>whnf);first|(with_reducible first|apply spl|apply spl'|refine iJ ?_)<;>intro hc<;>try(exfalso;omega)|refine vcq ?_|fail));all_goals(try conv=>whnf);try exact trivial
   ·rename_i hb
    refine⟨_,rfl,?_⟩
    exact⟨fun q=>hc ((q n (by omega)).2 hb),trivial⟩
   ·rename_i hb
    have hq:=nx ⟨fun u=>absurd u hb,fun _=>Classical.not_not.1 hc⟩
    clear hc
    refine⟨n+1,⟨⟨by omega,hq⟩,by dsimp only;omega⟩,some [some 0],?_⟩
    (repeat' ((conv=>whnf);first|(with_reducible first|apply spl|apply spl'|refine iJ ?_)<;>intro hc<;>try(exfalso;omega)|refine vcq ?_|fail));all_goals(try conv=>whnf);try exact trivial
   ·rename_i hb
    exact absurd hb hc
  ·have e:n=t.d.cnt:=by omega
   subst e
   refine⟨_,rfl,?_⟩
   exact⟨hI,trivial⟩
def Tr.farR (t:Tr) (v:V):Prop:=v=.kb true∨v=.kb false∧t.Near∧(t.d.Ok→t.d.cnt≤60∧t.d.T≤120)
theorem Far4 (t:Tr) (hz:t.d.Z.length≤9223372036854775807) (hp:t.P.length≤9223372036854775807) (hl:∀i,i<t.P.length→(t.P.getD i []).length≤9223372036854775807):PureC Tryz.prog 4 false [t.v] t.farR:=by
 refine pureC_of_exec Tryz.E_ok Tryz.func4 rfl (by kernel_rfl) ?_
 (repeat' ((conv=>whnf);first|(with_reducible first|apply spl|apply spl'|refine iJ ?_)<;>intro hc<;>try(exfalso;omega)|refine vcq ?_|fail));all_goals(try conv=>whnf);try exact trivial
 refine callee_fo (Far48 t.d hz) rfl ?_
 rintro _ rfl
 (repeat' ((conv=>whnf);first|(with_reducible first|apply spl|apply spl'|refine iJ ?_)<;>intro hc<;>try(exfalso;omega)|refine vcq ?_|fail));all_goals(try conv=>whnf);try exact trivial
 ·have hz20:t.d.Z.length≤20:=Nat.le_of_not_lt fun q=>hc (.inl (by omega))
  have hf:t.d.Ok→t.d.cnt≤200∧t.d.T≤120:=fun hd=>by
   have h0:=Dk.chk_of hd
   exact⟨Nat.le_of_not_lt fun q=>hc (.inr ⟨h0,.inl (by omega)⟩),by
    have:¬120<t.d.T:=fun q=>hc (.inr ⟨h0,.inr q⟩)
    omega⟩
  clear hc
  have hck:=Check37 t.d (by omega)
  refine callee_fo hck rfl ?_
  rintro _ rfl
  by_cases hd:t.d.Ok
  ·rw[Dk.chk_of hd]
   have hf:=hf hd
   (repeat' ((conv=>whnf);first|(with_reducible first|apply spl|apply spl'|refine iJ ?_)<;>intro hc<;>try(exfalso;omega)|refine vcq ?_|fail));all_goals(try conv=>whnf);try exact trivial
   refine callee_fo (Count57 t.d hd) rfl ?_
   rintro _ rfl
   (repeat' ((conv=>whnf);first|(with_reducible first|apply spl|apply spl'|refine iJ ?_)<;>intro hc<;>try(exfalso;omega)|refine vcq ?_|fail));all_goals(try conv=>whnf);try exact trivial
   ·refine⟨_,.inl rfl,?_⟩
    (repeat' ((conv=>whnf);first|(with_reducible first|apply spl|apply spl'|refine iJ ?_)<;>intro hc<;>try(exfalso;omega)|refine vcq ?_|fail));all_goals(try conv=>whnf);try exact trivial
   have hfin:t.d.Ok→t.d.cnt≤60∧t.d.T≤120:=fun _=>by omega
   have hp20:t.P.length≤20:=by omega
   clear hc
   refine⟨Nat,fun i=>i≤t.P.length∧∀j,j<i→(t.P.getD j []).length≤100,fun i=>t.P.length-i,fun i=>[(3,.int .i64 (i:Nat))],fun _=>[],fun _=>[],0,⟨⟨a2I _,fun j hj=>by omega⟩,some [some 0],?_⟩,?_⟩
   ·(repeat' ((conv=>whnf);first|(with_reducible first|apply spl|apply spl'|refine iJ ?_)<;>intro hc<;>try(exfalso;omega)|refine vcq ?_|fail));all_goals(try conv=>whnf);try exact trivial
   ·rintro i ⟨hi,hI⟩
    have hti:((i:Nat):Int).toNat=i:=Int.toNat_natCast i
    (repeat' ((conv=>whnf);first|(with_reducible first|apply spl|apply spl'|refine iJ ?_)<;>intro hc<;>try(exfalso;omega)|refine vcq ?_|fail));all_goals(try conv=>whnf);try exact trivial
    ·refine⟨_,.inl rfl,?_⟩
     (repeat' ((conv=>whnf);first|(with_reducible first|apply spl|apply spl'|refine iJ ?_)<;>intro hc<;>try(exfalso;omega)|refine vcq ?_|fail));all_goals(try conv=>whnf);try exact trivial
    ·rw[hti] at hc
     refine⟨i+1,⟨⟨by omega,fun j hj=>?_⟩,by dsimp only;omega⟩,some [some 0],?_⟩
     ·rcases Nat.lt_or_eq_of_le (Nat.le_of_lt_succ hj) with u|rfl
      ·exact hI j u
      ·omega
     ·(repeat' ((conv=>whnf);first|(with_reducible first|apply spl|apply spl'|refine iJ ?_)<;>intro hc<;>try(exfalso;omega)|refine vcq ?_|fail));all_goals(try conv=>whnf);try exact trivial
    ·have e:i=t.P.length:=by omega
     subst e
     refine⟨_,.inr ⟨rfl,⟨hz20,by omega,hI⟩,hfin⟩,?_⟩
     (repeat' ((conv=>whnf);first|(with_reducible first|apply spl|apply spl'|refine iJ ?_)<;>intro hc<;>try(exfalso;omega)|refine vcq ?_|fail));all_goals(try conv=>whnf);try exact trivial
  ·rw[Dk.chk_no hd]
   (repeat' ((conv=>whnf);first|(with_reducible first|apply spl|apply spl'|refine iJ ?_)<;>intro hc<;>try(exfalso;omega)|refine vcq ?_|fail));all_goals(try conv=>whnf);try exact trivial
   ·refine⟨_,.inl rfl,?_⟩
    (repeat' ((conv=>whnf);first|(with_reducible first|apply spl|apply spl'|refine iJ ?_)<;>intro hc<;>try(exfalso;omega)|refine vcq ?_|fail));all_goals(try conv=>whnf);try exact trivial
   have hfin:t.d.Ok→t.d.cnt≤60∧t.d.T≤120:=fun q=>absurd q hd
   have hp20:t.P.length≤20:=by omega
   clear hc
   refine⟨Nat,fun i=>i≤t.P.length∧∀j,j<i→(t.P.getD j []).length≤100,fun i=>t.P.length-i,fun i=>[(3,.int .i64 (i:Nat))],fun _=>[],fun _=>[],0,⟨⟨a2I _,fun j hj=>by omega⟩,some [some 0],?_⟩,?_⟩
   ·(repeat' ((conv=>whnf);first|(with_reducible first|apply spl|apply spl'|refine iJ ?_)<;>intro hc<;>try(exfalso;omega)|refine vcq ?_|fail));all_goals(try conv=>whnf);try exact trivial
   ·rintro i ⟨hi,hI⟩
    have hti:((i:Nat):Int).toNat=i:=Int.toNat_natCast i
    (repeat' ((conv=>whnf);first|(with_reducible first|apply spl|apply spl'|refine iJ ?_)<;>intro hc<;>try(exfalso;omega)|refine vcq ?_|fail));all_goals(try conv=>whnf);try exact trivial
    ·refine⟨_,.inl rfl,?_⟩
     (repeat' ((conv=>whnf);first|(with_reducible first|apply spl|apply spl'|refine iJ ?_)<;>intro hc<;>try(exfalso;omega)|refine vcq ?_|fail));all_goals(try conv=>whnf);try exact trivial
    ·rw[hti] at hc
     refine⟨i+1,⟨⟨by omega,fun j hj=>?_⟩,by dsimp only;omega⟩,some [some 0],?_⟩
     ·rcases Nat.lt_or_eq_of_le (Nat.le_of_lt_succ hj) with u|rfl
      ·exact hI j u
      ·omega
     ·(repeat' ((conv=>whnf);first|(with_reducible first|apply spl|apply spl'|refine iJ ?_)<;>intro hc<;>try(exfalso;omega)|refine vcq ?_|fail));all_goals(try conv=>whnf);try exact trivial
    ·have e:i=t.P.length:=by omega
     subst e
     refine⟨_,.inr ⟨rfl,⟨hz20,by omega,hI⟩,hfin⟩,?_⟩
     (repeat' ((conv=>whnf);first|(with_reducible first|apply spl|apply spl'|refine iJ ?_)<;>intro hc<;>try(exfalso;omega)|refine vcq ?_|fail));all_goals(try conv=>whnf);try exact trivial
 ·refine⟨_,.inl rfl,?_⟩
  (repeat' ((conv=>whnf);first|(with_reducible first|apply spl|apply spl'|refine iJ ?_)<;>intro hc<;>try(exfalso;omega)|refine vcq ?_|fail));all_goals(try conv=>whnf);try exact trivial
end Tp
namespace Dk
theorem off_facts {d:Dk} (hd:d.Ok) {c h:Nat} (hc:c<d.S.length) (hh:h<d.H.toNat) :
  (0≤(c:Int)*d.ck∧(c:Int)*d.ck≤80*999)∧(0≤(c:Int)*(d.H-1)∧(c:Int)*(d.H-1)≤80*3)∧(0≤((c:Int)*(d.H-1)+h)*d.hk∧((c:Int)*(d.H-1)+h)*d.hk≤243*999)∧0≤d.off c h∧d.off c h<d.T:=by
 have h1:=hd.h
 have h2:=hd.t
 have h3:=hd.ck
 have h4:=hd.hk
 have hS:=d.S_len hd
 have a1:=mul_bnd0 (a:=(c:Int)) (b:=d.ck) (m:=80) (n:=999) (by omega) (by omega) (by omega) (by omega)
 have a2:=mul_bnd0 (a:=(c:Int)) (b:=d.H-1) (m:=80) (n:=3) (by omega) (by omega) (by omega) (by omega)
 have a3:=mul_bnd0 (a:=(c:Int)*(d.H-1)+h) (b:=d.hk) (m:=243) (n:=999) (by omega) (by omega) (by omega) (by omega)
 exact⟨a1,a2,a3,Int.emod_nonneg _ (by omega),Int.emod_lt_of_pos _ (by omega)⟩
end Dk
end Go.Proofs
