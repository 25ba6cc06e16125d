/- Own work: texts of the proof of a law (WqD5, WqD6, WqC5, WqD7, WqX, WqD8). No condition. -/
import Derived.Test.YtkgjhinmndcmjaaGreatPart29
import Derived.Test.YtkgjhinmndcmjaaGreatPart17
import Derived.Test.YtkgjhinmndcmjaaGreatPart0
import Derived.Test.YtkgjhinmndcmjaaGreatPart11
set_option linter.unusedVariables false
set_option linter.unusedSimpArgs false
namespace Go.Proofs
open Go Go.Sx
set_option maxRecDepth 100000
set_option maxHeartbeats 40000000
theorem to65 (n m:Int):a0g Tryz.prog 135 false [.int .i64 n,.int .i64 m] (·=.prop (0≤n∧n≤m) inferInstance):=by
 refine a0a Tryz.E_ok Tryz.func135 rfl (by kernel_rfl) ?_
 refine x1 ?_;(all_goals(try(refine⟨_,rfl,?_⟩;exact xc0)))
theorem size64 (d:Dk) (hd:d.Ok):a0g Tryz.prog 134 false [d.v] (·=.tup [.int .i64 d.S.length,.int .i64 d.cnt]):=by
 have hz:=hd.z
 have hSl:=(d.S_len hd).1
 refine a0a Tryz.E_ok Tryz.func134 rfl (by kernel_rfl) ?_
 refine x1 ?_
 refine⟨Nat,fun i=>i≤d.Z.length,fun i=>d.Z.length-i,fun i=>[(9,.int .i64 (i:Nat)),(2,.int .i64 (d.Spre i 0).length)],fun _=>[],fun _=>[],0,⟨by omega,some [some 0],?_⟩,?_⟩
 ·exact xc0
 ·intro i hi
  have hi:i≤d.Z.length:=hi
  have hti:(i:Int).toNat=i:=a0E i
  have hle:=(d.Spre_le hd i hi).1
  refine x3 (fun hc=>?_) (fun hc=>?_)
  ·have hil:i<d.Z.length:=by omega
   have hzi:=Dk.zone_at hd hil
   have hs:=d.Spre_len_succ hil
   have hz1:((d.Z.getD i (0,0)).1.toNat:Int)=(d.Z.getD i (0,0)).1:=a3F (by omega)
   rw[hti]
   refine x1 ?_
   refine⟨i+1,⟨by omega,by dsimp only;omega⟩,some [some 0],?_⟩
   exact xc0
  ·obtain rfl:i=d.Z.length:=by omega
   rw[Dk.Spre_all]
   refine a0b (Size81 d hd) rfl ?_
   rintro _ rfl
   refine x1 ?_
   refine⟨_,rfl,?_⟩
   exact xc0
theorem Check43 (q:Qu) (hq:q.Ok):a0g Tryz.prog 92 false [.agg q.c] (·=.int .i64 0):=by
 have hd:=hq.d
 have hz:=hd.z
 have hcy:=hq.cyl
 have hpa:=hq.pas
 have hrl:=hq.rql
 have hskl:=hq.skl
 have hSl:=(q.d.S_len hd).1
 have hcn:=q.d.cnt_le hd
 have hck:=Check63 q.d (by omega)
 rw[Dk.chk_of hd] at hck
 refine a0a Tryz.E_ok Tryz.func92 rfl (by kernel_rfl) ?_
 refine x1 ?_
 refine a0b hck rfl ?_
 rintro _ rfl
 refine x1 (fun hc=>?_)
 refine a0b (size64 q.d hd) rfl ?_
 rintro _ rfl
 refine x1 ?_;(repeat' ((first|(refine a0b (to65 _ _) rfl ?_;rintro _ rfl)|(refine a0d (to65 _ _) rfl ?_)|(refine a0h (fun _=>to65 _ _) rfl ?_));refine x1 (fun hc=>?_)))
 refine⟨Nat,fun i=>i≤q.sk.length,fun i=>q.sk.length-i,fun i=>[(54,.int .i64 (i:Nat))],fun _=>[],fun _=>[],0,⟨by omega,none,?_⟩,?_⟩
 ·exact xc0
 ·intro i hi
  have hi:i≤q.sk.length:=hi
  have hti:(i:Int).toNat=i:=a0E i
  (repeat' ((conv=>whnf);first|(with_reducible first|apply spl|apply spl'|refine iJ ?_)<;>intro hc<;>try(exfalso;omega)|refine vcq ?_|fail));all_goals((try conv=>whnf);try exact trivial);(repeat' ((first|(refine a0b (to65 _ _) rfl ?_;rintro _ rfl)|(refine a0d (to65 _ _) rfl ?_)|(refine a0h (fun _=>to65 _ _) rfl ?_));refine x3 (fun hc=>?_) (fun hc=>?_)))
  ·rw[hti] at hc
   have hil:i<q.sk.length:=by omega
   have:=Qu.sk_at hq hil
   exfalso
   omega
  ·have hil:i<q.sk.length:=by omega
   refine⟨i+1,⟨by omega,by dsimp only;omega⟩,some [some 0],?_⟩
   exact xc0
  ·obtain rfl:i=q.sk.length:=by omega
   refine⟨Nat×Int,fun p=>p.1≤q.rq.length∧(p.1<q.rq.length→p.2≤(q.rq.getD p.1 Rq.none).t0),fun p=>q.rq.length-p.1,fun p=>[(74,.int .i64 (p.1:Nat)),(9,.int .i64 p.2)],fun _=>[],fun _=>[],(0,0),⟨⟨by dsimp only;omega,fun g=>by have:=Qu.rq_at hq g;unfold Qu.RqOk at this;dsimp only at this ⊢;omega⟩,none,?_⟩,?_⟩
   ·exact xc0
   ·rintro⟨i,a0⟩ ⟨hi,ha⟩
    dsimp only at hi ha
    have hti:(i:Int).toNat=i:=a0E i
    refine x3 (fun hc=>?_) (fun hc=>?_)
    ·have hil:i<q.rq.length:=by dsimp only at *;omega
     have hr:=Qu.rq_at hq hil
     have ha:=ha hil
     unfold Qu.RqOk at hr
     clear hi
     rw[hti]
     refine x1 ?_;(repeat' ((first|(refine a0b (to65 _ _) rfl ?_;rintro _ rfl)|(refine a0d (to65 _ _) rfl ?_)|(refine a0h (fun _=>to65 _ _) rfl ?_));refine x1 (fun hc=>?_)))
     refine⟨(i+1,(q.rq.getD i Rq.none).t0),⟨⟨by dsimp only;omega,fun g=>Qu.rq_asc hq g (by omega)⟩,by dsimp only;omega⟩,some [some 0],?_⟩
     exact xc0
    ·have hie:i=q.rq.length:=by dsimp only at *;omega
     refine⟨_,rfl,?_⟩
     exact xc0
theorem rowNat (o:List Nat):a0e natC 0 o=a0e intC 0 (o.map Int.ofNat):=by
 funext i
 unfold a0e natC intC
 by_cases hi:i<o.length
 ·simp[a0A,hi]
 ·simp[a0A,a0V (a2U hi)]
theorem range_sorted (n:Nat):((List.range n).map Int.ofNat).Pairwise (·<·):=by
 rw[a2Z]
 exact List.pairwise_lt_range.imp fun h=>by simpa using h
theorem range_getD (n i:Nat) (h:i<n):((List.range n).map Int.ofNat).getD i 0=i:=by
 simp[a0A,h]
theorem appF_last {n:Nat} {f:Nat→List V} {c:List V} (h:c=f n):∀i,i<n+1→appF n f (fun _=>c) i=f i:=by
 intro i hi
 unfold appF
 split
 ·rfl
 ·rw[h,show i=n by omega]
theorem open31 (q:Qu) (hq:q.Ok) (o:List Nat) (ho:IsOrd q.rq.length o):a0g Tryz.prog 58 true [.agg q.c,.sl 1 o.length (a0e natC 0 o)] (·=.tup [.agg q.c,.int .i64 0]):=by
 have hn:=hq.rql
 have hlen:=ho.len
 have hml:(o.map Int.ofNat).length=o.length:=by simp
 refine a0a Tryz.E_ok Tryz.func58 rfl (by kernel_rfl) ?_
 refine x43 ?_
 refine a0b (Check43 q hq) rfl ?_
 rintro _ rfl
 refine x43 (fun hc=>?_)
 refine a0r Tryz.E_ok Tryz.func94 rfl (by kernel_rfl) ?_
 refine x43 ?_
 refine a0c [2] (sorted51 (o.map Int.ofNat) (by omega)) rfl ?_ ?_
 ·refine x43 ?_
  refine⟨fun i _=>by rw[rowNat],?_⟩
  exact xc42
 ·rintro _ _ ⟨m,g1,g2,rfl,rfl⟩
  have hm:m=(List.range q.rq.length).map Int.ofNat:=sorted_unique m _ (g1.trans (ho.perm.map _)) (pairwise_of_getD (fun p r hp hr=>g2 p r hp (by have:=g1.length_eq;omega))) (range_sorted _)
  subst hm
  refine x43 ?_
  refine⟨Nat,fun i=>i≤o.length,fun i=>o.length-i,fun i=>[(21,.int .i64 (i:Nat))],fun _=>[],fun _=>[],0,⟨by omega,none,?_⟩,?_⟩
  ·exact xc42
  ·intro i hi
   have hi:i≤o.length:=hi
   have hti:(i:Int).toNat=i:=a0E i
   (repeat' ((conv=>whnf);first|(with_reducible first|apply spl|apply spl'|refine iJ ?_)<;>intro hc<;>try(exfalso;omega)|refine vcq ?_|refine dr 11 ?_|refine dr 8 ?_));all_goals(try conv=>whnf);try exact trivial
   ·rw[hti,range_getD _ _ (by omega)] at hc
    exact absurd rfl hc
   ·refine⟨i+1,⟨by omega,by dsimp only;omega⟩,none,?_⟩
    exact xc42
   ·refine⟨_,rfl,?_⟩
    exact xc42
theorem Ends11 (q:Qu) (hq:q.Ok) (o:List Nat) (ho:IsOrd q.rq.length o):a0g Tryz.prog 26 false [.agg q.c,.sl 1 o.length (a0e natC 0 o)] (·=.tup [.sl 2 q.rq.length (fun r=>[.int .i64 (q.endOf false o r),.int .i64 (q.endOf true o r)]),.int .i64 0]):=by
 have hn:=hq.rql
 refine a0a Tryz.E_ok Tryz.func26 rfl (by kernel_rfl) ?_
 refine x43 ?_
 refine a0b (open31 q hq o ho) rfl ?_
 rintro _ rfl
 refine x79 (fun hc=>?_)
 refine a0d (ends32 q hq false o ho) rfl ?_
 refine x79 ?_
 refine a0d (ends32 q hq true o ho) rfl ?_
 refine x79 ?_
 refine⟨Nat,fun i=>i≤q.rq.length,fun i=>q.rq.length-i,fun i=>[(29,.int .i64 (i:Nat)),(8,.osl 2 i)],fun _=>[],fun i=>[.row 27 2 i (fun r=>[.int .i64 (q.endOf false o r),.int .i64 (q.endOf true o r)]) true],0,⟨by omega,some [some 0,some 1,none],?_⟩,?_⟩
 ·exact xc42
 ·intro i hi
  have hi:i≤q.rq.length:=hi
  have hti:(i:Int).toNat=i:=a0E i
  (repeat' ((conv=>whnf);first|(with_reducible first|apply spl|apply spl'|refine iJ ?_)<;>intro hc<;>try(exfalso;omega)|refine vcq ?_|refine dr 11 ?_));all_goals(try conv=>whnf);try exact trivial
  ·rw[hti]
   refine⟨i+1,⟨by omega,by dsimp only;omega⟩,some [some 0,some 1,some 4],?_⟩
   refine x43 ?_
   refine⟨appF_last rfl,?_⟩
   exact xc42
  ·obtain rfl:i=q.rq.length:=by omega
   refine⟨_,rfl,?_⟩
   exact xc42
end Go.Proofs
namespace Go.Proofs
open Go Go.Sx
set_option maxRecDepth 100000
set_option maxHeartbeats 4000000
end Go.Proofs
namespace Go.Proofs
open Go Go.Sx
set_option maxRecDepth 100000
set_option maxHeartbeats 40000000
def exD:Dk:=⟨2,60,[(2,6),(1,5)],10,25,(4,12),(20,30)⟩
def exQ:Qu:=⟨exD,0,2,[(0,0),(10,40),(15,30)],[⟨30,2,0,-1,false⟩,⟨0,3,0,100,false⟩,⟨14,1,5,150,false⟩,⟨1,2,10,-1,true⟩]⟩
instance (n p:Nat) (od:Nat→Prop) [DecidablePred od] (b:List Nat) (r:Nat):Decidable (FitsQ n p od b r):=inferInstanceAs (Decidable (∀m,m<n→m<r→m∉b→_))
instance (n p:Nat) (od:Nat→Prop) [DecidablePred od]:DecidablePred (AllP n p od):=fun o=>inferInstanceAs (Decidable (∀i,i<o.length→_))
instance (q:Qu):DecidablePred q.od:=fun r=>inferInstanceAs (Decidable ((q.req r).od=true))
theorem exD_ok:exD.Ok:=by
 refine⟨?_,?_,?_,?_,?_,?_,?_,?_⟩<;>(try unfold Dk.SpanOk)<;>decide +kernel
theorem propV {p q:Prop} {dp:Decidable p} {dq:Decidable q} (h:p↔q):V.prop p dp=V.prop q dq:=by
 cases propext h
 rw[Subsingleton.elim dp dq]
theorem Example50:a0g Tryz.prog 81 false [] (·=exD.v):=by
 refine a0a Tryz.E_ok Tryz.func81 rfl (by kernel_rfl) ?_
 refine x1 ?_;(repeat' ((first|(refine a0b (span69 _ _) rfl ?_;rintro _ rfl)|(refine a0d (span69 _ _) rfl ?_)|(refine a0h (fun _=>span69 _ _) rfl ?_));refine x1 ?_))
 refine⟨_,rfl,?_⟩
 refine x1 ?_
 refine⟨fun i hi=>?_,.inr fun i hi=>rfl,?_⟩
 ·have:i=0∨i=1:=by omega
  rcases this with rfl|rfl<;>rfl
 ·exact xc0
theorem Example28:a0g Tryz.prog 82 true [] (·=.agg exQ.c):=by
 refine a0a Tryz.E_ok Tryz.func82 rfl (by kernel_rfl) ?_
 refine x1 ?_;(repeat' ((first|(refine a0b (Example50) rfl ?_;rintro _ rfl)|(refine a0d (Example50) rfl ?_)|(refine a0h (fun _=>Example50) rfl ?_)|(refine a0b (span16 _ _) rfl ?_;rintro _ rfl)|(refine a0d (span16 _ _) rfl ?_)|(refine a0h (fun _=>span16 _ _) rfl ?_));refine x1 ?_))
 refine⟨_,rfl,?_⟩
 refine x1 ?_
 refine⟨fun i hi=>?_,.inl rfl,?_⟩
 ·have:i=0∨i=1∨i=2:=by omega
  rcases this with rfl|rfl|rfl<;>rfl
 ·refine x1 ?_
  refine⟨fun i hi=>?_,?_⟩
  ·have:i=0∨i=1∨i=2∨i=3:=by omega
   rcases this with rfl|rfl|rfl|rfl
   ·exact congrArg (fun x=>[V.int .i64 30,.int .i64 2,.int .i64 0,.int .i64 (-1),x]) (propV (by decide))
   ·exact congrArg (fun x=>[V.int .i64 0,.int .i64 3,.int .i64 0,.int .i64 100,x]) (propV (by decide))
   ·exact congrArg (fun x=>[V.int .i64 14,.int .i64 1,.int .i64 5,.int .i64 150,x]) (propV (by decide))
   ·exact congrArg (fun x=>[V.int .i64 1,.int .i64 2,.int .i64 10,.int .i64 (-1),x]) (propV (by decide))
  ·exact xc0
end Go.Proofs
