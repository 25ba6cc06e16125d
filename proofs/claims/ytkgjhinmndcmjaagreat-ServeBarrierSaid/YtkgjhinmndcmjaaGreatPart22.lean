/- Own work: texts of the proof of a law (Wp7). No condition. -/
import Derived.Test.YtkgjhinmndcmjaaGreatPart20
import Derived.Test.YtkgjhinmndcmjaaGreatPart21
import Derived.Test.YtkgjhinmndcmjaaGreatPart0
import Derived.Test.YtkgjhinmndcmjaaGreatPart11
set_option linter.unusedVariables false
set_option linter.unusedSimpArgs false
namespace Go.Proofs.Ca
open Go Go.Sx
set_option maxRecDepth 100000
set_option maxHeartbeats 40000000
theorem shape76f (s:PS) (hl:s.E.length≤1000000):a0g Tryz.prog 155 false [stI s] (·=.agg (shFV (shf s))):=shape76 s hl
theorem drained74 (x:Cache) (hx:x.Ok) (k:Nat) (_hk:k≤x.l.length) (hgood:∀s D,Rch x k s D→(⟨s,D⟩:Trip).Good x k)
  (hcap:∀l:List Trip,(∀t∈l,t.Good x k)→(l.map Trip.sh).Nodup→l.length≤4294967296)
  (l:List Trip) (h0:0<l.length) (hl:∀t∈l,t.Good x k) (hnd:(l.map Trip.sh).Nodup) :
  Sx.Callee Tryz.prog 152 [.osl 0 l.length,.int .i64 k,.int .i64 x.n] [.row 138 2 l.length (a0e trC Trip.none l) false]
   (fun v H=>∃l':List Trip,Closed x k l l'∧v=.osl 1 l'.length∧H=[.gone,.row 138 2 l'.length (a0e trC Trip.none l') false]):=by
 have hn6:=hx.n
 have hl16:=hx.len
 have hlc:=hcap l hl hnd
 refine a0k Tryz.E_ok Tryz.func152 rfl (by kernel_rfl) ?_
 refine x48 ?_
 intro g0
 refine x48 ?_
 refine⟨Nat×(List Int→Prop)×(List Int→Int)×Nat×MG,fun q=>q.1≤l.length∧(∀k,q.2.1 k↔∃t∈l.take q.1,t.sh=k)∧∀k,q.2.1 k→1≤q.2.2.1 k∧q.2.2.1 k≤q.1,fun q=>l.length-q.1,fun q=>[(8,.int .i64 (q.1:Nat))],
  fun q=>[(1,.map K109 true false q.2.1 (fun k=>[.int .i64 (q.2.2.1 k)]) q.2.2.2.1 q.2.2.2.2)],fun _=>[],(0,(fun _=>False),(fun _=>0),0,g0),⟨⟨by dsimp only;omega,by simp,by simp⟩,some [some 0,some 1],?_⟩,?_⟩
 ·refine x26 ?_
  refine⟨a0s (fun k _=>⟨a2W,fun h=>h.elim⟩),?_⟩
  exact xc34
 ·rintro⟨i,dom,c,m,g⟩ ⟨h1,h2,h3⟩
  dsimp only at h1 h2 h3
  (repeat' ((conv=>whnf);first|(with_reducible first|apply spl|apply spl'|refine iJ ?_)<;>intro hc<;>try(exfalso;omega)|refine vcq ?_|refine dr 2009 ?_));all_goals(try conv=>whnf);try exact trivial
  ·have hi:i<l.length:=by dsimp only at hc;omega
   have htm:l.getD i Trip.none∈l:=by simp[a0A,hi]
   have htg:=hl _ htm
   have e0:((i:Nat):Int).toNat=i:=by omega
   refine a0d (shape76f (l.getD i Trip.none).s htg.sm.len) rfl ?_
   have hsh:(l.getD i Trip.none).sh=shF (shf (l.getD i Trip.none).s):=rfl
   generalize shf (l.getD i Trip.none).s=f at hsh ⊢
   have hq:∀key,inR .i64 (cntV dom c key+1):=fun key=>by
    unfold cntV
    split
    ·rename_i h;have:=h3 key h;show(-9223372036854775808:Int)≤_∧_≤(9223372036854775807:Int);omega
    ·show(-9223372036854775808:Int)≤_∧_≤(9223372036854775807:Int);omega
   have hlk:=cntV_again dom c
   have hst:∀t∈l.take (i+1),t∈l:=fun t ht=>a0X ht
   refine x48 ?_
   (repeat' ((first|(refine And.intro (hq _) ?_)|(refine And.intro (hlk _) ?_)|(refine And.intro ⟨rfl,.inl rfl,rfl⟩ ?_));refine x48 ?_))
   intro g1
   refine x48 ?_
   (repeat' ((first|(refine And.intro (hq _) ?_)|(refine And.intro (hlk _) ?_)|(refine And.intro ⟨rfl,.inl rfl,rfl⟩ ?_));refine x48 ?_))
   have hmem:∀key,a1l dom (l.getD i Trip.none).sh key↔∃t∈l.take (i+1),t.sh=key:=fun key=>by
    unfold a1l
    rw[h2]
    exact seen_snoc hi key
   rw[hsh] at hmem
   refine⟨(i+1,a1l dom (shF f),cntUp dom c (shF f),nPut dom m (shF f),g1),⟨⟨by dsimp only;omega,hmem,cntUp_le h3⟩,by dsimp only;omega⟩,some [some 0,some 1],?_⟩
   refine x26 ?_
   refine⟨a0s (fun key _=>⟨a2W,fun h=>cntUp_eq dom c _ key h⟩),?_⟩
   exact xc34
  ·have hi:i=l.length:=by dsimp only at hc;omega
   subst hi
   rw[a2M] at h2
   refine⟨Nat×List Trip×(List Int→Prop)×(List Int→Int)×Nat×MG×Nat,fun q=>Closed' x k l q.2.1 q.1∧(∀k,q.2.2.1 k↔∃t∈q.2.1,t.sh=k)∧q.2.2.2.2.2.2≤4294967296+6*q.1∧∀k,q.2.2.1 k→1≤q.2.2.2.1 k∧q.2.2.2.1 k≤q.2.2.2.2.2.2,fun q=>4294967296-q.1,fun q=>[(9,.int .i64 (q.1:Nat)),(0,.osl 2 q.2.1.length)],
    fun q=>[(0,.gone),(1,.map K109 true false q.2.2.1 (fun k=>[.int .i64 (q.2.2.2.1 k)]) q.2.2.2.2.1 q.2.2.2.2.2.1)],fun q=>[.row 138 2 q.2.1.length (a0e trC Trip.none q.2.1) false],(0,l,dom,c,m,g,l.length),⟨⟨Closed'.start hl hnd,h2,by dsimp only;omega,h3⟩,some [some 0,some 1,some 0],?_⟩,?_⟩
   ·refine x26 ?_
    refine⟨a0s (fun k _=>⟨a2W,fun _=>rfl⟩),?_⟩
    exact xc34
   ·rintro⟨i,l1,dom,c,m,g,cc⟩ ⟨h1,h2,h3,h4⟩
    dsimp only at h1 h2 h3 h4
    have hlc1:=hcap l1 h1.good h1.nd
    refine x73 (fun hc=>?_) (fun hc=>?_)
    ·have hi:i<l1.length:=by dsimp only at hc;omega
     refine⟨Nat×List Trip×(List Int→Prop)×(List Int→Int)×Nat×MG×Nat,fun q=>q.1≤x.n∧Inner x k l l1 q.2.1 i q.1∧(∀k,q.2.2.1 k↔∃t∈q.2.1,t.sh=k)∧q.2.2.2.2.2.2≤4294967296+6*i+q.1∧∀k,q.2.2.1 k→1≤q.2.2.2.1 k∧q.2.2.2.1 k≤q.2.2.2.2.2.2,fun q=>x.n.toNat-q.1,fun q=>[(38,.int .i64 (q.1:Nat)),(0,.osl 3 q.2.1.length)],
      fun q=>[(1,.map K109 true false q.2.2.1 (fun k=>[.int .i64 (q.2.2.2.1 k)]) q.2.2.2.2.1 q.2.2.2.2.2.1),(2,.gone)],fun q=>[.row 138 2 q.2.1.length (a0e trC Trip.none q.2.1) false],(0,l1,dom,c,m,g,cc),⟨⟨by dsimp only;omega,Inner.start h1 hi,h2,by dsimp only;omega,h4⟩,some [some 0,some 1,some 2,some 2],?_⟩,?_⟩
     ·refine x26 ?_
      refine⟨a0s (fun k _=>⟨a2W,fun _=>rfl⟩),?_⟩
      exact xc34
     ·clear h1 h2 h3 h4 hc
      rintro⟨b,l2,dom,c,m,g,cc⟩ ⟨hb,h1,h2,h3,h4⟩
      dsimp only at hb h1 h2 h3 h4
      have hlc2:=hcap l2 h1.cl.good h1.cl.nd
      have hi2:i<l2.length:=h1.lt
      have htm:l2.getD i Trip.none∈l2:=by simp[a0A,hi2]
      have htg:=h1.cl.good _ htm
      refine x73 (fun hc=>?_) (fun hc=>?_)
      ·have hbn:b<x.n:=by dsimp only at hc;omega
       refine a0b (can52 (l2.getD i Trip.none).s htg.sm.len b (by omega)) rfl ?_
       rintro _ rfl
       have hin:=h1.at'
       have hq:∀key,inR .i64 (cntV dom c key+1):=fun key=>by
        unfold cntV
        split
        ·rename_i h;have:=h4 key h;show(-9223372036854775808:Int)≤_∧_≤(9223372036854775807:Int);omega
        ·show(-9223372036854775808:Int)≤_∧_≤(9223372036854775807:Int);omega
       have hlk:=cntV_again dom c
       refine x73 (fun hc=>?_) (fun hc=>?_)
       ·refine⟨(b+1,l2,dom,c,m,g,cc),⟨⟨by dsimp only;omega,h1.skip hc,h2,by dsimp only;omega,h4⟩,by dsimp only;omega⟩,some [some 0,some 1,some 2,some 3],?_⟩
        refine x26 ?_
        refine⟨a0s (fun k _=>⟨a2W,fun _=>rfl⟩),?_⟩
        exact xc34
       ·have hcan:(l2.getD i Trip.none).s.can b:=a0O.1 hc
        have hnew:((l2.getD i Trip.none).with ((k:Int),(b:Int))).Good x k:=hgood _ _ (Rch.drain htg.r hbn hcan)
        refine a0b (with78 (l2.getD i Trip.none) htg.sm (by have:=htg.D;omega) (by have:=htg.W;omega) k b (by omega) hcan.1) rfl ?_
        rintro _ rfl
        refine x25 ?_
        refine a0b (shape76f ((l2.getD i Trip.none).with ((k:Int),(b:Int))).s hnew.sm.len) rfl ?_
        rintro _ rfl
        have hsh:((l2.getD i Trip.none).with ((k:Int),(b:Int))).sh=shF (shf ((l2.getD i Trip.none).with ((k:Int),(b:Int))).s):=rfl
        have hsd:shF (shf ((l2.getD i Trip.none).with ((k:Int),(b:Int))).s)=shS ((l2.getD i Trip.none).s.drain b):=rfl
        generalize shf ((l2.getD i Trip.none).with ((k:Int),(b:Int))).s=f at hsh hsd ⊢
        refine x25 ?_
        (repeat' ((first|(refine And.intro (hq _) ?_)|(refine And.intro (hlk _) ?_)|(refine And.intro ⟨rfl,.inl rfl,rfl⟩ ?_));refine x25 ?_))
        intro g1
        refine x25 ?_
        (repeat' ((first|(refine And.intro (hq _) ?_)|(refine And.intro (hlk _) ?_)|(refine And.intro ⟨rfl,.inl rfl,rfl⟩ ?_));(repeat' ((conv=>whnf);first|(with_reducible first|apply spl|apply spl'|refine iJ ?_)<;>intro hc<;>try(exfalso;omega)|refine vcq ?_|refine dr 2004 ?_));all_goals((try conv=>whnf);try exact trivial)))
        ·have hno:¬dom (shF f):=(cnt_new (fun k h=>(h4 k h).1)).1 hc
         clear hc
         refine⟨(b+1,l2++[(l2.getD i Trip.none).with ((k:Int),(b:Int))],a1l dom (shF f),cntUp dom c (shF f),nPut dom m (shF f),g1,cc+1),⟨⟨by dsimp only;omega,h1.add hnew (hsh.trans hsd) (fun h=>hno ((h2 _).2 (hsh▸h))),(hsh▸dom_snoc h2 ((l2.getD i Trip.none).with ((k:Int),(b:Int)))),by dsimp only;omega,cntUp_le h4⟩,by dsimp only;omega⟩,some [some 0,some 1,some 2,some 7],?_⟩
         refine x26 ?_
         refine⟨by simp,?_⟩
         refine x26 ?_
         refine⟨a0s (fun key _=>⟨a2W,fun h=>cntUp_eq dom c _ key h⟩),?_⟩
         refine x26 ?_
         refine⟨by simp,a1q (c:=trC) (a:=(l2.getD i Trip.none).with ((k:Int),(b:Int))) (l:=l2) rfl (fun _ _=>rfl),?_⟩
         exact xc34
        ·have hyes:dom (shF f):=a0Q fun h=>hc ((cnt_new (fun k h=>(h4 k h).1)).2 h)
         clear hc
         refine⟨(b+1,l2,a1l dom (shF f),cntUp dom c (shF f),nPut dom m (shF f),g1,cc+1),⟨⟨by dsimp only;omega,h1.old (hsd▸(h2 _).1 hyes),dom_same h2 hyes,by dsimp only;omega,cntUp_le h4⟩,by dsimp only;omega⟩,some [some 0,some 1,some 2,some 3],?_⟩
         refine x26 ?_
         refine⟨a0s (fun key _=>⟨a2W,fun h=>cntUp_eq dom c _ key h⟩),?_⟩
         exact xc34
      ·obtain rfl:b=x.n.toNat:=by dsimp only at hc;omega
       refine⟨(i+1,l2,dom,c,m,g,cc),⟨⟨h1.done hx,h2,by dsimp only;omega,h4⟩,by dsimp only;omega⟩,some [some 0,some 1,some 3],?_⟩
       refine x26 ?_
       refine⟨a0s (fun k _=>⟨a2W,fun _=>rfl⟩),?_⟩
       exact xc34
    ·have hil:i=l1.length:=by have:=h1.le;dsimp only at hc;omega
     subst hil
     refine⟨_,_,⟨l1,h1.end',rfl,rfl⟩,some [some 0,some 2],?_⟩
     exact xc34
end Go.Proofs.Ca
