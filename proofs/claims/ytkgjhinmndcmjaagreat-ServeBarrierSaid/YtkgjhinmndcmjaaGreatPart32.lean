/- Own work: texts of the proof of a law (Ws9, WsA, WsB, WpN, WpI, WsO, WsP, WvM). No condition. -/
import Derived.Test.YtkgjhinmndcmjaaGreatPart26
import Derived.Test.YtkgjhinmndcmjaaGreatPart31
import Derived.Test.YtkgjhinmndcmjaaGreatPart13
import Derived.Test.YtkgjhinmndcmjaaGreatPart14
import Derived.Test.YtkgjhinmndcmjaaGreatPart0
import Derived.Test.YtkgjhinmndcmjaaGreatPart11
set_option linter.unusedVariables false
set_option linter.unusedSimpArgs false
namespace Go.Proofs
open Go Go.Sx
set_option maxRecDepth 100000
set_option maxHeartbeats 4000000
def Sv.c (s:Sv):List V:=[.int .i64 s.x.n,.sl 2 s.x.l.length (a0e Ca.oC (0,0) s.x.l),.int .i64 s.d.H,.int .i64 s.d.T,.sl 2 s.d.Z.length (a0e zC (0,0) s.d.Z),.int .i64 s.d.hk,.int .i64 s.d.ck,.int .i64 s.d.hs.1,.int .i64 s.d.hs.2,.int .i64 s.d.cs.1,.int .i64 s.d.cs.2,.sl 2 s.sk.length (a0e zC (0,0) s.sk),.int .i64 s.cyl,.sl 1 s.sec.length (a0e seC 0 s.sec)]
def Sv.qv (s:Sv):V:=.agg [.int .i64 s.d.H,.int .i64 s.d.T,.sl 2 s.d.Z.length (a0e zC (0,0) s.d.Z),.int .i64 s.d.hk,.int .i64 s.d.ck,.int .i64 s.d.hs.1,.int .i64 s.d.hs.2,.int .i64 s.d.cs.1,.int .i64 s.d.cs.2,.int .i64 s.cyl,.int .i64 0,.sl 2 s.sk.length (a0e zC (0,0) s.sk),.lit (.slice none 0 0)]
theorem line90 (s:Sv):a0g Tryz.prog 90 true [.agg s.c,.lit (.slice none 0 0)] (·=s.qv):=by
 refine a0a Tryz.E_ok Tryz.func90 rfl (by kernel_rfl) ?_
 unfold Sv.c Sv.qv
 refine x1 ?_
 refine⟨_,rfl,?_⟩
 exact xc0
theorem checkN (s:Sv) (hz:s.d.Z.length≤1000000) (hsk:s.sk.length≤1000000):a0g Tryz.prog 92 false [s.qv] (·=.int .i64 (s.qu []).chk):=by
 refine a0g.view (Check10 (s.qu []) hz hsk (a1X _) ?_) ?_
 ·intro r
  show IntKind.i64.min≤(Rq.none).du∧(Rq.none).du≤IntKind.i64.max
  decide
 ·unfold Qu.c Sv.qv Sv.qu
  dsimp only[List.map_nil,List.length_nil]
  exact xc0
noncomputable def cntV (dom:List Int→Prop) (c:List Int→Int) (k:List Int):Int:=@ite _ (dom k) (Classical.propDecidable _) (c k) 0
noncomputable def cntUp (dom:List Int→Prop) (c:List Int→Int) (k:List Int) (k':List Int):Int:=@ite _ (k'=k) (Classical.propDecidable _) (cntV dom c k+1) (c k')
theorem used_iff {dom:List Int→Prop} {c:List Int→Int} {k:List Int} (h:∀k,dom k→c k=1) :
  (1<@ite _ (a1l dom k k) (Classical.propDecidable _) (@ite _ (k=k) (Classical.propDecidable _) (@ite _ (dom k) (Classical.propDecidable _) (c k) 0+1) (c k)) 0)↔dom k:=by
 rw[if_pos (show a1l dom k k from .inl rfl),if_pos rfl]
 by_cases g:dom k
 ·rw[if_pos g,h k g]
  exact⟨fun _=>g,fun _=>by omega⟩
 ·rw[if_neg g]
  exact⟨fun h=>by omega,fun h=>absurd h g⟩
theorem Sv.nI {s:Sv} (hx:s.x.Ok):(s.n:Int)=s.x.n:=by
 have h3:=hx.n
 unfold Sv.n
 omega
theorem isServing84 (s:Sv) (hd:s.d.Ok) (hx:s.x.Ok) (hsk:s.sk.length≤1000000) (hsec:s.sec.length≤1000000):a0g Tryz.prog 84 false [.agg s.c] (·=.prop s.SOk (Classical.propDecidable _)):=by
 have hcn:=s.d.cnt_le hd
 have hck:=checkN s (by have:=hd.z;omega) hsk
 refine a0a Tryz.E_ok Tryz.func84 rfl (by kernel_rfl) ?_
 unfold Sv.c
 refine x1 ?_
 refine a0b (Size81 s.d hd) rfl ?_
 rintro _ rfl
 refine x1 ?_
 intro g0
 refine x1 ?_
 refine⟨Nat×(List Int→Prop)×(List Int→Int)×Nat×MG,fun q=>q.1≤s.sec.length∧(∀k,q.2.1 k↔∃j,j<q.1∧[s.sec.getD j 0]=k)∧(∀k,q.2.1 k→q.2.2.1 k=1)∧(∀i,i<q.1→(0≤s.sec.getD i 0∧s.sec.getD i 0≤(s.d.cnt:Int)-1)∧∀k,k<i→s.sec.getD k 0≠s.sec.getD i 0),fun q=>s.sec.length-q.1,fun q=>[(18,.int .i64 (q.1:Nat))],fun q=>[(1,.map [.i64] false false q.2.1 (fun k=>[.int .i64 (q.2.2.1 k)]) q.2.2.2.1 q.2.2.2.2)],fun _=>[],(0,(fun _=>False),(fun _=>0),0,g0),⟨⟨by dsimp only;omega,by simp,by simp,fun i hi=>by dsimp only at hi;omega⟩,some [some 0,some 1],?_⟩,?_⟩
 ·exact xc0
 ·rintro⟨i,dom,c,m,g⟩ ⟨h1,h2,h3,h4⟩
  dsimp only at h1 h2 h3 h4
  have hti:(i:Int).toNat=i:=a0E i
  have hq:∀key,inR .i64 (cntV dom c key+1):=fun key=>by
   unfold cntV
   split
   ·rename_i h;have:=h3 key h;show(-9223372036854775808:Int)≤_∧_≤(9223372036854775807:Int);omega
   ·show(-9223372036854775808:Int)≤_∧_≤(9223372036854775807:Int);omega
  refine x52 (fun hc=>?_) (fun hc hc=>?_) (fun hc hc=>?_)
  ·have hi:i<s.sec.length:=by dsimp only at hc;omega
   refine And.intro (hq _) ?_
   refine x1 ?_
   intro g1
   refine x3 (fun hc=>?_) (fun hc=>?_)
   ·dsimp only at hc
    rw[used_iff h3,hti,h2] at hc
    have hno:¬s.SOk:=fun h=>by
     have h5:=h.rng i hi
     rcases hc with(h6|h6)|⟨j,h6,h7⟩
     ·omega
     ·omega
     ·exact h.nd i hi j h6 (List.cons.inj h7).1
    refine⟨_,rfl,?_⟩
    exact xc0
   ·dsimp only at hc
    rw[used_iff h3,hti] at hc
    have hnd:¬dom [s.sec.getD i 0]:=fun h=>hc (.inr h)
    have hnd2:=hnd
    rw[h2] at hnd2
    rw[hti]
    refine⟨(i+1,a1l dom [s.sec.getD i 0],cntUp dom c [s.sec.getD i 0],nPut dom m [s.sec.getD i 0],g1),⟨⟨by dsimp only;omega,fun key=>?_,fun key hk=>?_,fun a ha=>?_⟩,by dsimp only;omega⟩,some [some 0,some 1],?_⟩
    ·dsimp only
     unfold a1l
     rw[h2]
     constructor
     ·rintro(rfl|⟨j,hj,e⟩)
      ·exact⟨i,by omega,rfl⟩
      ·exact⟨j,by omega,e⟩
     ·rintro⟨j,hj,e⟩
      rcases a0I (a2C hj) with g|rfl
      ·exact .inr ⟨j,g,e⟩
      ·exact .inl e.symm
    ·dsimp only at hk ⊢
     unfold cntUp cntV
     by_cases g:key=[s.sec.getD i 0]
     ·rw[if_pos g,if_neg hnd];rfl
     ·rw[if_neg g];exact h3 key (hk.resolve_left g)
    ·dsimp only at ha
     rcases a0I (a2C ha) with g|rfl
     ·exact h4 a g
     ·refine⟨by omega,fun k hk e=>hnd2 ⟨k,hk,by rw[e]⟩⟩
    ·exact xc0
  ·have hil:i=s.sec.length:=by dsimp only at *;omega
   subst hil
   have hlq:=line90 s
   unfold Sv.c Sv.qv at hlq
   unfold Sv.qv at hck
   refine a0b hlq rfl ?_
   rintro _ rfl
   refine x1 ?_
   refine a0b hck rfl ?_
   rintro _ rfl
   have hiff:s.SOk↔(s.qu []).chk=0:=⟨fun h=>Qu.chk_of h.q,fun h=>⟨by have:=Sv.nI hx;omega,fun i hi=>(h4 i hi).1,fun i hi=>(h4 i hi).2,Qu.chk_ok h⟩⟩
   refine x1 ?_
   refine⟨_,rfl,?_⟩
   refine x1 ?_
   exact⟨hiff.symm,trivial⟩
  ·have hno:¬s.SOk:=fun h=>by
    have:=h.len
    have:=Sv.nI hx
    omega
   refine⟨_,rfl,?_⟩
   exact xc0
theorem mul64 (n:Nat) (hn:n≤6):a0g Tryz.prog 162 false [.int .u64 1,.int .u64 (n:Nat)] (·=.tup [.int .u64 0,.int .u64 (n:Nat)]):=by
 refine a0a Tryz.E_ok Tryz.func162 rfl (by kernel_rfl) ?_
 have h:n=0∨n=1∨n=2∨n=3∨n=4∨n=5∨n=6:=by omega
 rcases h with rfl|rfl|rfl|rfl|rfl|rfl|rfl
 all_goals
  refine x1 ?_
  repeat(refine And.intro (by first|decide|(unfold inR;decide +kernel)|(show _∧_;decide +kernel)) ?_;refine x1 ?_)
  refine⟨_,rfl,?_⟩
  exact xc0
theorem mul123 (n:Nat) (hn:n≤6):a0g Tryz.prog 123 false [.int .u64 1,.int .u64 (n:Nat)] (·=.tup [.int .u64 0,.int .u64 (n:Nat)]):=by
 refine a0a Tryz.E_ok Tryz.func123 rfl (by kernel_rfl) ?_
 refine x1 ?_
 refine a0b (mul64 n hn) rfl ?_
 rintro _ rfl
 refine x1 ?_
 refine⟨_,rfl,?_⟩
 exact xc0
theorem rep85 (n:Nat) (hn:n≤6):Sx.Callee Tryz.prog 85 [.osl 0 1,.int .i64 (n:Nat)] [.row 3 1 1 (mdC (fun _=>-1)) false]
  (fun v H=>v=.osl 1 n∧H=[.row 3 1 1 (mdC (fun _=>-1)) false,.row 3 1 n (mdC (fun _=>-1)) false]):=by
 refine a0k Tryz.E_ok Tryz.func85 rfl (by kernel_rfl) ?_
 have hw:IntKind.u64.wrap (n:Int)=n:=by
  have h:n=0∨n=1∨n=2∨n=3∨n=4∨n=5∨n=6:=by omega
  rcases h with rfl|rfl|rfl|rfl|rfl|rfl|rfl<;>rfl
 have hw2:IntKind.i64.wrap (n:Int)=n:=by
  have h:n=0∨n=1∨n=2∨n=3∨n=4∨n=5∨n=6:=by omega
  rcases h with rfl|rfl|rfl|rfl|rfl|rfl|rfl<;>rfl
 have hr:inR .u64 (n:Int):=by unfold inR;exact⟨Int.natCast_nonneg n,Int.le_trans (by omega:(n:Int)≤6) (by decide)⟩
 have hr2:inR .i64 (n:Int):=inR64 (by omega) (by omega)
 refine x46 (fun hc=>?_)
 refine And.intro (by unfold inR;decide) ?_
 refine x46 ?_
 refine a0b (mul123 n hn) rfl ?_
 rintro _ rfl
 refine x46 (fun hc=>?_)
 have hti:(n:Int).toNat=n:=a0E n
 rw[hti]
 refine⟨Nat×(Nat→List V),fun q=>(q.1≤n∧(0<n→0<q.1))∧∀j,j<q.1→q.2 j=[.int .i64 (-1)],fun q=>n-q.1,fun q=>[(8,.int .i64 (q.1:Nat))],fun q=>[(1,.row 3 1 n q.2 false)],fun _=>[],(min 1 n,fun j=>if 0≤j∧j<0+min 1 n then mdC (fun _=>-1) (j-0) else [.int .i64 0]),⟨⟨⟨by dsimp only;omega,by dsimp only;omega⟩,fun j hj=>by dsimp only at hj ⊢;rw[if_pos ⟨by omega,by omega⟩];rfl⟩,some [some 0,some 1],?_⟩,?_⟩
 ·exact xc74
 ·rintro⟨k,f⟩ ⟨⟨h1,h2⟩,h3⟩
  dsimp only at h1 h2 h3
  have htk:(k:Int).toNat=k:=a0E k
  (repeat' ((conv=>whnf);first|(with_reducible first|apply spl|apply spl'|refine iJ ?_)<;>intro hc<;>try(exfalso;omega)|refine vcq ?_|refine dr 2007 ?_));all_goals(try conv=>whnf);try exact trivial
  ·rw[htk]
   refine⟨(k+min (n-k) k,fun j=>if k≤j∧j<k+min (n-k) k then f (0+(j-k)) else f j),⟨⟨⟨by dsimp only;omega,fun _=>by dsimp only;omega⟩,fun j hj=>?_⟩,by dsimp only at *;omega⟩,some [some 0,some 1],?_⟩
   ·dsimp only at hj ⊢
    split
    ·exact h3 _ (by omega)
    ·exact h3 _ (by omega)
   ·refine x46 ?_
    refine And.intro (fun j hj=>?_) ?_
    ·dsimp only
     have e:min ((k:Int)-0).toNat ((n:Int)-(k:Int)).toNat=min (n-k) k:=by omega
     rw[e]
     rfl
    ·exact xc74
  ·obtain rfl:k=n:=by dsimp only at *;omega
   refine⟨_,_,⟨rfl,rfl⟩,some [some 0,some 1],?_⟩
   refine x46 ?_
   refine And.intro (fun j hj=>h3 j hj) ?_
   exact xc74
end Go.Proofs
namespace Go.Proofs.Ca
open Go Go.Sx
set_option maxRecDepth 100000
set_option maxHeartbeats 40000000
theorem newest63 (x:Cache) (hx:x.Ok):NewC Tryz.prog 76 [x.v] (fun r H=>r=.osl 0 x.n.toNat∧H=[.row 3 1 x.n.toNat (fun b=>[.int .i64 (newP x.l x.l.length b)]) false]):=by
 obtain⟨n,hn⟩:∃n:Nat,x.n=n:=⟨x.n.toNat,by have:=hx.n;omega⟩
 have hn6:=hx.n
 have hl16:=hx.len
 have hr:=rep85 n (by omega)
 refine newC_ent Tryz.E_ok Tryz.func76 rfl (by kernel_rfl) ?_
 rw[show x.v=.agg [.int .i64 n,.sl 2 x.l.length (a0e oC (0,0) x.l)] from by unfold Cache.v;rw[hn]]
 rw[hn]
 refine x1 ?_
 refine a0c [1] hr rfl ?_ ?_
 ·exact xc0
 ·rintro _ _ ⟨rfl,rfl⟩
  refine x1 ?_
  refine⟨Nat,fun k=>k≤x.l.length,fun k=>x.l.length-k,fun k=>[(13,.int .i64 k)],fun k=>[(2,.row 3 1 n (fun b=>[.int .i64 (newP x.l k b)]) false)],fun _=>[],0,⟨by omega,none,?_⟩,?_⟩
  ·refine x1 ?_
   rfl
  ·intro k hk
   have hk:k≤x.l.length:=hk
   refine x3 (fun hc=>?_) (fun hc=>?_)
   ·have hk1:k<x.l.length:=by omega
    have hq:(x.l.getD (k:Int).toNat (0,0)).1=1∨(x.l.getD (k:Int).toNat (0,0)).1=2→0≤(x.l.getD (k:Int).toNat (0,0)).2∧(x.l.getD (k:Int).toNat (0,0)).2<n:=by
     have e:x.l.getD (k:Int).toNat (0,0)=x.l[k]:=by simp[a0A,hk1]
     rw[e]
     have h1:=hx.ord x.l[k] (a0N hk1)
     unfold Cache.OkO at h1
     omega
    refine a0b (puts62 (x.l.getD (k:Int).toNat (0,0))) rfl ?_
    rintro _ rfl
    refine x3 (fun hc=>?_) (fun hc=>?_)
    ·refine⟨k+1,⟨by omega,by dsimp only;omega⟩,some [some 0,some 1,some 2],?_⟩
     refine x1 ?_
     refine⟨fun i hi=>?_,?_⟩
     ·show a2d (i=(x.l.getD k (0,0)).2.toNat) [.int .i64 (newP x.l k i)] 0 [.int .i64 k]=[.int .i64 (newP x.l (k+1) i)]
      by_cases h:i=(x.l.getD k (0,0)).2.toNat
      ·rw[a0w h,newP_succ,if_pos ⟨hc,h.symm⟩]
       rfl
      ·rw[a0t h,newP_succ,if_neg (fun hh=>h hh.2.symm)]
     ·exact xc0
    ·refine⟨k+1,⟨by omega,by dsimp only;omega⟩,some [some 0,some 1,some 2],?_⟩
     refine x1 ?_
     refine⟨fun i hi=>?_,?_⟩
     ·show [V.int .i64 (newP x.l k i)]=[.int .i64 (newP x.l (k+1) i)]
      rw[newP_succ,if_neg (fun hh=>hc hh.1)]
     ·exact xc0
   ·obtain rfl:k=x.l.length:=by omega
    refine⟨_,_,⟨rfl,rfl⟩,some [some 2],?_⟩
    exact xc0
theorem Newest34 (x:Cache) (hl:x.l.length≤1000000):a0g Tryz.prog 37 false [x.v] (·=.tup (if x.chk=0 then [.sl 1 x.n.toNat (fun b=>[.int .i64 (newP x.l x.l.length b)]),.int .i64 0] else [.lit (.slice none 0 0),.int .i64 x.chk])):=by
 refine a0a Tryz.E_ok Tryz.func37 rfl (by kernel_rfl) ?_
 refine x1 ?_;(repeat' ((first|(refine a0b (check36 x hl) rfl ?_;rintro _ rfl)|(refine a0d (check36 x hl) rfl ?_)|(refine a0h (fun _=>check36 x hl) rfl ?_));refine x3 (fun hc=>?_) (fun hc=>?_)));(all_goals(try(refine⟨_,rfl,?_⟩;refine x1 ?_)))
 ·rw[if_neg hc]
  exact xc0
 ·have hx:=Cache.chk_ok (a0O.1 hc)
  rw[if_pos (a0O.1 hc)]
  refine a2l (newest63 x hx) rfl ?_
  rintro _ _ ⟨rfl,rfl⟩
  refine x1 ?_
  refine⟨_,rfl,?_⟩
  exact xc0
end Go.Proofs.Ca
namespace Go.Proofs.Ca
open Go Go.Sx
set_option maxRecDepth 100000
set_option maxHeartbeats 40000000
theorem IsImage33 (x:Cache) (hx:x.l.length≤1000000) (l:List Int) (hl:l.length≤1000000):a0g Tryz.prog 38 false [x.v,.sl 1 l.length (a0e intC 0 l)] (·=.prop (IsImg x l) (Classical.propDecidable _)):=by
 refine a0a Tryz.E_ok Tryz.func38 rfl (by kernel_rfl) ?_
 refine x1 ?_
 refine⟨Nat,fun i=>i≤l.length∧(i:Int)≤max x.n 0∧∀b,b<i→okAt x b (l.getD b 0),fun i=>l.length-i,fun i=>[(5,.int .i64 (i:Nat))],fun _=>[],fun _=>[],0,⟨⟨by omega,by omega,fun b hb=>by omega⟩,some [some 0],?_⟩,?_⟩
 ·exact xc0
 ·rintro i ⟨h1,h1',h2⟩
  have hti:(i:Int).toNat=i:=a0E i
  have hbad:i<l.length→¬okAt x i (l.getD i 0)→¬IsImg x l:=fun hi h g=>h (g.2 i hi)
  (repeat' ((conv=>whnf);first|(with_reducible first|apply spl|apply spl'|refine iJ ?_)<;>intro hc<;>try(exfalso;omega)|refine vcq ?_|fail));all_goals((try conv=>whnf);try exact trivial);(repeat' ((first|(refine a0b (within47 _ _ _) rfl ?_;rintro _ rfl)|(refine a0d (within47 _ _ _) rfl ?_)|(refine a0h (fun _=>within47 _ _ _) rfl ?_)|(refine a0b (puts35 _) rfl ?_;rintro _ rfl)|(refine a0d (puts35 _) rfl ?_)|(refine a0h (fun _=>puts35 _) rfl ?_));refine x3 (fun hc=>?_) (fun hc=>?_)))
  ·have hi:i<l.length:=by omega
   rw[hti] at *
   refine⟨_,rfl,?_⟩
   refine x1 ?_
   refine⟨hbad hi (fun g=>?_),trivial⟩
   unfold okAt at g
   omega
  ·have hi:i<l.length:=by omega
   rw[hti] at *
   refine⟨i+1,⟨⟨by omega,by omega,fun b hb=>?_⟩,by dsimp only;omega⟩,some [some 0],?_⟩
   ·rcases a0I (show b≤i by omega) with g|rfl
    ·exact h2 b g
    ·unfold okAt
     omega
   ·exact xc0
  ·have hi:i<l.length:=by omega
   rw[hti] at *
   refine⟨_,rfl,?_⟩
   refine x1 ?_
   refine⟨hbad hi (fun g=>?_),trivial⟩
   unfold okAt at g
   omega
  ·have hi:i<l.length:=by omega
   rw[hti] at *
   refine⟨i+1,⟨⟨by omega,by omega,fun b hb=>?_⟩,by dsimp only;omega⟩,some [some 0],?_⟩
   ·rcases a0I (show b≤i by omega) with g|rfl
    ·exact h2 b g
    ·unfold okAt
     omega
   ·exact xc0
  ·refine⟨_,rfl,?_⟩
   refine x1 ?_
   refine⟨⟨fun g=>⟨g,fun b hb=>h2 b (by omega)⟩,fun g=>g.1⟩,trivial⟩
end Go.Proofs.Ca
namespace Go.Proofs
open Go Go.Sx
set_option maxRecDepth 100000
set_option maxHeartbeats 4000000
open Ca (Wt)
def Sv.ov (s:Sv):V:=.iptr [.int .i64 s.x.n,.sl 2 s.x.l.length (a0e Ca.oC (0,0) s.x.l),.int .i64 s.d.H,.int .i64 s.d.T,.sl 2 s.d.Z.length (a0e zC (0,0) s.d.Z),.int .i64 s.d.hk,.int .i64 s.d.ck,.int .i64 s.d.hs.1,.int .i64 s.d.hs.2,.int .i64 s.d.cs.1,.int .i64 s.d.cs.2,.sl 2 s.sk.length (a0e zC (0,0) s.sk),.int .i64 s.cyl,.sl 1 s.sec.length (a0e seC 0 s.sec),.sl 3 s.W.length (a0e wtC wt0 s.W),.sl 1 s.n (mdC s.st.M)]
open Classical in
noncomputable def Sv.err (s:Sv):Int:=if s.d.Ok then if s.x.Ok then if s.SOk then if s.W.length≤6 then 0 else 2 else 150 else s.x.chk else 10
theorem open45 (s:Sv) (hz:s.d.Z.length≤1000000) (hl:s.x.l.length≤1000000) (hsk:s.sk.length≤1000000) (hsec:s.sec.length≤1000000):a0g Tryz.prog 45 true [.agg s.c] (fun v=>(s.err=0∧v=.tup [s.ov,.int .i64 0])∨s.err≠0∧v=.tup [.lit (.pointer none),.int .i64 s.err]):=by
 have hck:=Check63 s.d hz
 have hcx:=Ca.check36 s.x hl
 unfold Ca.Cache.v at hcx
 refine a0a Tryz.E_ok Tryz.func45 rfl (by kernel_rfl) ?_
 unfold Sv.c
 refine x35 ?_
 refine a0b hck rfl ?_
 rintro _ rfl
 refine x55 (fun hc=>?_) (fun hc=>?_)
 ·have hd:¬s.d.Ok:=fun h=>hc (Dk.chk_of h)
  have he:s.err=10:=by unfold Sv.err;rw[if_neg hd]
  have e:s.d.chk=10:=by unfold Dk.chk;rw[if_neg hd]
  rw[e]
  refine⟨_,.inr ⟨by rw[he];decide,rfl⟩,?_⟩
  rw[he]
  exact xc23
 ·have hd:s.d.Ok:=Dk.chk_ok (a0O.1 hc)
  refine a0b hcx rfl ?_
  rintro _ rfl
  refine x55 (fun hc=>?_) (fun hc=>?_)
  ·rename_i hc2
   have hx:¬s.x.Ok:=fun h=>hc (by unfold Ca.Cache.chk;rw[if_pos h])
   have he:s.err=s.x.chk:=by unfold Sv.err;rw[if_pos hd,if_neg hx]
   refine⟨_,.inr ⟨by rw[he];exact hc,rfl⟩,?_⟩
   rw[he]
   exact xc23
  ·have hx:s.x.Ok:=by
    have h:=a0O.1 hc
    unfold Ca.Cache.chk at h
    split at h
    ·assumption
    ·exact absurd h (by decide)
   have his:=isServing84 s hd hx hsk hsec
   unfold Sv.c at his
   refine a0b his rfl ?_
   rintro _ rfl
   refine x55 (fun hc=>?_) (fun hc=>?_)
   ·have he:s.err=150:=by unfold Sv.err;rw[if_pos hd,if_pos hx,if_neg hc]
    refine⟨_,.inr ⟨by rw[he];decide,rfl⟩,?_⟩
    rw[he]
    exact xc23
   ·have hso:s.SOk:=a0O.1 hc
    have hsm:=Sv.at_small hx (a0K _)
    have hni:=Sv.nI hx
    rw[←hni]
    refine a0c [1] (rep85 s.n hsm.2.2.2.1) rfl ?_ ?_
    ·exact xc23
    ·rintro _ _ ⟨rfl,rfl⟩
     refine x35 ?_
     rw[hni]
     refine a0c [3,2] (wait86 s hx) rfl ?_ ?_
     ·unfold Sv.o0
      exact xc23
     ·rintro _ _ ⟨rfl,nz,rfl⟩
      unfold Sv.o
      rcases nz with _|_
      ·refine x55 (fun hc=>?_) (fun hc=>?_)
       ·have he:s.err=2:=by unfold Sv.err;rw[if_pos hd,if_pos hx,if_pos hso,if_neg (by omega)]
        refine⟨_,.inr ⟨by rw[he];decide,rfl⟩,?_⟩
        rw[he]
        exact xc23
       ·have he:s.err=0:=by unfold Sv.err;rw[if_pos hd,if_pos hx,if_pos hso,if_pos (by omega)]
        refine⟨_,.inl ⟨he,rfl⟩,?_⟩
        unfold Sv.ov
        exact xc23
      ·refine x55 (fun hc=>?_) (fun hc=>?_)
       ·have he:s.err=2:=by unfold Sv.err;rw[if_pos hd,if_pos hx,if_pos hso,if_neg (by omega)]
        refine⟨_,.inr ⟨by rw[he];decide,rfl⟩,?_⟩
        rw[he]
        exact xc23
       ·have he:s.err=0:=by unfold Sv.err;rw[if_pos hd,if_pos hx,if_pos hso,if_pos (by omega)]
        refine⟨_,.inl ⟨he,rfl⟩,?_⟩
        unfold Sv.ov
        exact xc23
theorem entriesS (s:Sv) (hz:s.d.Z.length≤1000000) (hl:s.x.l.length≤1000000) (hsk:s.sk.length≤1000000) (hsec:s.sec.length≤1000000):a0g Tryz.prog 24 true [.agg s.c] (fun v=>(s.err=0∧v=.tup [.sl 3 s.W.length (a0e wtC wt0 s.W),.int .i64 0])∨s.err≠0∧v=.tup [.lit (.slice none 0 0),.int .i64 s.err]):=by
 have ho:=open45 s hz hl hsk hsec
 unfold Sv.c at ho ⊢
 refine a0a Tryz.E_ok Tryz.func24 rfl (by kernel_rfl) ?_
 refine x1 ?_
 refine a0b ho rfl ?_
 rintro _ (⟨he,rfl⟩|⟨he,rfl⟩)
 ·unfold Sv.ov
  refine x1 (fun hc=>?_)
  refine⟨_,.inl ⟨he,rfl⟩,?_⟩
  exact xc0
 ·refine x1 (fun hc=>?_)
  refine⟨_,.inr ⟨he,rfl⟩,?_⟩
  exact xc0
end Go.Proofs
namespace Go.Proofs
open Go Go.Sx
set_option maxRecDepth 100000
set_option maxHeartbeats 40000000
end Go.Proofs
