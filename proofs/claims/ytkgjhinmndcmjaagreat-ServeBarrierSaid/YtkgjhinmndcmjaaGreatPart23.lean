/- Own work: texts of the proof of a law (Wp8). No condition. -/
import Derived.Test.YtkgjhinmndcmjaaGreatPart22
import Derived.Test.YtkgjhinmndcmjaaGreatPart0
import Derived.Test.YtkgjhinmndcmjaaGreatPart11
set_option linter.unusedVariables false
set_option linter.unusedSimpArgs false
namespace Go.Proofs.Ca
open Go Go.Sx
set_option maxRecDepth 100000
set_option maxHeartbeats 40000000
theorem add77 (i:Img) (L:List Img) (hL:L.length≤100000000000) (dom:List Int→Prop) (c:List Int→Int) (cc:Nat) (hcc:cc≤100000000000) (h4:∀k,dom k→1≤c k∧c k≤cc) (m:Nat) (g:MG) :
  Sx.Callee Tryz.prog 156 [.agg (imC i),.ptr 0 0,.ptr 1 0] [.cells 214 [.map 2],.cells 176 [.osl 3 L.length],.map K6 true false dom (fun k=>[.int .i64 (c k)]) m g,.row 142 9 L.length (a0e imC Img.none L) true]
  (fun v H=>∃m' g',v=.tup []∧H=[.cells 214 [.map 2],.cells 176 [.osl 4 (addI L dom i).length],.map K6 true false (a1l dom (keyH i.h)) (fun k=>[.int .i64 (cntUp dom c (keyH i.h) k)]) m' g',.gone,.row 142 9 (addI L dom i).length (a0e imC Img.none (addI L dom i)) true]):=by
 have hq:∀key,inR .i64 (cntV dom c key+1):=fun key=>by
  unfold cntV
  split
  ·rename_i h;have:=h4 key h;show(-9223372036854775808:Int)≤_∧_≤(9223372036854775807:Int);omega
  ·show(-9223372036854775808:Int)≤_∧_≤(9223372036854775807:Int);omega
 have hlk:=cntV_again dom c
 refine a0k Tryz.E_ok Tryz.func156 rfl (by kernel_rfl) ?_
 refine x35 ?_
 (repeat' ((first|(refine And.intro (hq _) ?_)|(refine And.intro (hlk _) ?_)|(refine And.intro ⟨rfl,.inl rfl,rfl⟩ ?_));refine x35 ?_))
 intro g1
 refine x35 ?_
 (repeat' ((first|(refine And.intro (hq _) ?_)|(refine And.intro (hlk _) ?_)|(refine And.intro ⟨rfl,.inl rfl,rfl⟩ ?_));(repeat' ((conv=>whnf);first|(with_reducible first|apply spl|apply spl'|refine iJ ?_)<;>intro hc<;>try(exfalso;omega)|refine vcq ?_|refine dr 2005 ?_));all_goals((try conv=>whnf);try exact trivial)))
 ·have hno:¬dom (keyH i.h):=(cnt_new (fun k h=>(h4 k h).1)).1 hc
  clear hc
  have e:addI L dom i=L++[i]:=if_neg hno
  rw[e]
  refine⟨_,_,⟨nPut dom m (keyH i.h),g1,rfl,rfl⟩,some [some 0,some 1,some 2,some 3,some 6],?_⟩
  refine x35 ?_
  refine⟨by simp,?_⟩
  refine x35 ?_
  refine⟨a0s (fun key _=>⟨a2W,fun h=>cntUp_eq dom c _ key h⟩),?_⟩
  refine x35 ?_
  refine⟨by simp,a1q (c:=imC) (a:=i) (l:=L) rfl (fun _ _=>rfl),?_⟩
  exact xc23
 ·have hyes:dom (keyH i.h):=a0Q fun h=>hc ((cnt_new (fun k h=>(h4 k h).1)).2 h)
  clear hc
  have e:addI L dom i=L:=if_pos hyes
  rw[e]
  refine⟨_,_,⟨nPut dom m (keyH i.h),g1,rfl,rfl⟩,some [some 0,some 1,some 2,some 3,some 3],?_⟩
  refine x35 ?_
  refine⟨a0s (fun key _=>⟨a2W,fun h=>cntUp_eq dom c _ key h⟩),?_⟩
  exact xc23
theorem add77' (i:Img) (L:List Img) (hL:L.length≤100000000000) (dom:List Int→Prop) (c:List Int→Int) (cc:Nat) (hcc:cc≤100000000000) (h4:∀k,dom k→1≤c k∧c k≤cc) (m:Nat) (g:MG) :
  Sx.Callee Tryz.prog 156 [.agg (imC i),.ptr 0 0,.ptr 1 0] [.cells 214 [.map 2],.cells 176 [.osl 3 L.length],.map K6 true false dom (fun k=>[.int .i64 (c k)]) m g,.row 142 9 L.length (a0e imC Img.none L) true]
  (fun v H=>∃(L':List Img) (dom':List Int→Prop) (c':List Int→Int) (m':Nat) (g':MG),(L'=addI L dom i∧dom'=a1l dom (keyH i.h)∧∀k,dom' k→1≤c' k∧c' k≤(cc+1:Nat))∧v=.tup []∧
   H=[.cells 214 [.map 2],.cells 176 [.osl 4 L'.length],.map K6 true false dom' (fun k=>[.int .i64 (c' k)]) m' g',.gone,.row 142 9 L'.length (a0e imC Img.none L') true]):=by
 refine Callee.mono (add77 i L hL dom c cc hcc h4 m g) ?_
 rintro _ _ ⟨m',g',rfl,rfl⟩
 exact⟨_,_,_,m',g',⟨rfl,rfl,cntUp_le h4⟩,rfl,rfl⟩
theorem own_fit (η:Eta) (ty:TypeId) (sz n:Nat) (f f':Nat→List V) (nz:Bool):own η [.row ty sz n f nz]=own η [.row ty sz n f' nz]:=by
 have key:∀(f f':Nat→List V) (b:Nat),(∃(id:Nat) (e:Option Nat×Nat) (o:O),η[id]? = some e∧[O.row ty sz n f nz][id]? = some o∧o.has e b)→(∃(id:Nat) (e:Option Nat×Nat) (o:O),η[id]? = some e∧[O.row ty sz n f' nz][id]? = some o∧o.has e b):=by
  rintro f f' b ⟨id,e,o,h1,h2,h3⟩
  match id,h2 with
  |0,h2=>
   cases h2
   exact⟨0,e,_,h1,rfl,h3.elim (fun g=>.inl ⟨trivial,g.2⟩) (fun g=>g.elim)⟩
 unfold own
 congr 1
 funext b
 exact propext ⟨key f f' b,key f' f b⟩
theorem sat_fit {I:Nat→Prop} {η:Eta} {w:World} {ty:TypeId} {sz n:Nat} {f f':Nat→List V} {nz:Bool} (h:Sat I η w [.row ty sz n f nz])
  (hf:∀i,i<n→∀(I:Nat→Prop) (w:World) (vs:List Value),DenL I [] w (f i) vs→DenL I [] w (f' i) vs):Sat I η w [.row ty sz n f' nz]:=by
 have ho:=own_fit η ty sz n f' f nz
 refine⟨by simpa using h.len,fun id e o h1 h2=>?_,fun id id' b e e' o o' _ _ h3 h4 _ _=>?_,fun b hb=>h.notI b (ho▸hb),fun b hb=>h.lt b (ho▸hb),h.ilt⟩
 ·match id,h2 with
  |0,h2=>
   cases h2
   obtain⟨xs,g1,g2,g3,g4⟩:=h.obj 0 e _ h1 rfl
   exact⟨xs,g1,g2,g3,fun i hi=>hf i hi _ _ _ (g4 i hi)⟩
 ·have q1:=(a0B.1 h3).1
  have q2:=(a0B.1 h4).1
  simp at q1 q2
  omega
theorem Callee.fit {P:Program} {g:FuncId} {args:List V} {ty:TypeId} {sz n:Nat} {f f':Nat→List V} {nz:Bool} {R:V→List O→Prop} (h:Sx.Callee P g args [.row ty sz n f' nz] R)
  (hf:∀i,i<n→∀(I:Nat→Prop) (w:World) (vs:List Value),DenL I [] w (f i) vs→DenL I [] w (f' i) vs):Sx.Callee P g args [.row ty sz n f nz] R:=by
 unfold Sx.Callee at h ⊢
 refine⟨h.1,fun I η w vals hS hd=>?_⟩
 have:=h.2 I η w vals (sat_fit hS hf) hd
 rw[own_fit η ty sz n f f' nz]
 exact this
noncomputable def images56A (x:Cache) (hx:x.Ok) (hgood:∀k s D,Rch x k s D→(⟨s,D⟩:Trip).Good x k)
  (hcap:∀k,∀l:List Trip,(∀t∈l,t.Good x k)→(l.map Trip.sh).Nodup→l.length≤4294967296) :
  {G:List Trip→(Nat→List V)→Prop // (∀l f,Entry x x.l.length l→FitT f l→l.length≤4294967296→G l f)→a0g Tryz.prog 116 true [x.v] (fun r=>∃L:List Img,Imgs x L∧r=.sl 9 L.length (a0e imC Img.none L))}:=by
 constructor
 case property=>
  intro hG
  have hn6:=hx.n
  have hl16:=hx.len
  refine a0a Tryz.E_ok Tryz.func116 rfl (by kernel_rfl) ?_
  refine x6 ?_
  refine a2l begin42 rfl ?_
  rintro _ _ ⟨rfl,rfl⟩
  refine x6 ?_
  refine⟨Nat×List Trip×(Nat→List V),fun q=>q.1≤x.l.length∧Entry x q.1 q.2.1∧FitT q.2.2 q.2.1,fun q=>x.l.length-q.1,fun q=>[(24,.int .i64 (q.1:Nat)),(3,.osl 4 q.2.1.length)],
   fun q=>[(3,.gone)],fun q=>[.row 138 2 q.2.1.length q.2.2 false],(0,[⟨PS.begin,[]⟩],fun _=>[stI PS.begin,.lit (.slice none 0 0)]),⟨⟨by dsimp only;omega,?_,?_⟩,some [some 0,some 1,some 2,some 3,some 3],?_⟩,?_⟩
  ·refine⟨fun t ht=>?_,by simp,by simp,fun l' hc=>cover_of hc ?_⟩
   ·rw[a1B.1 ht];exact hgood 0 _ _ .begin
   ·rintro s D hr (⟨_,rfl⟩|⟨k',s',D',h0,_⟩)
    ·exact⟨⟨PS.begin,[]⟩,by simp,rfl,rfl⟩
    ·omega
  ·exact FitT.begin
  ·exact xc45
  ·rintro⟨k,l,f⟩ ⟨hk,hent,hfit⟩
   dsimp only at hk hent hfit
   have hlc:=hcap k l hent.good hent.nd
   refine x54 (fun hc=>?_) (fun hc=>?_)
   ·have hk1:k<x.l.length:=by dsimp only at hc;omega
    refine a0c [4] (Callee.fit (drained74 x hx k (by omega) (hgood k) (hcap k) l hent.ne hent.good hent.nd) hfit) rfl ?_ ?_
    ·exact xc45
    ·rintro _ _ ⟨l',hcl,rfl,rfl⟩
     have hlc':=hcap k l' hcl.good hcl.nd
     have hcov:=hent.all l' hcl
     have hpos:0<l'.length:=a1M hent.ne hcl.pre.length_le
     refine x6 ?_
     intro g0
     refine x6 ?_
     refine⟨Nat×List Trip×(List Int→Prop)×(List Int→Int)×Nat×MG,fun q=>q.1≤l'.length∧NextOk x k l' q.2.1 q.1∧(∀k,q.2.2.1 k↔∃t∈q.2.1,t.sh=k)∧∀k,q.2.2.1 k→1≤q.2.2.2.1 k∧q.2.2.2.1 k≤q.1,fun q=>l'.length-q.1,fun q=>[(37,.int .i64 (q.1:Nat)),(7,.osl 8 q.2.1.length)],
      fun q=>[(7,.map K109 true false q.2.2.1 (fun k=>[.int .i64 (q.2.2.2.1 k)]) q.2.2.2.2.1 q.2.2.2.2.2)],fun q=>[.row 138 2 q.2.1.length (a0e trC Trip.none q.2.1) true],(0,[],(fun _=>False),(fun _=>0),0,g0),⟨⟨by dsimp only;omega,NextOk.start,by simp,by simp⟩,some [some 0,some 1,some 2,some 3,some 4,some 5,some 6,some 7,none],?_⟩,?_⟩
     ·refine x25 ?_
      refine⟨a0s (fun k _=>⟨a2W,fun h=>h.elim⟩),?_⟩
      exact xc45
     ·rintro⟨i,nx,dom,c,m,g⟩ ⟨h1,h2,h3,h4⟩
      dsimp only at h1 h2 h3 h4
      have hlcn:=hcap (k+1) nx h2.good h2.nd
      have hq:∀key,inR .i64 (cntV dom c key+1):=fun key=>by
       unfold cntV
       split
       ·rename_i h;have:=h4 key h;show(-9223372036854775808:Int)≤_∧_≤(9223372036854775807:Int);omega
       ·show(-9223372036854775808:Int)≤_∧_≤(9223372036854775807:Int);omega
      have hlk:=cntV_again dom c
      refine x54 (fun hc=>?_) (fun hc=>?_)
      ·have hi:i<l'.length:=by dsimp only at hc;omega
       have htm:l'.getD i Trip.none∈l':=by simp[a0A,hi]
       have htg:=hcl.good _ htm
       refine a2l (clone75 (l'.getD i Trip.none).s htg.sm) rfl ?_
       rintro _ _ ⟨rfl,rfl⟩
       refine x6 ?_
       refine a0c [10,11] (order43 (l'.getD i Trip.none).s htg.sm (by have:=htg.len;omega) (by have:=htg.W;omega) k (x.l.getD k (0,0)) (hx.blk hk1)) rfl ?_ ?_
       ·exact xc45
       ·rintro _ _ ⟨rfl,rfl⟩
        refine x6 ?_
        have hnew:(⟨(l'.getD i Trip.none).s.order k (x.l.getD k (0,0)),(l'.getD i Trip.none).D⟩:Trip).Good x (k+1):=hgood _ _ _ (Rch.order htg.r hk1)
        refine a0u (shape76f ((l'.getD i Trip.none).s.order k (x.l.getD k (0,0))) hnew.sm.len) ?_
        refine x25 ?_
        rintro _ rfl
        have hsh:(⟨(l'.getD i Trip.none).s.order k (x.l.getD k (0,0)),(l'.getD i Trip.none).D⟩:Trip).sh=shF (shf ((l'.getD i Trip.none).s.order k (x.l.getD k (0,0)))):=rfl
        have hsd:shF (shf ((l'.getD i Trip.none).s.order k (x.l.getD k (0,0))))=shS ((l'.getD i Trip.none).s.order k (x.l.getD k (0,0))):=rfl
        generalize shf ((l'.getD i Trip.none).s.order k (x.l.getD k (0,0)))=f at hsh hsd ⊢
        refine x6 ?_
        (repeat' ((first|(refine And.intro (hq _) ?_)|(refine And.intro (hlk _) ?_)|(refine And.intro ⟨rfl,.inl rfl,rfl⟩ ?_));refine x6 ?_))
        intro g1
        refine x6 ?_
        (repeat' ((first|(refine And.intro (hq _) ?_)|(refine And.intro (hlk _) ?_)|(refine And.intro ⟨rfl,.inl rfl,rfl⟩ ?_));(repeat' ((conv=>whnf);first|(with_reducible first|apply spl|apply spl'|refine iJ ?_)<;>intro hc<;>try(exfalso;omega)|refine vcq ?_|refine dr 2004 ?_|refine dr 10 ?_));all_goals((try conv=>whnf);try exact trivial)))
        ·have hno:¬dom (shF f):=(cnt_new (fun k h=>(h4 k h).1)).1 hc
         clear hc
         refine⟨(i+1,nx++[⟨(l'.getD i Trip.none).s.order k (x.l.getD k (0,0)),(l'.getD i Trip.none).D⟩],a1l dom (shF f),cntUp dom c (shF f),nPut dom m (shF f),g1),⟨⟨by dsimp only;omega,h2.add hnew (hsh.trans hsd) (fun h=>hno ((h3 _).2 (hsh▸h))),(hsh▸dom_snoc h3 _),cntUp_le h4⟩,by dsimp only;omega⟩,some [some 0,some 1,some 2,some 3,some 4,some 5,some 6,some 7,some 15],?_⟩
         refine x25 ?_
         refine⟨by simp,?_⟩
         refine x25 ?_
         refine⟨a0s (fun key _=>⟨a2W,fun h=>cntUp_eq dom c _ key h⟩),?_⟩
         refine x25 ?_
         refine⟨by simp,a1q (c:=trC) (a:=(⟨(l'.getD i Trip.none).s.order k (x.l.getD k (0,0)),(l'.getD i Trip.none).D⟩:Trip)) (l:=nx) rfl (fun _ _=>rfl),?_⟩
         exact xc45
        ·have hyes:dom (shF f):=a0Q fun h=>hc ((cnt_new (fun k h=>(h4 k h).1)).2 h)
         clear hc
         refine⟨(i+1,nx,a1l dom (shF f),cntUp dom c (shF f),nPut dom m (shF f),g1),⟨⟨by dsimp only;omega,h2.old (hsd▸(h3 _).1 hyes),dom_same h3 hyes,cntUp_le h4⟩,by dsimp only;omega⟩,some [some 0,some 1,some 2,some 3,some 4,some 5,some 6,some 7,some 8],?_⟩
         refine x25 ?_
         refine⟨a0s (fun key _=>⟨a2W,fun h=>cntUp_eq dom c _ key h⟩),?_⟩
         exact xc45
      ·have hil:i=l'.length:=by dsimp only at hc;omega
       subst hil
       have hen:=h2.entry hk1 hpos hcov
       have hne:=hen.ne
       refine⟨(k+1,nx,a0e trC Trip.none nx),⟨⟨by dsimp only;omega,hen,FitT.own nx⟩,by dsimp only;omega⟩,some [some 0,some 1,some 2,some 3,some 8],?_⟩
       exact xc45
   ·obtain rfl:k=x.l.length:=by dsimp only at hc;omega
    exact hG l f hent hfit hlc
theorem images56 (x:Cache) (hx:x.Ok) (hx3:x.n≤6) (hgood:∀k s D,Rch x k s D→(⟨s,D⟩:Trip).Good x k)
  (hcap:∀k,∀l:List Trip,(∀t∈l,t.Good x k)→(l.map Trip.sh).Nodup→l.length≤4294967296):a0g Tryz.prog 116 true [x.v] (fun r=>∃L:List Img,Imgs x L∧r=.sl 9 L.length (a0e imC Img.none L)):=by
 have hn6:=hx.n
 have hl16:=hx.len
 refine(images56A x hx hgood hcap).2 fun l f hent hfit hlc=>?_
 refine a0c [4] (Callee.fit (drained74 x hx x.l.length (by omega) (hgood _) (hcap _) l hent.ne hent.good hent.nd) hfit) rfl ?_ ?_
 ·exact xc33
 ·rintro _ _ ⟨l',hcl,rfl,rfl⟩
  have hlc':=hcap _ l' hcl.good hcl.nd
  have hcov:=hent.all l' hcl
  refine x6 ?_
  intro g0
  refine x6 ?_
  refine⟨Nat×List Img×(List Int→Prop)×(List Int→Int)×Nat×MG,fun q=>q.1≤l'.length∧ImgsOk x q.2.1 q.2.2.1∧Done x l' q.2.1 q.1∧q.2.1.length≤7*q.1∧∀k,q.2.2.1 k→1≤q.2.2.2.1 k∧q.2.2.2.1 k≤(7*q.1:Nat),fun q=>l'.length-q.1,fun q=>[(81,.int .i64 (q.1:Nat))]++anyW 3 8++anyW 14 65,
   fun q=>[(6,.map K6 true false q.2.2.1 (fun k=>[.int .i64 (q.2.2.2.1 k)]) q.2.2.2.2.1 q.2.2.2.2.2),(8,.cells 176 [.osl 9 q.2.1.length])],fun q=>[.row 142 9 q.2.1.length (a0e imC Img.none q.2.1) true],(0,[],(fun _=>False),(fun _=>0),0,g0),⟨⟨by dsimp only;omega,ImgsOk.nil x,Done.zero x l',by simp,by simp⟩,some [some 0,some 1,some 2,some 3,some 4,some 5,some 6,some 7,some 8,none],?_⟩,?_⟩
  ·refine x6 ?_
   refine⟨a0s (fun k _=>⟨a2W,fun h=>h.elim⟩),?_⟩
   exact xc33
  ·rintro⟨i,L,dom,c,m,g⟩ ⟨h1,h2,h3,h4,h5⟩
   dsimp only at h1 h2 h3 h4 h5
   refine x54 (fun hc=>?_) (fun hc=>?_)
   ·have hi:i<l'.length:=by dsimp only at hc;omega
    have htm:l'.getD i Trip.none∈l':=by simp[a0A,hi]
    have htg:=hcl.good _ htm
    refine a0c [7,8,6,9] (add77' ⟨l'.getD i Trip.none,(l'.getD i Trip.none).s.M,false⟩ L (by omega) dom c (7*i) (by omega) h5 m g) rfl ?_ ?_
    ·refine x6 ?_
     refine⟨by simp,?_⟩
     refine x6 ?_
     refine⟨a0s (fun k _=>⟨a2W,fun _=>rfl⟩),?_⟩
     exact xc33
    ·rintro _ _ ⟨L1,dom1,c1,m1,g1,⟨e1,e2,e3⟩,rfl,rfl⟩
     have hA:=h2.add (im:=⟨l'.getD i Trip.none,(l'.getD i Trip.none).s.M,false⟩) (.inl ⟨rfl,htg.r,rfl⟩)
     rw[←e1,←e2] at hA
     obtain⟨hA1,hA2,hA3,hA4⟩:=hA
     have hb0:HasI x L1 (l'.getD i Trip.none).s 0:=⟨hA3,fun b' hb'=>by omega⟩
     have hdn:=h3.sub hA2
     clear e1 e2
     refine x6 ?_
     refine⟨Nat×List Img×(List Int→Prop)×(List Int→Int)×Nat×MG,fun q=>(q.1:Int)≤x.n∧ImgsOk x q.2.1 q.2.2.1∧Done x l' q.2.1 i∧HasI x q.2.1 (l'.getD i Trip.none).s q.1∧q.2.1.length≤7*i+1+q.1∧∀k,q.2.2.1 k→1≤q.2.2.2.1 k∧q.2.2.2.1 k≤(7*i+1+q.1:Nat),fun q=>x.n.toNat-q.1,fun q=>[(96,.int .i64 (q.1:Nat))]++anyW 82 12++anyW 97 26,
      fun q=>[(6,.map K6 true false q.2.2.1 (fun k=>[.int .i64 (q.2.2.2.1 k)]) q.2.2.2.2.1 q.2.2.2.2.2),(8,.cells 176 [.osl 12 q.2.1.length]),(11,.gone)],fun q=>[.row 142 9 q.2.1.length (a0e imC Img.none q.2.1) true],(0,L1,dom1,c1,m1,g1),⟨⟨by dsimp only;omega,hA1,hdn,hb0,by dsimp only at hA4 ⊢;omega,e3⟩,some [some 0,some 1,some 2,some 3,some 4,some 5,some 6,some 7,some 8,some 9,some 10,some 11,some 11],?_⟩,?_⟩
     ·refine x6 ?_
      refine⟨a0s (fun k _=>⟨a2W,fun _=>rfl⟩),?_⟩
      exact xc33
     ·clear hA1 hA2 hA3 hA4 hb0 hdn e3 h2 h3 h4 h5 hc
      rintro⟨b,L2,dom,c,m,g⟩ ⟨hb,h2,h3,hI,h4,h5⟩
      dsimp only at hb h2 h3 hI h4 h5
      refine x54 (fun hc=>?_) (fun hc=>?_)
      ·have hbn:(b:Int)<x.n:=hc
       have hb6:b<6:=by omega
       have hcb:=can52 (l'.getD i Trip.none).s htg.sm.len b hb6
       have hwb:=fun hcan:(l'.getD i Trip.none).s.can b=>with78 (l'.getD i Trip.none) htg.sm (by have:=htg.D;omega) (by have:=htg.W;omega) x.l.length b hb6 hcan.1
       have hab:=fun hcan:(l'.getD i Trip.none).s.can b=>h2.add (im:=⟨(l'.getD i Trip.none).with ((x.l.length:Int),(b:Int)),(l'.getD i Trip.none).s.M.set b (-2),true⟩) (.inr ⟨rfl,_,_,b,htg.r,hbn,hcan,rfl,rfl⟩)
       have hcall:=add77' ⟨(l'.getD i Trip.none).with ((x.l.length:Int),(b:Int)),(l'.getD i Trip.none).s.M.set b (-2),true⟩ L2 (by omega) dom c (7*i+1+b) (by omega) h5 m g
       have hskip:¬(l'.getD i Trip.none).s.can b→HasI x L2 (l'.getD i Trip.none).s (b+1):=hI.skip
       have hadd:∀L3,(∀y∈L2,y∈L3)→(∃y∈L3,y.h=(l'.getD i Trip.none).s.M.set b (-2))→HasI x L3 (l'.getD i Trip.none).s (b+1):=fun L3 h6 h7=>(hI.sub h6).add h7
       clear hI
       obtain⟨b1,hb1⟩:∃b1,b1=b+1:=⟨_,rfl⟩
       rw[←hb1] at hskip hadd
       have hb3:b=0∨b=1∨b=2∨b=3∨b=4∨b=5:=by omega
       rcases hb3 with rfl|rfl|rfl|rfl|rfl|rfl
       all_goals
        refine a0b hcb rfl ?_
        rintro _ rfl
        refine x54 (fun hc=>?_) (fun hc=>?_)
        ·have hcan:=hc
         refine a0d (hwb hcan) rfl ?_
         refine x6 ?_
         refine a0c [7,8,6,12] hcall rfl ?_ ?_
         ·refine x6 ?_
          refine⟨by simp,?_⟩
          refine x6 ?_
          refine⟨a0s (fun k _=>⟨a2W,fun _=>rfl⟩),?_⟩
          exact xc33
         ·rintro _ _ ⟨L3,dom3,c3,m3,g3,⟨e1,e2,e3⟩,rfl,rfl⟩
          obtain⟨hA1,hA2,hA3,hA4⟩:=hab hcan
          rw[←e1] at hA1 hA2 hA3 hA4
          rw[←e2] at hA1
          clear e1 e2
          refine x6 ?_
          refine⟨(b1,L3,dom3,c3,m3,g3),⟨⟨by dsimp only;omega,hA1,h3.sub hA2,hadd L3 hA2 hA3,by dsimp only at hA4 ⊢;omega,fun k hk=>by have:=e3 k hk;dsimp only at this ⊢;omega⟩,by dsimp only;omega⟩,some [some 0,some 1,some 2,some 3,some 4,some 5,some 6,some 7,some 8,some 9,some 10,some 11,some 14],?_⟩
          refine x6 ?_
          refine⟨a0s (fun k _=>⟨a2W,fun _=>rfl⟩),?_⟩
          exact xc33
        ·refine⟨(b1,L2,dom,c,m,g),⟨⟨by dsimp only;omega,h2,h3,hskip hc,by dsimp only;omega,fun k hk=>by have:=h5 k hk;dsimp only at this ⊢;omega⟩,by dsimp only;omega⟩,some [some 0,some 1,some 2,some 3,some 4,some 5,some 6,some 7,some 8,some 9,some 10,some 11,some 12],?_⟩
         refine x6 ?_
         refine⟨a0s (fun k _=>⟨a2W,fun _=>rfl⟩),?_⟩
         exact xc33
      ·obtain rfl:b=x.n.toNat:=by dsimp only at hc;omega
       refine⟨(i+1,L2,dom,c,m,g),⟨⟨by dsimp only;omega,h2,h3.step (hI.full hx),by dsimp only;omega,fun k hk=>by have:=h5 k hk;dsimp only at this ⊢;omega⟩,by dsimp only;omega⟩,some [some 0,some 1,some 2,some 3,some 4,some 5,some 6,some 7,some 8,some 12],?_⟩
       refine x6 ?_
       refine⟨a0s (fun k _=>⟨a2W,fun _=>rfl⟩),?_⟩
       exact xc33
   ·obtain rfl:i=l'.length:=by dsimp only at hc;omega
    refine⟨_,⟨L,h2.imgs h3 hcov (by omega),rfl⟩,?_⟩
    exact xc33
end Go.Proofs.Ca
