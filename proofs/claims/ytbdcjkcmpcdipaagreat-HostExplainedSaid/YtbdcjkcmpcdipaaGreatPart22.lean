/- Own work: texts of the proof of a law (Gk1, Gs6, GwB, GwC, Gs7, GwD). No condition. -/
import Derived.Test.YtbdcjkcmpcdipaaGreatPart21
import Derived.Lib.Small
import Derived.Lib.Walk
import Derived.WalkKit
import Derived.Deep.LoopGhost
import Derived.Deep.Draws
import Derived.Shelf.RegionOpenPlain
import Derived.Test.YtbdcjkcmpcdipaaGreatProg
set_option linter.unusedVariables false
set_option linter.unusedSimpArgs false
namespace Go.Proofs
open Go.Shelf Go.RowKit Go.Lib
set_option maxRecDepth 100000
set_option maxHeartbeats 4000000
theorem Tryz.isNaN162 (x:Int) (w:World):Calls Tryz.prog 162 #[.int .i64 x] w fun e w'=>e=.returned (.bool false)∧w'=w:=by
 go_enter Tryz.func162,Tryz.ntmps162
 go_wp2
 go_ret
 exact⟨by simp,rfl⟩
theorem Tryz.compare122 (x y:Int) (w:World):Calls Tryz.prog 122 #[.int .i64 x,.int .i64 y] w fun e w'=>e=.returned (.int .i64 (if x<y then -1 else if y<x then 1 else 0))∧w'=w:=by
 go_enter Tryz.func122,Tryz.ntmps122
 go_wp2_with (go_at_call 162;refine(Tryz.isNaN162 _ _).mono ?_;rintro e w' ⟨rfl,hw⟩;rw[hw])
 all_goals(go_ret;refine⟨?_,rfl⟩;(repeat' split)<;>first|rfl|(exfalso;omega))
def lexC:List Int→List Int→Int
 |x :: xs,y :: ys=>if x<y then -1 else if y<x then 1 else lexC xs ys
 |_,_=>0
theorem lexC_at:∀(xs ys:List Int) (k:Nat),k<xs.length→k<ys.length→(∀j,j<k→xs[j]! = ys[j]!)→xs[k]!≠ys[k]!→lexC xs ys=if xs[k]!<ys[k]! then -1 else 1
 |[],_,k,h,_,_,_=>by simp at h
 |x :: xs,[],k,_,h,_,_=>by simp at h
 |x :: xs,y :: ys,0,_,_,_,hne=>by
  have hne:x≠y:=by simpa using hne
  simp only[lexC,List.getElem!_cons_zero]
  by_cases h1:x<y
  ·rw[if_pos h1,if_pos h1]
  ·rw[if_neg h1,if_neg h1,if_pos (by omega)]
 |x :: xs,y :: ys,k+1,h1,h2,h,hne=>by
  have h0:x=y:=by simpa using h 0 (by omega)
  have ih:=lexC_at xs ys k (by simpa using h1) (by simpa using h2) (fun j hj=>by simpa using h (j+1) (by omega)) (by simpa using hne)
  simp only[lexC]
  rw[if_neg (by omega),if_neg (by omega),ih]
  simp
theorem lexC_eq:∀(xs ys:List Int),xs.length=ys.length→(∀j,j<xs.length→xs[j]! = ys[j]!)→lexC xs ys=0
 |[],_,_,_=>by unfold lexC;rfl
 |x :: xs,[],_,_=>by unfold lexC;rfl
 |x :: xs,y :: ys,hl,h=>by
  have h0:x=y:=by simpa using h 0 (by simp)
  have ih:=lexC_eq xs ys (by simpa using hl) (fun j hj=>by simpa using h (j+1) (by simpa using hj))
  simp only[lexC]
  rw[if_neg (by omega),if_neg (by omega),ih]
theorem Tryz.compare91 (xs ys:List Int) (b1 o1 c1 b2 o2 c2:Nat) (w:World) (hl:ys.length=xs.length) (hbig:xs.length≤1000000)
  (h1:∀j,j<xs.length→w.cell? ⟨b1,o1+j,none⟩=some (.int .i64 xs[j]!)) (h2:∀j,j<xs.length→w.cell? ⟨b2,o2+j,none⟩=some (.int .i64 ys[j]!)) :
  Calls Tryz.prog 91 #[.slice (some ⟨b1,o1,none⟩) xs.length c1,.slice (some ⟨b2,o2,none⟩) xs.length c2] w fun e w'=>e=.returned (.int .i64 (lexC xs ys))∧w'=w:=by
 generalize hn:xs.length=n at h1 h2 hbig
 go_enter Tryz.func91,Tryz.ntmps91
 go_wp2
 go_loopg [11] n (fun g s11 wr=>∃k:Nat,k≤n∧n-k≤g∧s11=.int .i64 k∧wr=w∧Aside (∀j,j<k→xs[j]! = ys[j]!))
 case atStart=>exact⟨0,a2A _,by omega,rfl,rfl,fun j hj=>absurd hj (Nat.not_lt_zero _)⟩
 case round=>
  obtain⟨k,hk,hg,rfl,rfl,A⟩:=hrel
  by_cases hlt:k<n
  ·have g1:wr.cell? ⟨b1,o1+k,none⟩=some (.int .i64 xs[k]!):=h1 k (by omega)
   have g2:wr.cell? ⟨b2,o2+k,none⟩=some (.int .i64 ys[k]!):=h2 k (by omega)
   clear h1 h2
   generalize hxk:xs[k]! = x at g1
   generalize hyk:ys[k]! = y at g2
   have B:Aside (xs[k]! = x∧ys[k]! = y):=⟨hxk,hyk⟩
   clear hxk hyk
   have hcmp:∀(r:Int),(if x<y then -1 else if y<x then 1 else 0:Int)=r→∀W,Calls Tryz.prog 122 #[.int .i64 x,.int .i64 y] W fun e w'=>e=.returned (.int .i64 r)∧w'=W:=fun r hr W=>by
    rw[←hr]
    exact Tryz.compare122 x y W
   rcases Int.lt_trichotomy x y with hxy|hxy|hxy
   ·have hc:=hcmp (-1) (if_pos hxy)
    go_wp2_with (go_at_call 122;refine(hc _).mono ?_;rintro e w' ⟨rfl,hw⟩;rw[hw])
    go_ret
    refine⟨?_,rfl⟩
    rw[lexC_at xs ys k (by omega) (by omega) A.out (by rw[B.out.1,B.out.2];omega),B.out.1,B.out.2,if_pos hxy]
    rfl
   ·subst hxy
    have hc:∀W,Calls Tryz.prog 122 #[.int .i64 x,.int .i64 x] W fun e w'=>e=.returned (.int .i64 0)∧w'=W:=hcmp 0 (by rw[if_neg (by omega)];simp)
    clear hcmp
    go_wp2_with (go_at_call 122;refine(hc _).mono ?_;rintro e w' ⟨rfl,hw⟩;rw[hw])
    go_roundg (n-(k+1))
    case measure=>omega
    case rel=>
     refine⟨k+1,by omega,by omega,by go_num,rfl,(show Aside _ from fun j hj=>?_)⟩
     by_cases e:j=k
     ·subst e
      rw[B.out.1,B.out.2]
     ·exact A.out j (by omega)
   ·have hc:=hcmp 1 (by rw[if_neg (by omega),if_pos hxy])
    go_wp2_with (go_at_call 122;refine(hc _).mono ?_;rintro e w' ⟨rfl,hw⟩;rw[hw])
    go_ret
    refine⟨?_,rfl⟩
    rw[lexC_at xs ys k (by omega) (by omega) A.out (by rw[B.out.1,B.out.2];omega),B.out.1,B.out.2,if_neg (by omega)]
    rfl
  ·have:k=n:=by omega
   subst this
   clear h1 h2
   go_wp2
   go_ret
   refine⟨?_,rfl⟩
   rw[lexC_eq xs ys hl.symm (fun j hj=>A.out j (by omega))]
   rfl
theorem Tryz.cmp55 (xs ys:List Int) (b1 o1 c1 b2 o2 c2:Nat) (w:World) (hl:ys.length=xs.length) (hbig:xs.length≤1000000)
  (h1:∀j,j<xs.length→w.cell? ⟨b1,o1+j,none⟩=some (.int .i64 xs[j]!)) (h2:∀j,j<xs.length→w.cell? ⟨b2,o2+j,none⟩=some (.int .i64 ys[j]!)) :
  Calls Tryz.prog 90 #[.slice (some ⟨b1,o1,none⟩) xs.length c1,.slice (some ⟨b2,o2,none⟩) xs.length c2] w fun e w'=>e=.returned (.int .i64 (lexC xs ys))∧w'=w:=by
 have hcon:=Tryz.compare91 xs ys b1 o1 c1 b2 o2 c2 w hl hbig h1 h2
 clear h1 h2
 generalize xs.length=n at hcon ⊢
 go_enter Tryz.func90,Tryz.ntmps90
 go_wp2_with (go_at_call 91;refine hcon.mono ?_;rintro e w' ⟨rfl,hw⟩;rw[hw])
 go_ret
 exact⟨rfl,rfl⟩
end Go.Proofs
namespace Go.Proofs
open Go Go.Sx
set_option maxRecDepth 100000
set_option maxHeartbeats 4000000
namespace Ho
def a0r (c:C6) (k:Nat):List Int:=(List.range k).map c.get
theorem lexC_neg:∀xs ys:List Int,lexC ys xs=- lexC xs ys
 |[],[]=>rfl
 |[],_ :: _=>rfl
 |_ :: _,[]=>rfl
 |x :: xs,y :: ys=>by
  have:=lexC_neg xs ys
  simp only[lexC]
  repeat' split
  all_goals omega
theorem lexC_trans:∀xs ys zs:List Int,ys.length=xs.length→zs.length=xs.length→(lexC xs ys≤0→lexC ys zs≤0→lexC xs zs≤0)∧(lexC xs ys<0→lexC ys zs<0→lexC xs zs<0)
 |[],[],[],_,_=>⟨fun _ _=>by unfold lexC;omega,fun h=>by unfold lexC at h;omega⟩
 |[],[],_ :: _,_,h=>by simp at h
 |[],_ :: _,_,h,_=>by simp at h
 |_ :: _,[],_,h,_=>by simp at h
 |_ :: _,_ :: _,[],_,h=>by simp at h
 |x :: xs,y :: ys,z :: zs,h1,h2=>by
  obtain⟨a,b⟩:=lexC_trans xs ys zs (by simpa using h1) (by simpa using h2)
  simp only[lexC]
  refine⟨?_,?_⟩
  all_goals(repeat' split)
  all_goals(intro p q)
  all_goals first|omega|exact a p q|exact b p q
theorem lexC_self (xs:List Int):lexC xs xs=0:=by have:=lexC_neg xs xs;omega
theorem a1h (c:C6) (k:Nat):(a0r c k).length=k:=by simp[a0r]
theorem lexC_zero:∀xs ys:List Int,ys.length=xs.length→lexC xs ys=0→xs=ys
 |[],[],_,_=>rfl
 |[],_ :: _,h,_=>by simp at h
 |_ :: _,[],h,_=>by simp at h
 |x :: xs,y :: ys,h,e=>by
  simp only[lexC] at e
  split at e
  ·omega
  ·split at e
   ·omega
   ·rw[lexC_zero xs ys (by simpa using h) e,show x=y by omega]
theorem firstK_inj {h:Hist} {O:List Nat} (o:OrdOk h O) {a b:C6} (ha:PosN h O a) (hb:PosN h O b) (e:a0r a h.nn=a0r b h.nn):a=b:=by
 have hnn:=o.g.nn
 have hO:∀i∈O,i<h.l.length:=fun i hi=>(o.hO i hi).1
 have hi:∀{c:C6},PosN h O c→∀q,q<6→h.nn≤q→c.get q=-1:=by
  rintro c ⟨u,hu,hc⟩ q h6 hq
  have h1:=(hu.hi o.g hO o.cache h6 (by omega)).1
  rcases hc with rfl|⟨b,hb6,hbn,_,rfl⟩
  ·exact h1
  ·rw[C6.get_set hb6 h6,if_neg (by omega)]
   exact h1
 refine C6.ext' fun q hq=>?_
 rcases a1B q h.nn with g|g
 ·have:(a0r a h.nn)[q]? = (a0r b h.nn)[q]?:=by rw[e]
  simpa [a0r,g] using this
 ·rw[hi ha q hq g,hi hb q hq g]
def ltI (n:Nat) (a b:C6):Prop:=lexC (a0r a n) (a0r b n)<0
theorem ltI_asymm {n:Nat} {a b:C6} (h:ltI n a b):¬ltI n b a:=by
 unfold ltI at *
 have:=lexC_neg (a0r a n) (a0r b n)
 omega
structure ImL (h:Hist) (O:List Nat) (L:List C6):Prop where
 mem:∀c,c∈L↔PosN h O c
 len:L.length≤600000
 srt:L.Pairwise (ltI h.nn)
theorem srt_unique {r:C6→C6→Prop} (hr:∀{a b},r a b→¬r b a):∀{l m:List C6},l.Pairwise r→m.Pairwise r→(∀x,x∈l↔x∈m)→l=m
 |[],[],_,_,_=>rfl
 |[],b :: m,_,_,h=>absurd ((h b).2 (by simp)) (by simp)
 |a :: l,[],_,_,h=>absurd ((h a).1 (by simp)) (by simp)
 |a :: l,b :: m,h1,h2,h=>by
  rw[List.pairwise_cons] at h1 h2
  have hab:a=b:=by
   have ha:=(h a).1 (by simp)
   have hb:=(h b).2 (by simp)
   rcases a0O.1 ha with e|ha
   ·exact e
   rcases a0O.1 hb with e|hb
   ·exact e.symm
   exact absurd (h2.1 a ha) (hr (h1.1 b hb))
  subst hab
  rw[srt_unique hr h1.2 h2.2 fun x=>?_]
  have:=h x
  rw[a0O,a0O] at this
  constructor
  ·intro hx
   have h3:=h1.1 x hx
   exact(this.1 (.inr hx)).resolve_left (by rintro rfl;exact hr h3 h3)
  ·intro hx
   have h3:=h2.1 x hx
   exact(this.2 (.inr hx)).resolve_left (by rintro rfl;exact hr h3 h3)
open Classical in
noncomputable def imgL (h:Hist) (O:List Nat):List C6:=if e:∃L,ImL h O L then e.choose else []
theorem ImL.eq {h:Hist} {O:List Nat} {L:List C6} (i:ImL h O L):L=imgL h O:=by
 unfold imgL
 have e:∃L,ImL h O L:=⟨L,i⟩
 rw[dif_pos e]
 exact srt_unique ltI_asymm i.srt e.choose_spec.srt fun c=>by rw[i.mem,e.choose_spec.mem]
theorem ImL.of {h:Hist} {O:List Nat} (o:OrdOk h O) {q L:List C6} (hp:L.Perm q) (hm:∀c,c∈q↔PosN h O c) (hn:(q.map keyM).Nodup) (hl:q.length≤600000) (hs:L.Pairwise fun x y=>¬lexC (a0r y h.nn) (a0r x h.nn)<0):ImL h O L:=by
 have hnd:L.Nodup:=hp.nodup_iff.2 (by
  rw[List.Nodup,a1P] at hn
  exact hn.imp fun h e=>h (by rw[e]))
 refine⟨fun c=>by rw[hp.mem_iff,hm],by rw[hp.length_eq];exact hl,?_⟩
 refine a3H ?_ (hs.and hnd)
 rintro a b ha hb ⟨h1,h2⟩
 unfold ltI
 have h3:=lexC_neg (a0r a h.nn) (a0r b h.nn)
 rcases Int.lt_trichotomy (lexC (a0r a h.nn) (a0r b h.nn)) 0 with q|q|q
 ·exact q
 ·exact absurd (firstK_inj o ((hm a).1 (hp.mem_iff.1 ha)) ((hm b).1 (hp.mem_iff.1 hb)) (lexC_zero _ _ (by rw[a1h,a1h]) q)) h2
 ·omega
end Ho
end Go.Proofs
namespace Go.Proofs
open Go Go.Sx
set_option maxRecDepth 100000
set_option maxHeartbeats 40000000
namespace Ho
theorem order51 {h:Hist} {O:List Nat} (o:OrdOk h O) {k:Nat} (hk:k<O.length) {u:PS} (hu:PN h O k u) :
  a0q Tryz.prog 86 false [.agg (skV (skI u)),(h.at' (O.getD k 0)).w,.int .i64 (O.getD k 0:Nat)] (·=.agg (skV (skI (u.orderU (O.getD k 0:Nat) (h.at' (O.getD k 0)).o)))):=by
 have hl:=hu.len o.cache
 have hle:=o.len
 obtain⟨h1,h2,h3⟩:=o.hO (O.getD k 0) (by
  rw[a0A,a0D hk]
  exact a1F hk)
 have hc:=o.g.cmd _ h1
 have hio:=Pre.isO_ne h2
 have hn:=o.n
 generalize h.at' (O.getD k 0)=c at *
 generalize ((O.getD k 0:Nat):Int)=n
 unfold Cmd.Ok at hc
 by_cases k3:c.k=3
 ·exact ordB u u.E.length rfl hl.1 (by omega) c k3 n
 ·by_cases k4:c.k=4
  ·exact ordF u u.E.length rfl (by omega) c k4 n
  ·exact ordP u (u.E.length-1) c.b.toNat (by omega) (by omega) (by omega) c (by omega) (by omega) (by omega) n
structure MA (h:Hist) (O:List Nat) (k:Nat) (dom:List Int→Prop):Prop where
 le:k≤O.length
 hd:∀key,dom key↔∃u,AS h O k u∧skK u=key
structure MB (h:Hist) (O:List Nat) (k:Nat) (l:List PS) (dom:List Int→Prop) (c:List Int→Int):Prop where
 cl:∀u∈l,ClD (AS h O k) u
 nd:(l.map skK).Nodup
 hd:∀key,dom key↔∃u∈l,skK (u.orderU (O.getD k 0:Nat) (h.at' (O.getD k 0)).o)=key
 hc:∀k,dom k→1≤c k∧c k≤l.length
theorem domB {dom:List Int→Prop} {h:Hist} {O:List Nat} {k:Nat} {l:List PS} {c:List Int→Int} (b:MB h O k l dom c) {u:PS} {key:List Int} (hk:skK (u.orderU (O.getD k 0:Nat) (h.at' (O.getD k 0)).o)=key) (k':List Int) :
  a0p dom key k'↔∃v∈l++[u],skK (v.orderU (O.getD k 0:Nat) (h.at' (O.getD k 0)).o)=k':=by
 unfold a0p
 rw[b.hd]
 constructor
 ·rintro(rfl|⟨v,hv,rfl⟩)
  ·exact⟨u,by simp,hk⟩
  ·exact⟨v,by simp[hv],rfl⟩
 ·rintro⟨v,hv,rfl⟩
  rcases a0M.1 hv with q|q
  ·exact .inr ⟨v,q,rfl⟩
  ·left;rw[a0L.1 q,hk]
def beF (i:Nat):Int:=if i<6 then -1 else if i=6 then 1 else if i<13 then -3 else 0
theorem beF_key:skF beF=skK PS.begin:=skF_congr skI_begin
theorem put_one (K k:List Int):(a0p (fun _=>False) K k↔k=K)∧(a0p (fun _=>False) K k→valPut (fun _=>[V.int .i64 0]) K [V.int .i64 1] k=[V.int .i64 1]):=by
 have h1:a0p (fun _=>False) K k↔k=K:=by unfold a0p;simp
 refine⟨h1,fun h=>?_⟩
 unfold valPut mrgL
 simp[pickDL,pickD,h1.1 h]
noncomputable def images36A (h:Hist) (O:List Nat) (o:OrdOk h O) :
  {G:(List Int→Prop)→(List Int→Int)→Nat→MG→Prop // (∀dom c n g,MA h O O.length dom→G dom c n g)→a0q Tryz.prog 60 true [h.w,.sl 1 O.length (a0u natC 0 O)] (fun r=>∃L,ImL h O L∧r=.sl 1 L.length (a0u (imC h.nn) (C6.all 0) L))}:=by
 constructor
 case property=>
  intro hG
  have hlen:=o.len
  have hl6:=o.l
  refine a0c Tryz.E_ok Tryz.func60 rfl (by kernel_rfl) ?_
  refine x10 ?_;(repeat' ((first|(refine a0d (a1b (-1)) rfl ?_;rintro _ rfl)|(refine a0f (a1b (-1)) rfl ?_)|(refine a0l (fun _=>a1b (-1)) rfl ?_)|(refine a0d (a1b (-3)) rfl ?_;rintro _ rfl)|(refine a0f (a1b (-3)) rfl ?_)|(refine a0l (fun _=>a1b (-3)) rfl ?_));refine x10 ?_))
  intro g0
  refine x10 ?_
  intro g1
  refine x10 ?_
  refine⟨Nat×(List Int→Prop)×(List Int→Int)×Nat×MG,fun q=>MA h O q.1 q.2.1,fun q=>O.length-q.1,fun q=>[(27,.int .i64 (q.1:Nat)),(6,.map 2),(17,.any),(18,.any),(19,.any),(22,.any),(23,.any),(24,.any)],fun q=>[(1,.gone),(2,.map K73 true false q.2.1 (fun k=>[.int .i64 (q.2.2.1 k)]) q.2.2.2.1 q.2.2.2.2)],fun _=>[],
   (0,(fun k=>k=skK PS.begin),(fun _=>1),nPut (fun _=>False) 0 (skF beF),g1),⟨⟨by dsimp only;omega,fun key=>⟨fun e=>⟨_,rfl,e.symm⟩,fun⟨u,h1,h2⟩=>by rw[←h2,show u=PS.begin from h1]⟩⟩,some [some 0,some 1,some 2],?_⟩,?_⟩
  ·refine x10 ?_
   refine⟨a0a (fun k _=>?_),?_⟩
   ·dsimp only
    rw[←beF_key]
    exact put_one (skF beF) k
   exact xc28
  ·rintro⟨k,dom,c,n,g⟩ hma
   have hle:k≤O.length:=hma.le
   have e0:((k:Nat):Int).toNat=k:=by omega
   (repeat' ((conv=>whnf);first|(with_reducible first|apply spl|apply spl'|refine iJ ?_)<;>intro hc<;>try(exfalso;omega)|refine vcq ?_|refine dr 2011 ?_));all_goals(try conv=>whnf);try exact trivial
   ·have hk:k<O.length:=by dsimp only at hc;omega
    clear hc
    obtain⟨hidx,hio,h9⟩:=o.hO (O.getD k 0) (by
     rw[a0A,a0D hk]
     exact a1F hk)
    have hidx2:O.getD ((k:Nat):Int).toNat 0<h.l.length:=hidx
    intro g2
    refine x10 ?_
    refine a0e [2] (drained50 (o.sh k) (AS.pn o k hle) dom c n g hma.hd) rfl ?_ ?_
    ·refine x10 ?_
     (repeat' ((first|(refine And.intro (a0a (fun k _=>⟨a1R,fun _=>rfl⟩)) ?_)|(refine And.intro (a0a (fun k _=>⟨a1R,fun h=>h.elim⟩)) ?_)|(refine And.intro rfl ?_));exact xc28))
    ·rintro _ _ ⟨dd,cd,nd,gd,hdd,rfl,rfl⟩
     refine x10 ?_
     refine⟨List PS×(List Int→Prop)×(List Int→Int)×Nat×MG,fun q=>MB h O k q.1 q.2.1 q.2.2.1,fun q=>nd-q.1.length,fun _=>[],fun q=>[(3,.map K73 true false q.2.1 (fun k=>[.int .i64 (q.2.2.1 k)]) q.2.2.2.1 q.2.2.2.2),(5,.iter 4 gd (fun k=>dd k∧k.length=K73.length) (q.1.map skK).reverse)],fun _=>[],
      ([],(fun _=>False),(fun _=>0),0,g2),⟨⟨by simp,by simp,by simp,by simp⟩,some [some 0,some 1,some 2,some 3,some 4,some 5],?_⟩,?_⟩
     ·refine x10 ?_
      (repeat' ((first|(refine And.intro (a0a (fun k _=>⟨a1R,fun _=>rfl⟩)) ?_)|(refine And.intro (a0a (fun k _=>⟨a1R,fun h=>h.elim⟩)) ?_)|(refine And.intro rfl ?_));(repeat' ((conv=>whnf);first|(with_reducible first|apply spl|apply spl'|refine iJ ?_)<;>intro hc<;>try(exfalso;omega)|refine vcq ?_|refine dr 2011 ?_));all_goals((try conv=>whnf);try exact trivial)))
     ·rintro⟨l,dn,cn,nn,gn⟩ hmb
      dsimp only at hmb
      have hcap:l.length≤65536:=(o.sh k).cap l (fun u hu=>(clD_pn o hle u).1 (hmb.cl u hu)) hmb.nd
      refine x10 ?_
      refine⟨fun k hk hd=>⟨hd,hk⟩,fun key hk1 hd hnk hcn=>?_,fun hall=>?_⟩
      ·obtain⟨u,hu,rfl⟩:=(hdd key).1 hd
       have hPu:=(clD_pn o hle u).1 hu
       refine x10 ?_
       refine And.intro ⟨rfl,hd,rfl⟩ ?_
       refine x10 ?_
       refine a0f (order51 o hk hPu) rfl ?_
       have hkey:skK (u.orderU (O.getD k 0:Nat) (h.at' (O.getD k 0)).o)=skF (skI (u.orderU (O.getD k 0:Nat) (h.at' (O.getD k 0)).o)):=rfl
       generalize skI (u.orderU (O.getD k 0:Nat) (h.at' (O.getD k 0)).o)=f at hkey ⊢
       have hcn2:∀k,dn k→1≤cn k∧cn k≤(l.length:Nat):=hmb.hc
       have hq:∀key,inR .i64 (cntV dn cn key+1):=fun key=>by
        unfold cntV
        split
        ·rename_i h;have:=hcn2 key h;show(-9223372036854775808:Int)≤_∧_≤(9223372036854775807:Int);omega
        ·show(-9223372036854775808:Int)≤_∧_≤(9223372036854775807:Int);omega
       have hlk:=cntV_again dn cn
       refine x10 ?_
       (repeat' ((first|(refine And.intro (hq _) ?_)|(refine And.intro (hlk _) ?_)|(refine And.intro ⟨rfl,.inl rfl,rfl⟩ ?_));refine x10 ?_))
       intro g3
       refine x10 ?_
       (repeat' ((first|(refine And.intro (hq _) ?_)|(refine And.intro (hlk _) ?_)|(refine And.intro ⟨rfl,.inl rfl,rfl⟩ ?_));refine x10 ?_))
       have hnk':skK u∉l.map skK:=fun q=>hnk (a1Y.2 q)
       have hnd2:(skK u :: (l.map skK).reverse).Nodup:=a2B.2 ⟨hnk,(List.reverse_perm _).nodup_iff.2 hmb.nd⟩
       have hlen:=Counted.le hcn hnd2 (fun k hk=>by
        rcases a0O.1 hk with rfl|hk
        ·exact⟨rfl,hd⟩
        ·obtain⟨v,hv,rfl⟩:=a1C.1 (a1Y.1 hk)
         exact⟨rfl,(hdd _).2 ⟨v,hmb.cl v hv,rfl⟩⟩)
       simp only[a0I,List.length_reverse,a2M] at hlen
       refine⟨(l++[u],a0p dn (skF f),cntUp dn cn (skF f),nPut dn nn (skF f),g3),⟨⟨fun v hv=>?_,?_,domB hmb hkey,fun key hk=>?_⟩,by dsimp only;rw[List.length_append];simp only[List.length_cons,List.length_nil];omega⟩,some [some 0,some 1,some 2,some 3,some 4,some 5],?_⟩
       ·rcases a0M.1 hv with q|q
        ·exact hmb.cl v q
        ·rw[a0L.1 q];exact hu
       ·dsimp only
        rw[a1L,a2N]
        refine⟨hmb.nd,by simp,fun a ha b hb=>?_⟩
        simp only[a1Q,a3G,a0L] at hb
        subst hb
        rintro rfl
        exact hnk' ha
       ·have:=cntUp_le hcn2 key hk
        dsimp only
        rw[a0F]
        simpa using this
       ·refine x10 ?_
        refine⟨a0a (fun key _=>⟨a1R,fun h=>a3c dn cn _ key h⟩),?_⟩
        refine x10 ?_
        refine⟨a0a (fun k _=>⟨a1R,fun _=>rfl⟩),?_⟩
        refine x10 ?_
        refine⟨by dsimp only;simp,?_⟩
        exact xc28
      ·refine x10 ?_
       refine⟨(k+1,dn,cn,nn,gn),⟨⟨hk,fun key=>?_⟩,by dsimp only;omega⟩,some [some 0,some 1,some 3],?_⟩
       ·dsimp only
        rw[hmb.hd]
        constructor
        ·rintro⟨u,hu,rfl⟩
         exact⟨_,⟨u,hmb.cl u hu,rfl⟩,rfl⟩
        ·rintro⟨_,⟨u,hu,rfl⟩,rfl⟩
         have h1:=a1Y.1 (hall (skK u) rfl ((hdd _).2 ⟨u,hu,rfl⟩))
         obtain⟨v,hv,e⟩:=a1C.1 h1
         exact⟨v,hv,order_same (o.sh k) ((clD_pn o hle v).1 (hmb.cl v hv)) ((clD_pn o hle u).1 hu) e _ _⟩
       ·refine x10 ?_
        refine⟨a0a (fun k _=>⟨a1R,fun _=>rfl⟩),?_⟩
        exact xc28
   ·obtain rfl:k=O.length:=by dsimp only at hc;omega
    exact hG dom c n g hma
theorem clone53 (m:C6) (n:Nat) (hn:1≤n∧n≤6):Sx.Callee Tryz.prog 88 [.x (.awin 0 0 1 n 6)] [.cells 90 m.c] (fun v H=>v=.osl 1 n∧H=[.cells 90 m.c,.row 3 1 n (fun b=>[.int .i64 (m.get b)]) false]):=by
 refine callee_ent Tryz.E_ok Tryz.func88 rfl (by kernel_rfl) ?_
 refine x9 ?_
 refine⟨_,_,⟨rfl,rfl⟩,some [some 0,some 2],?_⟩
 refine x9 ?_
 refine⟨fun i hi=>?_,trivial⟩
 have hi6:i<6:=by omega
 rcases six hi6 with rfl|rfl|rfl|rfl|rfl|rfl<;>rfl
structure MC (h:Hist) (O:List Nat) (l:List PS) (r:Option (PS×List Nat)) (dom:List Int→Prop) (c:List Int→Int) (n m:Nat):Prop where
 cl:∀u∈l,PN h O O.length u
 nd:(l.map skK).Nodup
 sm:SeenM l r dom
 hc:∀k,dom k→1≤c k∧c k≤m
 hn:n≤m
theorem nPut_le (dom:List Int→Prop) (n:Nat) (k:List Int):nPut dom n k≤n+1:=by
 unfold nPut
 split<;>omega
theorem med_key (u:PS):[skI u 0,skI u 1,skI u 2,skI u 3,skI u 4,skI u 5]=keyM u.M:=by
 rw[skI_med u (show 0<6 by omega),skI_med u (show 1<6 by omega),skI_med u (show 2<6 by omega),skI_med u (show 3<6 by omega),skI_med u (show 4<6 by omega),skI_med u (show 5<6 by omega)]
 rfl
noncomputable def images36B (h:Hist) (O:List Nat) (o:OrdOk h O) :
  {G:(List Int→Prop)→(List Int→Int)→Nat→MG→MG→(List Int→Prop)→(List Int→Int)→Nat→MG→List PS→(List Int→Prop)→(List Int→Int)→Nat→MG→Prop // (∀dom c n g g2 dd cd nd gd l dn cn nn gn,(∀key,dn key↔∃c,keyM c=key∧PosN h O c)→nn≤458752→G dom c n g g2 dd cd nd gd l dn cn nn gn)→a0q Tryz.prog 60 true [h.w,.sl 1 O.length (a0u natC 0 O)] (fun r=>∃L,ImL h O L∧r=.sl 1 L.length (a0u (imC h.nn) (C6.all 0) L))}:=by
 constructor
 case property=>
  intro hG
  refine(images36A h O o).2 fun dom c n g hma=>?_
  have hP:=o.sh O.length
  have hlen:=o.len
  refine x9 ?_
  intro g2
  refine x9 ?_
  refine a0e [2] (drained50 hP (AS.pn o O.length (a0U _)) dom c n g hma.hd) rfl ?_ ?_
  ·refine x9 ?_
   refine⟨a0a (fun k _=>⟨a1R,fun _=>rfl⟩),?_⟩
   exact xc27
  ·rintro _ _ ⟨dd,cd,nd,gd,hdd,rfl,rfl⟩
   have hdd2:∀key,dd key↔∃u,PN h O O.length u∧skK u=key:=fun key=>by
    rw[hdd]
    exact⟨fun⟨u,h1,h2⟩=>⟨u,(clD_pn o (a0U _) u).1 h1,h2⟩,fun⟨u,h1,h2⟩=>⟨u,(clD_pn o (a0U _) u).2 h1,h2⟩⟩
   refine x9 ?_
   refine⟨List PS×(List Int→Prop)×(List Int→Int)×Nat×MG,fun q=>MC h O q.1 none q.2.1 q.2.2.1 q.2.2.2.1 (7*q.1.length),fun q=>nd-q.1.length,fun _=>[],fun q=>[(3,.map K6 true false q.2.1 (fun k=>[.int .i64 (q.2.2.1 k)]) q.2.2.2.1 q.2.2.2.2),(5,.iter 4 gd (fun k=>dd k∧k.length=K73.length) (q.1.map skK).reverse)],fun _=>[],
    ([],(fun _=>False),(fun _=>0),0,g2),⟨⟨by simp,by simp,SeenM.nil,by simp,by simp⟩,some [some 0,some 1,some 2,some 3,some 4,some 5],?_⟩,?_⟩
   ·refine x9 ?_
    refine⟨a0a (fun k _=>⟨a1R,fun h=>h.elim⟩),?_⟩
    refine x9 ?_
    refine⟨a0a (fun k _=>⟨a1R,fun _=>rfl⟩),?_⟩
    exact xc27
   ·rintro⟨l,dn,cn,nn,gn⟩ hmc
    dsimp only at hmc
    have hcap:l.length≤65536:=hP.cap l hmc.cl hmc.nd
    refine x9 ?_
    refine⟨fun k hk hd=>⟨hd,hk⟩,fun key hk1 hd hnk hcn=>?_,fun hall=>?_⟩
    ·obtain⟨u,hPu,rfl⟩:=(hdd2 key).1 hd
     have hnk':skK u∉l.map skK:=fun q=>hnk (a1Y.2 q)
     have hnd2:(skK u :: (l.map skK).reverse).Nodup:=a2B.2 ⟨hnk,(List.reverse_perm _).nodup_iff.2 hmc.nd⟩
     have hlen2:=Counted.le hcn hnd2 (fun k hk=>by
      rcases a0O.1 hk with rfl|hk
      ·exact⟨rfl,hd⟩
      ·obtain⟨v,hv,rfl⟩:=a1C.1 (a1Y.1 hk)
       exact⟨rfl,(hdd2 _).2 ⟨v,hmc.cl v hv,rfl⟩⟩)
     simp only[a0I,List.length_reverse,a2M] at hlen2
     have hd52:=drains52 hP hPu
     have hmk:=med_key u
     have hcn2:=hmc.hc
     have hq:∀key,inR .i64 (cntV dn cn key+1):=fun key=>by
      unfold cntV
      split
      ·rename_i h;have:=hcn2 key h;show(-9223372036854775808:Int)≤_∧_≤(9223372036854775807:Int);omega
      ·show(-9223372036854775808:Int)≤_∧_≤(9223372036854775807:Int);omega
     have hlk:=cntV_again dn cn
     refine x9 ?_
     refine And.intro ⟨rfl,hd,rfl⟩ ?_
     refine x9 ?_
     generalize skI u=f at hd52 hmk ⊢
     (repeat' ((first|(refine And.intro (hq _) ?_)|(refine And.intro (hlk _) ?_)|(refine And.intro ⟨rfl,.inl rfl,rfl⟩ ?_));refine x9 ?_))
     intro g3
     refine x9 ?_
     (repeat' ((first|(refine And.intro (hq _) ?_)|(refine And.intro (hlk _) ?_)|(refine And.intro ⟨rfl,.inl rfl,rfl⟩ ?_));refine x9 ?_))
     have hk0:[-2,f 1,f 2,f 3,f 4,f 5]=keyM (u.M.set 0 (-2)):=by
      unfold keyM at hmk
      simp only[List.cons.injEq,and_true] at hmk
      obtain⟨a0,a1,a2,a3,a4,a5⟩:=hmk
      rw[a1,a2,a3,a4,a5]
      rfl
     have hk1':[f 0,-2,f 2,f 3,f 4,f 5]=keyM (u.M.set 1 (-2)):=by
      unfold keyM at hmk
      simp only[List.cons.injEq,and_true] at hmk
      obtain⟨a0,a1,a2,a3,a4,a5⟩:=hmk
      rw[a0,a2,a3,a4,a5]
      rfl
     have hk1:=hk1'
     refine callee_new hd52 rfl ?_
     rintro _ _ ⟨rfl,d3,vd,nd3,gd3,hdr,rfl⟩
     refine x9 ?_
     refine⟨List Nat×(List Int→Prop)×(List Int→Int)×Nat×MG,fun q=>MC h O l (some (u,q.1)) q.2.1 q.2.2.1 q.2.2.2.1 (7*l.length+1+q.1.length)∧q.1.Nodup∧∀b∈q.1,b<6∧u.can b,fun q=>nd3-q.1.length,fun _=>[(60,.any),(61,.any),(62,.any),(63,.any),(64,.any),(65,.any),(66,.any),(67,.any),(68,.any),(69,.any)],
      fun q=>[(3,.map K6 true false q.2.1 (fun k=>[.int .i64 (q.2.2.1 k)]) q.2.2.2.1 q.2.2.2.2),(8,.iter 7 gd3 (fun k=>d3 k∧k.length=1) (q.1.map fun(b:Nat)=>[(b:Int)]))],fun _=>[],
      ([],a0p dn [f 0,f 1,f 2,f 3,f 4,f 5],cntUp dn cn [f 0,f 1,f 2,f 3,f 4,f 5],nPut dn nn [f 0,f 1,f 2,f 3,f 4,f 5],g3),⟨⟨⟨hmc.cl,hmc.nd,hmk▸hmc.sm.one u,fun key hk=>by have:=cntUp_le hcn2 key hk;dsimp only;simp only[List.length_nil];omega,by dsimp only;have:=nPut_le dn nn [f 0,f 1,f 2,f 3,f 4,f 5];have:=hmc.hn;simp only[List.length_nil];omega⟩,by simp,by simp⟩,some [some 0,some 1,some 2,some 3,some 4,some 5,some 6,some 7,some 8],?_⟩,?_⟩
     ·refine x9 ?_
      refine⟨a0a (fun key _=>⟨a1R,fun h=>a3c dn cn _ key h⟩),?_⟩
      refine x9 ?_
      refine⟨a0a (fun k _=>⟨a1R,fun _=>rfl⟩),?_⟩
      exact xc27
     ·rintro⟨D,dt,ct,nt,gt⟩ hmt
      dsimp only at hmt
      have hD6:D.length≤6:=by
       have:=a1O hmt.2.1 (l₂:=List.range 6) (fun x hx=>a1D.2 (hmt.2.2 x hx).1)
       simpa using this
      have hct:=hmt.1.hc
      have hq2:∀key,inR .i64 (cntV dt ct key+1):=fun key=>by
       unfold cntV
       split
       ·rename_i h;have:=hct key h;show(-9223372036854775808:Int)≤_∧_≤(9223372036854775807:Int);omega
       ·show(-9223372036854775808:Int)≤_∧_≤(9223372036854775807:Int);omega
      have hlk2:=cntV_again dt ct
      refine x9 ?_
      refine⟨fun k hk hd=>⟨hd,hk⟩,fun key hk3 hd3 hnk3 hcn3=>?_,fun hall3=>?_⟩
      ·obtain⟨b,hb6,rfl,hcan⟩:=(hdr.dom key).1 hd3
       have hb2:b=0∨b=1:=by
        rcases a1B b 2 with q|q
        ·omega
        ·exact absurd (hP.hi u hPu _ b q hb6) hcan.2
       have hnb:b∉D:=fun h=>hnk3 (a1C.2 ⟨b,h,rfl⟩)
       have hnd3:(([(b:Int)]:List Int) :: D.map fun(b:Nat)=>[(b:Int)]).Nodup:=a2B.2 ⟨hnk3,by
        rw[List.Nodup,a1P]
        exact hmt.2.1.imp fun h e=>h (Int.ofNat.inj (List.cons.inj e).1)⟩
       have hlen3:=Counted.le hcn3 hnd3 (fun k hk=>by
        rcases a0O.1 hk with rfl|hk
        ·exact⟨rfl,hd3⟩
        ·obtain⟨b',hb',rfl⟩:=a1C.1 hk
         exact⟨rfl,(hdr.dom _).2 ⟨b',(hmt.2.2 b' hb').1,rfl,(hmt.2.2 b' hb').2⟩⟩)
       simp only[a0I,a2M] at hlen3
       have hD2:(b :: D).Nodup:=a2B.2 ⟨hnb,hmt.2.1⟩
       have hD3:∀x∈b :: D,x<6∧u.can x:=fun x hx=>by
        rcases a0O.1 hx with rfl|hx
        ·exact⟨hb6,hcan⟩
        ·exact hmt.2.2 x hx
       clear hq hlk hdd hdd2 hnd2 hnd3 hd52
       rcases hb2 with rfl|rfl
       ·refine x4 ?_
        refine And.intro ⟨rfl,hd3,hk3⟩ ?_
        refine x4 ?_
        (repeat' ((first|(refine And.intro (hq2 _) ?_)|(refine And.intro (hlk2 _) ?_)|(refine And.intro ⟨rfl,.inl rfl,rfl⟩ ?_));refine x4 ?_))
        intro g4
        refine x4 ?_
        (repeat' ((first|(refine And.intro (hq2 _) ?_)|(refine And.intro (hlk2 _) ?_)|(refine And.intro ⟨rfl,.inl rfl,rfl⟩ ?_));refine x4 ?_))
        refine⟨(0 :: D,a0p dt [-2,f 1,f 2,f 3,f 4,f 5],cntUp dt ct [-2,f 1,f 2,f 3,f 4,f 5],nPut dt nt [-2,f 1,f 2,f 3,f 4,f 5],g4),⟨⟨⟨hmc.cl,hmc.nd,hk0▸hmt.1.sm.torn 0,fun key hk=>by have:=cntUp_le hct key hk;rw[List.length_cons];omega,by dsimp only;have:=nPut_le dt nt [-2,f 1,f 2,f 3,f 4,f 5];have:=hmt.1.hn;rw[List.length_cons];omega⟩,hD2,hD3⟩,by dsimp only;rw[List.length_cons];omega⟩,some [some 0,some 1,some 2,some 3,some 4,some 5,some 6,some 7,some 8],?_⟩
        refine x4 ?_
        refine⟨a0a (fun key _=>⟨a1R,fun h=>a3c dt ct _ key h⟩),?_⟩
        refine x4 ?_
        refine⟨a0a (fun k _=>⟨a1R,fun _=>rfl⟩),?_⟩
        exact xc16
       ·refine x4 ?_
        refine And.intro ⟨rfl,hd3,hk3⟩ ?_
        refine x4 ?_
        (repeat' ((first|(refine And.intro (hq2 _) ?_)|(refine And.intro (hlk2 _) ?_)|(refine And.intro ⟨rfl,.inl rfl,rfl⟩ ?_));refine x4 ?_))
        intro g4
        refine x4 ?_
        (repeat' ((first|(refine And.intro (hq2 _) ?_)|(refine And.intro (hlk2 _) ?_)|(refine And.intro ⟨rfl,.inl rfl,rfl⟩ ?_));refine x4 ?_))
        refine⟨(1 :: D,a0p dt [f 0,-2,f 2,f 3,f 4,f 5],cntUp dt ct [f 0,-2,f 2,f 3,f 4,f 5],nPut dt nt [f 0,-2,f 2,f 3,f 4,f 5],g4),⟨⟨⟨hmc.cl,hmc.nd,hk1▸hmt.1.sm.torn 1,fun key hk=>by have:=cntUp_le hct key hk;rw[List.length_cons];omega,by dsimp only;have:=nPut_le dt nt [f 0,-2,f 2,f 3,f 4,f 5];have:=hmt.1.hn;rw[List.length_cons];omega⟩,hD2,hD3⟩,by dsimp only;rw[List.length_cons];omega⟩,some [some 0,some 1,some 2,some 3,some 4,some 5,some 6,some 7,some 8],?_⟩
        refine x4 ?_
        refine⟨a0a (fun key _=>⟨a1R,fun h=>a3c dt ct _ key h⟩),?_⟩
        refine x4 ?_
        refine⟨a0a (fun k _=>⟨a1R,fun _=>rfl⟩),?_⟩
        exact xc16
      ·refine x9 ?_
       refine⟨(l++[u],dt,ct,nt,gt),⟨⟨fun v hv=>?_,?_,hmt.1.sm.done fun b=>⟨fun h=>hmt.2.2 b h,fun h=>?_⟩,fun key hk=>?_,?_⟩,by dsimp only;rw[List.length_append];simp only[List.length_cons,List.length_nil];omega⟩,some [some 0,some 1,some 2,some 3,some 4,some 5],?_⟩
       ·rcases a0M.1 hv with q|q
        ·exact hmc.cl v q
        ·rw[a0L.1 q];exact hPu
       ·dsimp only
        rw[a1L,a2N]
        refine⟨hmc.nd,by simp,fun a ha b hb=>?_⟩
        simp only[a1Q,a3G,a0L] at hb
        subst hb
        rintro rfl
        exact hnk' ha
       ·have:=hall3 [(b:Int)] rfl ((hdr.dom _).2 ⟨b,h.1,rfl,h.2⟩)
        obtain⟨b',h1,h2⟩:=a1C.1 this
        have:b'=b:=Int.ofNat.inj (List.cons.inj h2).1
        exact this▸h1
       ·have:=hct key hk
        dsimp only
        rw[a0F]
        simp only[a0I,a1S]
        omega
       ·have:=hmt.1.hn
        dsimp only
        rw[a0F]
        simp only[a0I,a1S]
        omega
       ·refine x9 ?_
        refine⟨a0a (fun k _=>⟨a1R,fun _=>rfl⟩),?_⟩
        refine x9 ?_
        refine⟨a0a (fun k _=>⟨a1R,fun _=>rfl⟩),?_⟩
        refine x9 ?_
        refine⟨by dsimp only;simp,?_⟩
        exact xc27
    ·refine hG dom c n g g2 dd cd nd gd l dn cn nn gn (fun key=>?_) (by have:=hmc.hn;omega)
     rw[hmc.sm.hd]
     constructor
     ·rintro⟨c,rfl,⟨u,hu,g⟩|⟨_,_,g,_⟩⟩
      ·refine⟨c,rfl,u,hmc.cl u hu,?_⟩
       rcases g with g|⟨b,h1,h2,g⟩
       ·exact .inl g
       ·exact .inr ⟨b,h1,(hmc.cl u hu).can_n o.g (fun i hi=>(o.hO i hi).1) o.cache h1 h2,h2,g⟩
      ·cases g
     ·rintro⟨c,rfl,u,hu,g⟩
      have h1:=a1Y.1 (hall (skK u) rfl ((hdd2 _).2 ⟨u,hu,rfl⟩))
      obtain⟨v,hv,e⟩:=a1C.1 h1
      have hs:=skK_inj (by have:=hP.len v (hmc.cl v hv);omega) (by have:=hP.len u hu;omega) e
      refine⟨c,rfl,.inl ⟨v,hv,?_⟩⟩
      rcases g with g|⟨b,h1,_,h2,g⟩
      ·exact .inl (by rw[hs.1];exact g)
      ·exact .inr ⟨b,h1,hs.can.2 h2,by rw[hs.1];exact g⟩
end Ho
end Go.Proofs
namespace Go.Proofs
open Go Go.Sx
set_option maxRecDepth 100000
set_option maxHeartbeats 4000000
namespace Ho
theorem ex_nodup {α:Type}:∀l:List α,∃m:List α,m.Nodup∧∀x,x∈m↔x∈l
 |[]=>⟨[],List.nodup_nil,fun x=>a1R⟩
 |a :: l=>by
  obtain⟨m,h1,h2⟩:=ex_nodup l
  by_cases ha:a∈m
  ·refine⟨m,h1,fun x=>?_⟩
   rw[a0O,←h2]
   exact⟨.inr,fun g=>g.elim (fun e=>e▸ha) id⟩
  ·refine⟨a :: m,a2B.2 ⟨ha,h1⟩,fun x=>?_⟩
   rw[a0O,a0O,h2]
def decI (n:Nat):C6:=⟨(n % 9:Nat)-2,(n / 9 % 9:Nat)-2,(n / 81 % 9:Nat)-2,(n / 729 % 9:Nat)-2,(n / 6561 % 9:Nat)-2,(n / 59049 % 9:Nat)-2⟩
def codI (c:C6):Nat:=(c.a0+2+9*(c.a1+2)+81*(c.a2+2)+729*(c.a3+2)+6561*(c.a4+2)+59049*(c.a5+2)).toNat
theorem dec_cod {c:C6} (h:∀b,b<6→-2≤c.get b∧c.get b≤6):codI c<531441∧decI (codI c)=c:=by
 obtain⟨a0,a1,a2,a3,a4,a5⟩:=c
 have h0:-2≤a0∧a0≤6:=h 0 (by omega)
 have h1:-2≤a1∧a1≤6:=h 1 (by omega)
 have h2:-2≤a2∧a2≤6:=h 2 (by omega)
 have h3:-2≤a3∧a3≤6:=h 3 (by omega)
 have h4:-2≤a4∧a4≤6:=h 4 (by omega)
 have h5:-2≤a5∧a5≤6:=h 5 (by omega)
 clear h
 unfold codI decI
 dsimp only
 refine⟨by omega,?_⟩
 rw[C6.mk.injEq]
 refine⟨?_,?_,?_,?_,?_,?_⟩<;>omega
theorem PosN.small {h:Hist} {O:List Nat} (o:OrdOk h O) {c:C6} (hc:PosN h O c):∀b,b<6→-2≤c.get b∧c.get b≤6:=by
 obtain⟨u,hu,hc⟩:=hc
 have hm:∀b,b<6→-1≤u.M.get b∧u.M.get b≤6:=fun b hb=>by
  rcases hu.med o.cache hb with e|⟨q,hq,e,_⟩
  ·omega
  ·have:=(o.hO (O.getD q 0) (by
    rw[a0A,a0D hq]
    exact a1F hq)).1
   have:=o.l
   omega
 intro b hb
 rcases hc with rfl|⟨b',hb6,_,_,rfl⟩
 ·have:=hm b hb;omega
 ·rw[C6.get_set hb6 hb]
  split
  ·omega
  ·have:=hm b hb;omega
theorem ltI_trans {n:Nat} {a b c:C6} (h1:¬ltI n b a) (h2:¬ltI n c b):¬ltI n c a:=by
 unfold ltI at *
 have e1:=lexC_neg (a0r a n) (a0r b n)
 have e2:=lexC_neg (a0r b n) (a0r c n)
 have e3:=lexC_neg (a0r a n) (a0r c n)
 have:=(lexC_trans (a0r a n) (a0r b n) (a0r c n) (by rw[a1h,a1h]) (by rw[a1h,a1h])).1 (by omega) (by omega)
 omega
open Classical in
theorem imL {h:Hist} {O:List Nat} (o:OrdOk h O):ImL h O (imgL h O):=by
 obtain⟨m,h1,h2⟩:=ex_nodup (((List.range 531441).map decI).filter fun c=>decide (PosN h O c))
 have hm:∀c,c∈m↔PosN h O c:=fun c=>by
  rw[h2,a3R,decide_eq_true_iff]
  refine⟨fun g=>g.2,fun g=>⟨?_,g⟩⟩
  obtain⟨g1,g2⟩:=dec_cod (PosN.small o g)
  exact a1C.2 ⟨codI c,a1D.2 g1,g2⟩
 have hlen:m.length≤600000:=by
  have hk:(m.map codI).Nodup:=by
   rw[List.Nodup,a1P]
   refine a3H ?_ h1
   intro a b ha hb hne e
   refine hne ?_
   rw[←(dec_cod (PosN.small o ((hm a).1 ha))).2,e,(dec_cod (PosN.small o ((hm b).1 hb))).2]
  have:=a1p (m:=List.range 531441) hk (fun x hx=>by
   obtain⟨c,hc,rfl⟩:=a1C.1 hx
   exact a1D.2 (dec_cod (PosN.small o ((hm c).1 hc))).1)
  rw[a2M,List.length_range] at this
  omega
 have hp:=List.mergeSort_perm m (fun a b=>decide (¬ltI h.nn b a))
 have hs:=List.pairwise_mergeSort (le:=fun a b=>decide (¬ltI h.nn b a)) (fun a b c g1 g2=>by
  rw[decide_eq_true_iff] at *
  exact ltI_trans g1 g2) (fun a b=>by
  rw[a2P,decide_eq_true_iff,decide_eq_true_iff]
  by_cases q:ltI h.nn b a
  ·exact .inr (ltI_asymm q)
  ·exact .inl q) m
 have hkn:(m.map keyM).Nodup:=by
  rw[List.Nodup,a1P]
  exact h1.imp fun g e=>g (keyM_inj e)
 have hi:=ImL.of o hp hm hkn hlen (hs.imp fun {a b} g=>by
  rw[decide_eq_true_iff] at g
  exact g)
 rw[←hi.eq]
 exact hi
end Ho
end Go.Proofs
namespace Go.Proofs
open Go Go.Sx
set_option maxRecDepth 100000
set_option maxHeartbeats 40000000
namespace Ho
def SortIm:Prop:=∀(n:Nat),0<n→n≤6→∀(L:List C6),0<L.length→L.length≤600000→Sx.Callee Tryz.prog 89 [.osl 0 L.length,.fn (.func 90) [] []] [.row 38 1 L.length (a0u (imC n) (C6.all 0) L) true]
 (fun v H=>v=.tup []∧∃L':List C6,L'.Perm L∧L'.Pairwise (fun x y=>¬lexC (a0r y n) (a0r x n)<0)∧H=[.row 38 1 L.length (a0u (imC n) (C6.all 0) L') true])
theorem posN_ex {h:Hist} {O:List Nat} (o:OrdOk h O):∃c,PosN h O c:=by
 have key:∀k,k≤O.length→∃u,PN h O k u:=by
  intro k
  induction k with
  |zero=>exact fun _=>⟨_,PN.begin⟩
  |succ k ih=>
   intro hk
   obtain⟨u,hu⟩:=ih (by omega)
   exact⟨_,hu.order o.cache (by omega)⟩
 obtain⟨u,hu⟩:=key O.length (a0U _)
 exact⟨u.M,u,hu,.inl rfl⟩
theorem images36_1 (hs:SortIm) (hl:List Cmd) (O:List Nat) (o:OrdOk ⟨1,hl⟩ O):a0q Tryz.prog 60 true [Hist.w ⟨1,hl⟩,.sl 1 O.length (a0u natC 0 O)] (fun r=>∃L,ImL ⟨1,hl⟩ O L∧r=.sl 1 L.length (a0u (imC (Hist.nn ⟨1,hl⟩)) (C6.all 0) L)):=by
 refine(images36B ⟨1,hl⟩ O o).2 fun dom c n g g2 dd cd nd gd l dn cn nn gn hdn hnn=>?_
 have hlen:=o.len
 refine x1 ?_
 refine⟨List C6,fun q=>(∀c∈q,PosN ⟨1,hl⟩ O c)∧(q.map keyM).Nodup∧q.length≤nn,fun q=>nn-q.length,fun q=>[(15,.osl 7 q.length)],fun q=>[(6,.iter 3 gn (fun k=>dn k∧k.length=K6.length) (q.map keyM).reverse)],fun q=>[.row 38 1 q.length (a0u (imC 1) (C6.all 0) q) true],[],⟨⟨by simp,by simp,by simp⟩,some [some 0,some 1,some 2,some 3,some 4,some 5,some 6,none],?_⟩,?_⟩
 ·refine x1 ?_
  refine⟨a0a (fun k _=>⟨a1R,fun _=>rfl⟩),?_⟩
  refine x1 ?_
  refine⟨a0a (fun k _=>⟨a1R,fun _=>rfl⟩),?_⟩
  exact xc3
 ·rintro q ⟨q1,q2,q3⟩
  refine x1 ?_
  refine⟨fun k hk hd=>⟨hd,hk⟩,fun key hk1 hd hnk hcn=>?_,fun hall=>?_⟩
  ·obtain⟨m,rfl,hpos⟩:=(hdn key).1 hd
   have hnk':keyM m∉q.map keyM:=fun h=>hnk (a1Y.2 h)
   have hnd2:(keyM m :: (q.map keyM).reverse).Nodup:=a2B.2 ⟨hnk,(List.reverse_perm _).nodup_iff.2 q2⟩
   have hlen2:=Counted.le hcn hnd2 (fun k hk=>by
    rcases a0O.1 hk with rfl|hk
    ·exact⟨rfl,hd⟩
    ·obtain⟨v,hv,rfl⟩:=a1C.1 (a1Y.1 hk)
     exact⟨rfl,(hdn _).2 ⟨v,rfl,q1 v hv⟩⟩)
   simp only[a0I,List.length_reverse,a2M] at hlen2
   refine x1 ?_
   refine And.intro ⟨rfl,hd,rfl⟩ ?_
   refine x1 ?_
   refine a0e [8] (clone53 m 1 (by omega)) rfl ?_ ?_
   ·exact xc3
   ·rintro _ _ ⟨rfl,rfl⟩
    refine x1 ?_
    refine⟨q++[m],⟨⟨fun v hv=>?_,?_,by rw[List.length_append];simp only[List.length_cons,List.length_nil];omega⟩,by dsimp only;rw[List.length_append];simp only[List.length_cons,List.length_nil];omega⟩,some [some 0,some 1,some 2,some 3,some 4,some 5,some 6,some 11],?_⟩
    ·rcases a0M.1 hv with h|h
     ·exact q1 v h
     ·rw[a0L.1 h];exact hpos
    ·rw[a1L,a2N]
     refine⟨q2,by simp,fun a ha b hb=>?_⟩
     simp only[a1Q,a3G,a0L] at hb
     subst hb
     rintro rfl
     exact hnk' ha
    ·refine x1 ?_
     refine⟨by simp,?_⟩
     refine x1 ?_
     refine⟨a0a (fun k _=>⟨a1R,fun _=>rfl⟩),?_⟩
     refine x1 ?_
     refine⟨a0a (fun k _=>⟨a1R,fun _=>rfl⟩),?_⟩
     refine x1 ?_
     refine⟨by simp,?_⟩
     refine x1 ?_
     refine⟨by simp,a2d (c:=imC 1) (a:=m) (l:=q) rfl (fun _ _=>rfl),?_⟩
     exact xc3
  ·have hql:q.length≤600000:=by omega
   have hq0:0<q.length:=by
    obtain⟨c,hc⟩:=posN_ex o
    have h1:=a1Y.1 (hall (keyM c) rfl ((hdn _).2 ⟨c,rfl,hc⟩))
    have:=a3P h1
    simpa using this
   refine x1 ?_
   refine a0e [7] (hs 1 (by omega) (by omega) q hq0 hql) rfl ?_ ?_
   ·exact xc3
   ·rintro _ _ ⟨rfl,L',hp,hsrt,rfl⟩
    refine x1 ?_
    refine⟨_,⟨L',ImL.of o hp (fun c=>⟨q1 c,fun hc=>?_⟩) q2 hql hsrt,rfl⟩,?_⟩
    ·have h1:=a1Y.1 (hall (keyM c) rfl ((hdn _).2 ⟨c,rfl,hc⟩))
     obtain⟨v,hv,e⟩:=a1C.1 h1
     rwa [←keyM_inj e]
    ·refine x1 ?_
     refine⟨hp.length_eq.symm,fun i hi=>rfl,?_⟩
     exact xc3
theorem images36_2 (hs:SortIm) (hl:List Cmd) (O:List Nat) (o:OrdOk ⟨2,hl⟩ O):a0q Tryz.prog 60 true [Hist.w ⟨2,hl⟩,.sl 1 O.length (a0u natC 0 O)] (fun r=>∃L,ImL ⟨2,hl⟩ O L∧r=.sl 1 L.length (a0u (imC (Hist.nn ⟨2,hl⟩)) (C6.all 0) L)):=by
 refine(images36B ⟨2,hl⟩ O o).2 fun dom c n g g2 dd cd nd gd l dn cn nn gn hdn hnn=>?_
 have hlen:=o.len
 refine x1 ?_
 refine⟨List C6,fun q=>(∀c∈q,PosN ⟨2,hl⟩ O c)∧(q.map keyM).Nodup∧q.length≤nn,fun q=>nn-q.length,fun q=>[(15,.osl 7 q.length)],fun q=>[(6,.iter 3 gn (fun k=>dn k∧k.length=K6.length) (q.map keyM).reverse)],fun q=>[.row 38 1 q.length (a0u (imC 2) (C6.all 0) q) true],[],⟨⟨by simp,by simp,by simp⟩,some [some 0,some 1,some 2,some 3,some 4,some 5,some 6,none],?_⟩,?_⟩
 ·refine x1 ?_
  refine⟨a0a (fun k _=>⟨a1R,fun _=>rfl⟩),?_⟩
  refine x1 ?_
  refine⟨a0a (fun k _=>⟨a1R,fun _=>rfl⟩),?_⟩
  exact xc3
 ·rintro q ⟨q1,q2,q3⟩
  refine x1 ?_
  refine⟨fun k hk hd=>⟨hd,hk⟩,fun key hk1 hd hnk hcn=>?_,fun hall=>?_⟩
  ·obtain⟨m,rfl,hpos⟩:=(hdn key).1 hd
   have hnk':keyM m∉q.map keyM:=fun h=>hnk (a1Y.2 h)
   have hnd2:(keyM m :: (q.map keyM).reverse).Nodup:=a2B.2 ⟨hnk,(List.reverse_perm _).nodup_iff.2 q2⟩
   have hlen2:=Counted.le hcn hnd2 (fun k hk=>by
    rcases a0O.1 hk with rfl|hk
    ·exact⟨rfl,hd⟩
    ·obtain⟨v,hv,rfl⟩:=a1C.1 (a1Y.1 hk)
     exact⟨rfl,(hdn _).2 ⟨v,rfl,q1 v hv⟩⟩)
   simp only[a0I,List.length_reverse,a2M] at hlen2
   refine x1 ?_
   refine And.intro ⟨rfl,hd,rfl⟩ ?_
   refine x1 ?_
   refine a0e [8] (clone53 m 2 (by omega)) rfl ?_ ?_
   ·exact xc3
   ·rintro _ _ ⟨rfl,rfl⟩
    refine x1 ?_
    refine⟨q++[m],⟨⟨fun v hv=>?_,?_,by rw[List.length_append];simp only[List.length_cons,List.length_nil];omega⟩,by dsimp only;rw[List.length_append];simp only[List.length_cons,List.length_nil];omega⟩,some [some 0,some 1,some 2,some 3,some 4,some 5,some 6,some 11],?_⟩
    ·rcases a0M.1 hv with h|h
     ·exact q1 v h
     ·rw[a0L.1 h];exact hpos
    ·rw[a1L,a2N]
     refine⟨q2,by simp,fun a ha b hb=>?_⟩
     simp only[a1Q,a3G,a0L] at hb
     subst hb
     rintro rfl
     exact hnk' ha
    ·refine x1 ?_
     refine⟨by simp,?_⟩
     refine x1 ?_
     refine⟨a0a (fun k _=>⟨a1R,fun _=>rfl⟩),?_⟩
     refine x1 ?_
     refine⟨a0a (fun k _=>⟨a1R,fun _=>rfl⟩),?_⟩
     refine x1 ?_
     refine⟨by simp,?_⟩
     refine x1 ?_
     refine⟨by simp,a2d (c:=imC 2) (a:=m) (l:=q) rfl (fun _ _=>rfl),?_⟩
     exact xc3
  ·have hql:q.length≤600000:=by omega
   have hq0:0<q.length:=by
    obtain⟨c,hc⟩:=posN_ex o
    have h1:=a1Y.1 (hall (keyM c) rfl ((hdn _).2 ⟨c,rfl,hc⟩))
    have:=a3P h1
    simpa using this
   refine x1 ?_
   refine a0e [7] (hs 2 (by omega) (by omega) q hq0 hql) rfl ?_ ?_
   ·exact xc3
   ·rintro _ _ ⟨rfl,L',hp,hsrt,rfl⟩
    refine x1 ?_
    refine⟨_,⟨L',ImL.of o hp (fun c=>⟨q1 c,fun hc=>?_⟩) q2 hql hsrt,rfl⟩,?_⟩
    ·have h1:=a1Y.1 (hall (keyM c) rfl ((hdn _).2 ⟨c,rfl,hc⟩))
     obtain⟨v,hv,e⟩:=a1C.1 h1
     rwa [←keyM_inj e]
    ·refine x1 ?_
     refine⟨hp.length_eq.symm,fun i hi=>rfl,?_⟩
     exact xc3
theorem images36 (hs:SortIm) (h:Hist) (O:List Nat) (o:OrdOk h O):a0q Tryz.prog 60 true [h.w,.sl 1 O.length (a0u natC 0 O)] (·=.sl 1 (imgL h O).length (a0u (imC h.nn) (C6.all 0) (imgL h O))):=by
 suffices H:a0q Tryz.prog 60 true [h.w,.sl 1 O.length (a0u natC 0 O)] (fun r=>∃L,ImL h O L∧r=.sl 1 L.length (a0u (imC h.nn) (C6.all 0) L)) by
  refine H.mono ?_
  rintro _ ⟨L,hL,rfl⟩
  rw[←hL.eq]
 obtain⟨N,hl⟩:=h
 have hN:N=1∨N=2:=by
  have h1:=o.n
  have h2:=o.g.n
  dsimp only at h1 h2
  omega
 rcases hN with rfl|rfl
 ·exact images36_1 hs hl O o
 ·exact images36_2 hs hl O o
end Ho
end Go.Proofs
