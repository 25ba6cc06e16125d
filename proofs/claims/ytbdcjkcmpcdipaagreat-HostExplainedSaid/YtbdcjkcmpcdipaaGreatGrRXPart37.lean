/- Own work: texts of the proof of a law (Gp9, GrN, GrP). No condition. -/
import Derived.Test.YtbdcjkcmpcdipaaGreatGrRXPart36
set_option linter.unusedVariables false
set_option linter.unusedSimpArgs false
namespace Go.Proofs
open Go Go.Sx
set_option maxRecDepth 100000
set_option maxHeartbeats 40000000
theorem images56s (x:Cache) (hx:x.Small):a0q Tryz.prog 97 true [x.v] (fun r=>∃L:List Img,Imgs x L∧r=.sl 9 L.length (a0u imC Img.none L)):=
 images56 x hx.ok hx.n (fun k s D h=>rch_good hx.ok k s D h) (fun k l h1 h2=>rch_cap hx.ok hx.n hx.l k l h1 h2)
theorem equal73 (c:C6) (n:Nat) (hn:n≤6) (l:List Int) (hll:l.length≤1000000):a0q Tryz.prog 98 false [.sl 1 n (fun b=>[.int .i64 (c.get b)]),.sl 1 l.length (a0u intC 0 l)] (·=.prop (n=l.length∧Eqs c l) (Classical.propDecidable _)):=by
 refine a0c Tryz.E_ok Tryz.func98 rfl (by kernel_rfl) ?_
 (repeat' ((conv=>whnf);first|(with_reducible first|apply spl|apply spl'|refine iJ ?_)<;>intro hc<;>try(exfalso;omega)|refine vcq ?_|refine dr 9 ?_));all_goals(try conv=>whnf);try exact trivial
 ·refine⟨_,rfl,?_⟩
  (repeat' ((conv=>whnf);first|(with_reducible first|apply spl|apply spl'|refine iJ ?_)<;>intro hc<;>try(exfalso;omega)|refine vcq ?_|refine dr 9 ?_));all_goals(try conv=>whnf);try exact trivial
 ·have hnl:n=l.length:=by omega
  refine⟨Nat,fun i=>i≤n∧∀b,b<i→c.get b=l.getD b 0,fun i=>n-i,fun i=>[(13,.int .i64 (i:Nat))],fun _=>[],fun _=>[],0,⟨⟨by omega,fun b hb=>by omega⟩,none,?_⟩,?_⟩
  ·(repeat' ((conv=>whnf);first|(with_reducible first|apply spl|apply spl'|refine iJ ?_)<;>intro hc<;>try(exfalso;omega)|refine vcq ?_|refine dr 9 ?_));all_goals(try conv=>whnf);try exact trivial
  ·rintro i ⟨h1,h2⟩
   have hti:(i:Int).toNat=i:=a1N i
   (repeat' ((conv=>whnf);first|(with_reducible first|apply spl|apply spl'|refine iJ ?_)<;>intro hc<;>try(exfalso;omega)|refine vcq ?_|refine dr 9 ?_));all_goals(try conv=>whnf);try exact trivial
   ·refine⟨_,rfl,?_⟩
    (repeat' ((conv=>whnf);first|(with_reducible first|apply spl|apply spl'|refine iJ ?_)<;>intro hc<;>try(exfalso;omega)|refine vcq ?_|refine dr 9 ?_));all_goals(try conv=>whnf);try exact trivial
    refine⟨fun h=>?_,trivial⟩
    rw[hti] at hc
    exact hc (h.2 i (by omega))
   ·rw[hti] at hc
    refine⟨i+1,⟨⟨by omega,fun b hb=>?_⟩,by dsimp only;omega⟩,none,?_⟩
    ·rcases a0J (show b≤i by omega) with h|rfl
     ·exact h2 b h
     ·exact a0T.1 hc
    ·(repeat' ((conv=>whnf);first|(with_reducible first|apply spl|apply spl'|refine iJ ?_)<;>intro hc<;>try(exfalso;omega)|refine vcq ?_|refine dr 9 ?_));all_goals(try conv=>whnf);try exact trivial
   ·refine⟨_,rfl,?_⟩
    (repeat' ((conv=>whnf);first|(with_reducible first|apply spl|apply spl'|refine iJ ?_)<;>intro hc<;>try(exfalso;omega)|refine vcq ?_|refine dr 9 ?_));all_goals(try conv=>whnf);try exact trivial
    exact⟨⟨hnl,fun b hb=>h2 b (by omega)⟩,trivial⟩
theorem find55 (x:Cache) (hl:x.l.length≤1000000) (hs:x.chk=0→x.Small) (l:List Int) (hll:l.length≤1000000):a0q Tryz.prog 67 true [x.v,.sl 1 l.length (a0u intC 0 l)] (Found x l):=by
 refine a0c Tryz.E_ok Tryz.func67 rfl (by kernel_rfl) ?_
 (repeat' ((conv=>whnf);first|(with_reducible first|apply spl|apply spl'|refine iJ ?_)<;>intro hc<;>try(exfalso;omega)|refine vcq ?_|refine dr 9 ?_));all_goals((try conv=>whnf);try exact trivial);(repeat' ((first|(refine a0d (check36 x hl) rfl ?_;rintro _ rfl)|(refine a0f (check36 x hl) rfl ?_)|(refine a0l (fun _=>check36 x hl) rfl ?_));(repeat' ((conv=>whnf);first|(with_reducible first|apply spl|apply spl'|refine iJ ?_)<;>intro hc<;>try(exfalso;omega)|refine vcq ?_|refine dr 9 ?_));all_goals((try conv=>whnf);try exact trivial)))
 ·exact⟨_,.chk hc,by(repeat' ((conv=>whnf);first|(with_reducible first|apply spl|apply spl'|refine iJ ?_)<;>intro hc<;>try(exfalso;omega)|refine vcq ?_|refine dr 9 ?_));all_goals((try conv=>whnf);try exact trivial)⟩
 ·rename_i hk
  have hk:=a0T.1 hk
  exact⟨_,.img hk (fun h=>hc h.1),by(repeat' ((conv=>whnf);first|(with_reducible first|apply spl|apply spl'|refine iJ ?_)<;>intro hc<;>try(exfalso;omega)|refine vcq ?_|refine dr 9 ?_));all_goals((try conv=>whnf);try exact trivial)⟩
 ·rename_i hk
  have hk:x.chk=0:=a0T.1 hk
  have hln:(l.length:Int)=x.n:=a0T.1 hc
  have hx:=hs hk
  have hn:=hx.ok.n
  have hx16:=hx.ok.len
  have hx3:=hx.n
  refine⟨Nat,fun i=>i≤l.length∧∀b,b<i→okAt x b (l.getD b 0),fun i=>l.length-i,fun i=>[(26,.int .i64 (i:Nat))],fun _=>[],fun _=>[],0,⟨⟨by omega,fun b hb=>by omega⟩,none,?_⟩,?_⟩
  ·(repeat' ((conv=>whnf);first|(with_reducible first|apply spl|apply spl'|refine iJ ?_)<;>intro hc<;>try(exfalso;omega)|refine vcq ?_|refine dr 9 ?_));all_goals(try conv=>whnf);try exact trivial
  ·rintro i ⟨h1,h2⟩
   have hti:(i:Int).toNat=i:=a1N i
   (repeat' ((conv=>whnf);first|(with_reducible first|apply spl|apply spl'|refine iJ ?_)<;>intro hc<;>try(exfalso;omega)|refine vcq ?_|refine dr 9 ?_));all_goals((try conv=>whnf);try exact trivial);(repeat' ((first|(refine a0d (within51 _ _ _) rfl ?_;rintro _ rfl)|(refine a0f (within51 _ _ _) rfl ?_)|(refine a0l (fun _=>within51 _ _ _) rfl ?_)|(refine a0d (puts62 _) rfl ?_;rintro _ rfl)|(refine a0f (puts62 _) rfl ?_)|(refine a0l (fun _=>puts62 _) rfl ?_));(repeat' ((conv=>whnf);first|(with_reducible first|apply spl|apply spl'|refine iJ ?_)<;>intro hc<;>try(exfalso;omega)|refine vcq ?_|refine dr 9 ?_));all_goals((try conv=>whnf);try exact trivial)))
   ·have hi:i<l.length:=by omega
    rw[hti] at *
    refine⟨_,.img hk (fun h=>?_),by(repeat' ((conv=>whnf);first|(with_reducible first|apply spl|apply spl'|refine iJ ?_)<;>intro hc<;>try(exfalso;omega)|refine vcq ?_|refine dr 9 ?_));all_goals((try conv=>whnf);try exact trivial)⟩
    have h3:=h.2 i hi
    unfold okAt at h3
    have q2:l.getD i 0≠-1∧l.getD i 0≠-2:=by assumption
    rcases h3 with h3|h3|⟨_,h4,h5⟩
    ·exact q2.1 h3
    ·exact q2.2 h3
    ·rcases hc with hc|hc
     ·exact hc h4
     ·exact hc h5
   ·have hi:i<l.length:=by omega
    refine⟨i+1,⟨⟨by omega,fun b hb=>?_⟩,by dsimp only;omega⟩,none,?_⟩
    ·rcases a0J (show b≤i by omega) with g|rfl
     ·exact h2 b g
     ·rw[hti] at *
      have q1:¬¬(0≤l.getD b 0∧l.getD b 0≤x.l.length-1):=by assumption
      exact .inr (.inr ⟨a0T.1 q1,a0T.1 (fun g=>hc (.inl g)),a0T.1 (fun g=>hc (.inr g))⟩)
    ·(repeat' ((conv=>whnf);first|(with_reducible first|apply spl|apply spl'|refine iJ ?_)<;>intro hc<;>try(exfalso;omega)|refine vcq ?_|refine dr 9 ?_));all_goals(try conv=>whnf);try exact trivial
   ·have hi:i<l.length:=by omega
    rw[hti] at *
    refine⟨_,.img hk (fun h=>?_),by(repeat' ((conv=>whnf);first|(with_reducible first|apply spl|apply spl'|refine iJ ?_)<;>intro hc<;>try(exfalso;omega)|refine vcq ?_|refine dr 9 ?_));all_goals((try conv=>whnf);try exact trivial)⟩
    have h3:=h.2 i hi
    unfold okAt at h3
    have q1:l.getD i 0≠-1∧l.getD i 0≠-2:=by assumption
    rcases h3 with h3|h3|⟨h4,_⟩
    ·exact q1.1 h3
    ·exact q1.2 h3
    ·exact hc h4
   ·have hi:i<l.length:=by omega
    refine⟨i+1,⟨⟨by omega,fun b hb=>?_⟩,by dsimp only;omega⟩,none,?_⟩
    ·rcases a0J (show b≤i by omega) with g|rfl
     ·exact h2 b g
     ·rw[hti] at hc
      unfold okAt
      by_cases g:l.getD b 0=-1
      ·exact .inl g
      ·exact .inr (.inl (a1E fun g2=>hc ⟨g,g2⟩))
    ·(repeat' ((conv=>whnf);first|(with_reducible first|apply spl|apply spl'|refine iJ ?_)<;>intro hc<;>try(exfalso;omega)|refine vcq ?_|refine dr 9 ?_));all_goals(try conv=>whnf);try exact trivial
   ·have hii:i=l.length:=by omega
    subst hii
    have himg:IsImg x l:=⟨hln,h2⟩
    refine a0d (images56s x hx) rfl ?_
    rintro _ ⟨L,hL,rfl⟩
    have hLl:=hL.len
    (repeat' ((conv=>whnf);first|(with_reducible first|apply spl|apply spl'|refine iJ ?_)<;>intro hc<;>try(exfalso;omega)|refine vcq ?_|refine dr 9 ?_));all_goals(try conv=>whnf);try exact trivial
    refine⟨Nat,fun j=>j≤L.length∧∀q,q<j→¬Eqs (L.getD q Img.none).h l,fun j=>L.length-j,fun j=>[(70,.int .i64 (j:Nat))],fun _=>[],fun _=>[],0,⟨⟨by omega,fun q hq=>by omega⟩,none,?_⟩,?_⟩
    ·(repeat' ((conv=>whnf);first|(with_reducible first|apply spl|apply spl'|refine iJ ?_)<;>intro hc<;>try(exfalso;omega)|refine vcq ?_|refine dr 9 ?_));all_goals(try conv=>whnf);try exact trivial
    ·rintro j ⟨g1,g2⟩
     have htj:(j:Int).toNat=j:=a1N j
     (repeat' ((conv=>whnf);first|(with_reducible first|apply spl|apply spl'|refine iJ ?_)<;>intro hc<;>try(exfalso;omega)|refine vcq ?_|refine dr 9 ?_));all_goals(try conv=>whnf);try exact trivial
     ·have hj:j<L.length:=by omega
      have e:L.getD j Img.none=L[j]:=by simp[a0A,hj]
      have hok:ImgOk x (L.getD j Img.none):=by rw[e];exact hL.ok _ (a1F hj)
      refine callee_view (equal73 (L.getD j Img.none).h x.n.toNat (by omega) l hll) ?_
      (repeat' ((conv=>whnf);first|(with_reducible first|apply spl|apply spl'|refine iJ ?_)<;>intro hc<;>try(exfalso;omega)|refine vcq ?_|refine dr 9 ?_));all_goals(try conv=>whnf);try exact trivial
      rw[htj]
      refine⟨fun b hb=>?_,?_⟩
      ·have:b=0∨b=1∨b=2:=by omega
       rcases this with rfl|rfl|rfl<;>exact⟨rfl,rfl⟩
      (repeat' ((conv=>whnf);first|(with_reducible first|apply spl|apply spl'|refine iJ ?_)<;>intro hc<;>try(exfalso;omega)|refine vcq ?_|refine dr 9 ?_));all_goals(try conv=>whnf);try exact trivial
      rintro _ rfl
      (repeat' ((conv=>whnf);first|(with_reducible first|apply spl|apply spl'|refine iJ ?_)<;>intro hc<;>try(exfalso;omega)|refine vcq ?_|refine dr 9 ?_));all_goals(try conv=>whnf);try exact trivial
      ·exact⟨_,.some _ hk himg hok hc.2,by(repeat' ((conv=>whnf);first|(with_reducible first|apply spl|apply spl'|refine iJ ?_)<;>intro hc<;>try(exfalso;omega)|refine vcq ?_|refine dr 9 ?_));all_goals((try conv=>whnf);try exact trivial)⟩
      ·have hne:¬Eqs (L.getD j Img.none).h l:=fun h=>hc ⟨by omega,h⟩
       refine⟨j+1,⟨⟨by omega,fun q hq=>?_⟩,by dsimp only;omega⟩,some [some 0,some 1],?_⟩
       ·rcases a0J (show q≤j by omega) with g|rfl
        ·exact g2 q g
        ·exact hne
       ·(repeat' ((conv=>whnf);first|(with_reducible first|apply spl|apply spl'|refine iJ ?_)<;>intro hc<;>try(exfalso;omega)|refine vcq ?_|refine dr 9 ?_));all_goals(try conv=>whnf);try exact trivial
     ·refine⟨_,.none hk himg ?_,by(repeat' ((conv=>whnf);first|(with_reducible first|apply spl|apply spl'|refine iJ ?_)<;>intro hc<;>try(exfalso;omega)|refine vcq ?_|refine dr 9 ?_));all_goals((try conv=>whnf);try exact trivial)⟩
      rintro⟨c,h3,h4⟩
      obtain⟨im,h5,rfl⟩:=(hL.pos hx.ok _).2 h3
      obtain⟨q,hq,rfl⟩:=a1G h5
      have e:L.getD q Img.none=L[q]:=by simp[a0A,hq]
      exact g2 q (by omega) (e▸h4)
theorem Possible21 (x:Cache) (hl:x.l.length≤1000000) (hs:x.chk=0→x.Small) (l:List Int) (hll:l.length≤1000000):a0q Tryz.prog 32 false [x.v,.sl 1 l.length (a0u intC 0 l)] (PosR x l):=by
 refine a0c Tryz.E_ok Tryz.func32 rfl (by kernel_rfl) ?_
 refine x1 ?_
 refine a0d (find55 x hl hs l hll) rfl ?_
 intro r hr
 cases hr with
 |chk h1=>
  refine x1 ?_
  exact⟨_,.chk h1,by exact xc3⟩
 |img h1 h2=>
  refine x1 ?_
  exact⟨_,.img h1 h2,by exact xc3⟩
 |none h1 h2 h3=>
  refine x1 ?_
  refine⟨_,.pos h1 h2,?_⟩
  refine x1 ?_
  refine⟨h3,?_⟩
  exact xc3
 |some im h1 h2 h3 h4=>
  refine x1 ?_
  refine⟨_,.pos h1 h2,?_⟩
  refine x1 ?_
  refine⟨⟨_,h3.pos,h4⟩,?_⟩
  exact xc3
end Go.Proofs
namespace Go.Proofs
open Go Go.Sx
set_option maxRecDepth 100000
set_option maxHeartbeats 4000000
namespace Ho
variable {h:Hist}
def preS:SR→Nat→SR
 |.root,_=>.root
 |.node s b c im,i=>if dep b+1≤i then .node s b c im else preS b i
theorem preS_full:∀{r:SR} {i:Nat},dep r≤i→preS r i=r
 |.root,_,_=>rfl
 |.node _ _ _ _,_,e=>if_pos e
theorem preS_lo {s:St} {b:SR} {c:Nat} {im:Option C6} {i:Nat} (e:i≤dep b):preS (.node s b c im) i=preS b i:=if_neg (by omega)
theorem preS_zero:∀r:SR,preS r 0=.root
 |.root=>rfl
 |.node _ b _ _=>(preS_lo (a2A _)).trans (preS_zero b)
theorem preS_good:∀{r:SR},r.Good h→∀i,(preS r i).Good h
 |.root,_,_=>trivial
 |.node s b c im,hr,i=>by
  unfold preS
  split
  ·exact hr
  ·exact preS_good hr.1 i
theorem preS_dep:∀{r:SR} {i:Nat},i≤dep r→dep (preS r i)=i
 |.root,i,e=>by have:i=0:=Nat.le_zero.1 e;subst this;rfl
 |.node s b c im,i,e=>by
  unfold preS
  split
  ·rename_i q
   exact Nat.le_antisymm q e
  ·exact preS_dep (by omega)
theorem preS_succ:∀{r:SR} {i:Nat},i<dep r→∃s c im,preS r (i+1)=.node s (preS r i) c im
 |.root,i,e=>by cases e
 |.node s b c im,i,e=>by
  have e:i<dep b+1:=e
  by_cases q:i=dep b
  ·subst q
   rw[preS_lo (a0U _),preS_full (r:=b) (a0U _),preS_full (r:=.node s b c im) (i:=dep b+1) (a0U _)]
   exact⟨s,c,im,rfl⟩
  ·rw[preS_lo (show i≤dep b by omega),preS_lo (show i+1≤dep b by omega)]
   exact preS_succ (by omega)
theorem ordS_pre:∀(r:SR) (i:Nat),∃l,ordS r=ordS (preS r i)++l
 |.root,_=>⟨[],rfl⟩
 |.node s b c im,i=>by
  unfold preS
  split
  ·exact⟨[],(List.append_nil _).symm⟩
  ·obtain⟨l,e⟩:=ordS_pre b i
   exact⟨l++[(c:Int)],by rw[←a2D,←e];rfl⟩
theorem imsE_pre (h:Hist):∀(r:SR) (i:Nat),∃l,imsE h r=imsE h (preS r i)++l
 |.root,_=>⟨[],rfl⟩
 |.node s b c im,i=>by
  unfold preS
  split
  ·exact⟨[],(List.append_nil _).symm⟩
  ·obtain⟨l,e⟩:=imsE_pre h b i
   exact⟨l++(match im with|none=>[]|some c=>[(h.nn,c.get)]),by rw[←a2D,←e];rfl⟩
structure StepS (h:Hist) (r:SR) (i:Nat) (s:St) (c:Nat) (im:Option C6):Prop where
 e:preS r (i+1)=.node s (preS r i) c im
 g:(SR.node s (preS r i) c im).Good h
 o:(ordS r).getD i 0=(c:Int)
 im:∀c6,im=some c6→(imsE h r).getD (imsE h (preS r i)).length ie0=(h.nn,c6.get)∧(imsE h (preS r i)).length<(imsE h r).length
theorem stepS {r:SR} (hr:r.Good h) {i:Nat} (hi:i<dep r):∃s c im,StepS h r i s c im:=by
 obtain⟨s,c,im,e⟩:=preS_succ hi
 have hg:=preS_good hr (i+1)
 rw[e] at hg
 refine⟨s,c,im,e,hg,?_,?_⟩
 ·obtain⟨l,q⟩:=ordS_pre r (i+1)
  have hl:(ordS (preS r i)).length=i:=by rw[ordS_len,preS_dep (Nat.le_of_lt hi)]
  rw[q,e]
  unfold ordS
  rw[a2D,a0A,a0R (by omega),hl,Nat.sub_self]
  rfl
 ·rintro c6 rfl
  obtain⟨l,q⟩:=imsE_pre h r (i+1)
  rw[e] at q
  have e2:imsE h (.node s (preS r i) c (some c6))=imsE h (preS r i)++[(h.nn,c6.get)]:=rfl
  rw[e2,a2D] at q
  rw[q]
  refine⟨?_,by simp⟩
  rw[a0A,a0R (a0U _),Nat.sub_self]
  rfl
theorem imsE_node {r:SR} {i:Nat} {s:St} {c:Nat} {im:Option C6} (e:preS r (i+1)=.node s (preS r i) c im):(imsE h (preS r (i+1))).length=(imsE h (preS r i)).length+(if im=none then 0 else 1):=by
 rw[e]
 cases im with
 |none=>exact congrArg List.length (List.append_nil _)
 |some c6=>exact a0F ..
def fromS:SR→Nat
 |.root=>0
 |.node _ b _ none=>fromS b
 |.node _ b _ (some _)=>dep b+1
theorem fromS_le:∀r:SR,fromS r≤dep r
 |.root=>a0U _
 |.node _ b _ none=>Nat.le_succ_of_le (fromS_le b)
 |.node _ _ _ (some _)=>a0U _
theorem fromS_node {r:SR} {i:Nat} {s:St} {c:Nat} {im:Option C6} (hi:i<dep r) (e:preS r (i+1)=.node s (preS r i) c im):fromS (preS r (i+1))=if im=none then fromS (preS r i) else i+1:=by
 rw[e]
 cases im with
 |none=>rfl
 |some c6=>
  change dep (preS r i)+1=i+1
  rw[preS_dep (Nat.le_of_lt hi)]
theorem seg_eq {o:List Int}:∀{r:SR},r.Good h→(∀j,j<dep r→o.getD j 0=(ordS r).getD j 0)→segL h o (fromS r) (dep r-fromS r)=(r.st h).O.map (fun x:Nat=>(x:Int))∧∀j,fromS r≤j→j<dep r→(h.at' (o.getD j 0).toNat).k≠9
 |.root,_,_=>⟨rfl,fun j _ q=>by cases q⟩
 |.node s b c im,hr,he=>by
  obtain⟨hb,hc,hm,hs⟩:=hr
  have hlen:(ordS b).length=dep b:=ordS_len b
  have hlast:o.getD (dep b) 0=(c:Int):=by
   rw[he (dep b) (Nat.lt_succ_self _)]
   unfold ordS
   rw[a0A,a0R (by omega),hlen,Nat.sub_self]
   rfl
  rcases hs with⟨h9,rfl,hf,rfl⟩|⟨h9,c6,rfl,hp,rfl⟩
  ·have ih:=seg_eq (o:=o) hb (fun j hj=>by
    have e9:ordS (.node (h.doO (b.st h) c) b c none)=ordS b++[(c:Int)]:=rfl
    rw[he j (Nat.lt_succ_of_lt hj),e9]
    rw[a0A,a0A,a0E (by omega)])
   have hle:=fromS_le b
   have e1:fromS (.node (h.doO (b.st h) c) b c none)=fromS b:=rfl
   have e2:dep (.node (h.doO (b.st h) c) b c none)=dep b+1:=rfl
   rw[e1,e2]
   refine⟨?_,fun j h1 h2=>?_⟩
   ·rw[show dep b+1-fromS b=(dep b-fromS b)+1 by omega]
    unfold segL
    rw[ih.1,show fromS b+(dep b-fromS b)=dep b by omega,hlast,a1N]
    change _=((h.doO (b.st h) c).O).map _
    unfold Hist.doO
    dsimp only
    split
    ·rw[a1L];rfl
    ·exact List.append_nil _
   ·rcases a0J (show j≤dep b by omega) with q|rfl
    ·exact ih.2 j h1 q
    ·rw[hlast,a1N];exact h9
  ·have e1:fromS (.node (h.fall (b.st h) c (C6.first c6 h.nn)) b c (some c6))=dep b+1:=rfl
   have e2:dep (.node (h.fall (b.st h) c (C6.first c6 h.nn)) b c (some c6))=dep b+1:=rfl
   rw[e1,e2,Nat.sub_self]
   exact⟨rfl,fun j h1 h2=>by omega⟩
theorem seg_at {r:SR} (hr:r.Good h) {i:Nat} (hi:i≤dep r):segL h (ordS r) (fromS (preS r i)) (i-fromS (preS r i))=((preS r i).st h).O.map (fun x:Nat=>(x:Int))∧∀j,fromS (preS r i)≤j→j<i→(h.at' ((ordS r).getD j 0).toNat).k≠9:=by
 have hd:=preS_dep hi
 have:=seg_eq (o:=ordS r) (preS_good hr i) (fun j hj=>by
  obtain⟨l,e⟩:=ordS_pre r i
  rw[e,a0A,a0A,a0E (by rw[ordS_len];exact hj)])
 rwa [hd] at this
theorem ordS_ok:∀{r:SR},r.Good h→∀x∈ordS r,∃c:Nat,x=c∧c<h.l.length∧(r.st h).D.testBit c=true∧∀j,j<h.l.length→(r.st h).D.testBit j=false→(h.at' j).t≠-1→¬(h.at' j).t<(h.at' c).f
 |.root,_,x,hx=>(List.not_mem_nil hx).elim
 |.node s b c im,hr,x,hx=>by
  obtain⟨hb,hc,hm,hs⟩:=hr
  have hD:s.D=(b.st h).D ||| 1 <<< c:=by
   rcases hs with⟨_,_,_,rfl⟩|⟨_,_,_,_,rfl⟩<;>rfl
  change ∃y:Nat,x=y∧y<h.l.length∧s.D.testBit y=true∧∀j,j<h.l.length→s.D.testBit j=false→_
  rw[hD]
  unfold ordS at hx
  rcases a0M.1 hx with q|q
  ·obtain⟨y,e,h1,h2,h3⟩:=ordS_ok hb x q
   refine⟨y,e,h1,by rw[Hist.bit_or,h2];rfl,fun j hj h4=>h3 j hj ?_⟩
   rw[Hist.bit_or] at h4
   exact(Bool.or_eq_false_iff.1 h4).1
  ·rw[a0L] at q
   refine⟨c,q,hc,by rw[Hist.bit_or];simp,fun j hj h4=>?_⟩
   rw[Hist.bit_or] at h4
   exact(hm.2 j hj).1 (Bool.or_eq_false_iff.1 h4).1
theorem ordS_in {r:SR} (hr:r.Good h) {i:Nat} (hi:i<dep r):0≤(ordS r).getD i 0∧(ordS r).getD i 0<h.l.length:=by
 obtain⟨s,c,im,g⟩:=stepS hr hi
 have:=g.g.2.1
 rw[g.o]
 omega
theorem ordS_two {r:SR} (hr:r.Good h) {i k:Nat} (hi:i<dep r) (hk:k<i):(ordS r).getD k 0≠(ordS r).getD i 0∧¬((h.at' ((ordS r).getD i 0).toNat).t≠-1∧(h.at' ((ordS r).getD i 0).toNat).t<(h.at' ((ordS r).getD k 0).toNat).f):=by
 obtain⟨s,c,im,g⟩:=stepS hr hi
 obtain⟨hb,hc,hm,_⟩:=g.g
 have hx:(ordS r).getD k 0∈ordS (preS r i):=by
  obtain⟨l,e⟩:=ordS_pre r i
  have hl:k<(ordS (preS r i)).length:=by rw[ordS_len,preS_dep (Nat.le_of_lt hi)];exact hk
  rw[e,a0A,a0E hl,a0D hl]
  exact a1F hl
 obtain⟨y,e,h1,h2,h3⟩:=ordS_ok hb _ hx
 rw[e,g.o,a1N,a1N]
 refine⟨fun q=>?_,fun q=>h3 c hc hm.1 q.1 q.2⟩
 have q:y=c:=Int.ofNat.inj q
 rw[q,hm.1] at h2
 cases h2
def atF (v n:Int) (k:Nat):Int:=if 0≤v∧v<k then v else n
def okV (O:List Nat) (v:Int):Prop:=(v=-1∨v=-2)∨∃k:Nat,k<O.length∧v=k
theorem num_neg {O:List Nat} {v:Int} (h:v<0):num O v=v:=if_pos h
theorem cast_get (O:List Nat) {k:Nat} (hk:k<O.length):(O.map fun x:Nat=>(x:Int)).getD k 0=(O.getD k 0:Nat):=by
 simp[a0A,hk]
theorem num_at {O:List Nat} {k:Nat}:num O (k:Int)=(O.getD k 0:Nat):=by
 unfold num
 rw[if_neg (by omega),a1N]
theorem atF_yes {O:List Nat} (hd:O.Nodup) {v:Int} (hv:okV O v) {k:Nat} (hk:k<O.length) (e:(O.map fun x:Nat=>(x:Int)).getD k 0=num O v):atF v (num O v) (k+1)=k:=by
 rw[cast_get O hk] at e
 rcases hv with q|⟨j,hj,rfl⟩
 ·rw[num_neg (by omega)] at e
  omega
 ·rw[num_at] at e
  have:k=j:=getD_inj hd hk hj (Int.ofNat.inj e)
  subst this
  exact if_pos ⟨by omega,by omega⟩
theorem atF_no {O:List Nat} {v:Int} (hv:okV O v) {k:Nat} (hk:k<O.length) (e:¬(O.map fun x:Nat=>(x:Int)).getD k 0=num O v):atF v (num O v) (k+1)=atF v (num O v) k:=by
 rw[cast_get O hk] at e
 rcases hv with q|⟨j,hj,rfl⟩
 ·unfold atF
  rw[if_neg (by omega),if_neg (by omega)]
 ·have:k≠j:=fun u=>e (by rw[u,num_at])
  unfold atF
  by_cases u:j<k
  ·rw[if_pos ⟨by omega,by omega⟩,if_pos ⟨by omega,by omega⟩]
  ·rw[if_neg (by omega),if_neg (by omega)]
theorem atF_zero (v n:Int):atF v n 0=n:=if_neg (by omega)
theorem atF_end {O:List Nat} {v:Int} (hv:okV O v):atF v (num O v) O.length=v:=by
 unfold atF
 rcases hv with q|⟨j,hj,rfl⟩
 ·rw[if_neg (by omega),num_neg (by omega)]
 ·rw[if_pos ⟨by omega,by omega⟩]
theorem okV_get {O:List Nat} {v:Int} (hv:okV O v) (hn:0≤num O v):0≤v∧v<O.length∧(O.map fun x:Nat=>(x:Int)).getD v.toNat 0=num O v:=by
 rcases hv with q|⟨j,hj,rfl⟩
 ·rw[num_neg (by omega)] at hn
  omega
 ·rw[a1N,cast_get O hj,num_at]
  exact⟨by omega,by omega,rfl⟩
theorem fall_img (gh:h.Ok) {q:SR} (hq:q.Good h) {c:C6} (hp:PosN h (q.st h).O c):∃c0,PosI (h.cache (q.st h).O) c0∧∀b,b<h.nn→c.get b=num (q.st h).O (c0.get b)∧((c0.get b=-1∨c0.get b=-2)∨∃k:Nat,k<(q.st h).O.length∧c0.get b=k∧okAt (h.cache (q.st h).O) b (c0.get b)):=by
 have inv:=Hist.Rea.inv gh (SR.Good.rea gh hq)
 have hc:=gh.cache inv
 have h6:=gh.nn
 obtain⟨c0,hp0,rfl⟩:=(posN_iff hc c).1 hp
 refine⟨c0,hp0,fun b hb=>⟨C6.ren_get _ _ (by omega),?_⟩⟩
 have hl:(h.cache (q.st h).O).l.length=(q.st h).O.length:=a2M ..
 rcases hp0.holds hc (show b<6 by omega) with q|q|⟨k,h1,q2,h3,h4⟩
 ·exact .inl (.inr q)
 ·exact .inl (.inl q)
 ·refine .inr ⟨k,by omega,q2,.inr (.inr ?_)⟩
  rw[q2,a1N]
  exact⟨by omega,h3,h4⟩
structure FallX (h:Hist) (A:List Int) (B:List IE) (a f i:Nat) (O:List Nat) (c c0:C6):Prop where
 fl:f<B.length
 im:B.getD f ie0=(h.nn,c.get)
 seg:segL h A a (i-a)=O.map (fun x:Nat=>(x:Int))
 no:∀j,a≤j→j<i→(h.at' (A.getD j 0).toNat).k≠9
 ok:(h.cache O).Ok
 nd:O.Nodup
 len:O.length≤h.l.length
 pos:PosI (h.cache O) c0
 ren:∀b,b<h.nn→c.get b=num O (c0.get b)∧((c0.get b=-1∨c0.get b=-2)∨∃k:Nat,k<O.length∧c0.get b=k∧okAt (h.cache O) b (c0.get b))
structure ExF (h:Hist) (A:List Int) (B:List IE) (fr fl:Nat→Nat):Prop where
 len:A.length≤h.l.length
 lenB:B.length≤A.length
 ok:∀i,i<A.length→0≤A.getD i 0∧A.getD i 0<h.l.length
 two:∀i,i<A.length→∀k,k<i→A.getD k 0≠A.getD i 0∧¬((h.at' (A.getD i 0).toNat).t≠-1∧(h.at' (A.getD i 0).toNat).t<(h.at' (A.getD k 0).toNat).f)
 z:fr 0=0∧fl 0=0
 le:∀i,i≤A.length→fr i≤i∧fl i≤i
 cmd:∀i,i<A.length→(h.at' (A.getD i 0).toNat).k≠9→fr (i+1)=fr i∧fl (i+1)=fl i
 fall:∀i,i<A.length→(h.at' (A.getD i 0).toNat).k=9→(fr (i+1)=i+1∧fl (i+1)=fl i+1)∧∃O c c0,FallX h A B (fr i) (fl i) i O c c0
 fin:fl A.length=B.length
theorem exF (gh:h.Ok) {r:SR} (hr:r.Good h):∃fr fl,ExF h (ordS r) (imsE h r) fr fl:=by
 have ho:=ordS_len r
 refine⟨fun i=>fromS (preS r i),fun i=>(imsE h (preS r i)).length,?_⟩
 have nof:∀q:SR,(imsE h q).length≤dep q:=by
  intro q
  induction q with
  |root=>exact a0U _
  |node s b c im ih=>
   cases im with
   |none=>
    have e:imsE h (.node s b c none)=imsE h b:=List.append_nil _
    rw[e]
    exact Nat.le_succ_of_le ih
   |some c6=>
    have e:imsE h (.node s b c (some c6))=imsE h b++[(h.nn,c6.get)]:=rfl
    rw[e,a0F]
    exact Nat.succ_le_succ ih
 have kd:∀i s c im,StepS h r i s c im→(((h.at' ((ordS r).getD i 0).toNat).k≠9→im=none)∧((h.at' ((ordS r).getD i 0).toNat).k=9→∃c6,im=some c6∧PosN h ((preS r i).st h).O c6)):=by
  intro i s c im g
  rw[g.o,a1N]
  obtain⟨hb,hc,hm,hs⟩:=g.g
  rcases hs with⟨h9,e,_,_⟩|⟨h9,c6,e,hp,_⟩
  ·exact⟨fun _=>e,fun q=>absurd q h9⟩
  ·exact⟨fun q=>absurd h9 q,fun _=>⟨c6,e,hp⟩⟩
 refine⟨?_,?_,?_,?_,?_,?_,?_,?_,?_⟩
 ·rw[ho];exact dep_le gh hr
 ·rw[ho];exact nof r
 ·intro i hi
  exact ordS_in hr (by omega)
 ·intro i hi k hk
  exact ordS_two hr (by omega) hk
 ·rw[preS_zero]
  exact⟨rfl,rfl⟩
 ·intro i hi
  have e:=preS_dep (r:=r) (i:=i) (by omega)
  have h1:=fromS_le (preS r i)
  have h2:=nof (preS r i)
  omega
 ·intro i hi h9
  obtain⟨s,c,im,g⟩:=stepS hr (i:=i) (by omega)
  have e:=(kd i s c im g).1 h9
  subst e
  exact⟨fromS_node (by omega) g.e,imsE_node g.e⟩
 ·intro i hi h9
  obtain⟨s,c,im,g⟩:=stepS hr (i:=i) (by omega)
  obtain⟨c6,e,hp⟩:=(kd i s c im g).2 h9
  subst e
  refine⟨⟨fromS_node (by omega) g.e,imsE_node g.e⟩,?_⟩
  have hq:=g.g.1
  have inv:=Hist.Rea.inv gh (SR.Good.rea gh hq)
  obtain⟨c0,h1,h2⟩:=fall_img gh hq hp
  have h3:=seg_at hr (i:=i) (by omega)
  refine⟨((preS r i).st h).O,c6,c0,(g.im c6 rfl).2,(g.im c6 rfl).1,h3.1,h3.2,gh.cache inv,inv.nd,?_,h1,h2⟩
  have:=a1O inv.nd (l₂:=List.range h.l.length) (fun i hi'=>a1D.2 (inv.O i hi').1)
  simpa using this
 ·rw[ho,preS_full (a0U _)]
theorem ordL_cast (h:Hist) (O:List Nat):ordL h (O.map (fun x:Nat=>(x:Int)))=(h.cache O).l:=by
 unfold ordL Hist.cache
 rw[List.map_map]
 exact List.map_congr_left fun x _=>rfl
def imgX (h:Hist) (c0:C6):List Int:=(List.range h.nn).map c0.get
theorem imgX_len (h:Hist) (c0:C6):(imgX h c0).length=h.nn:=by unfold imgX;simp
theorem imgX_get {h:Hist} {c0:C6} {b:Nat} (hb:b<h.nn):(imgX h c0).getD b 0=c0.get b:=by
 unfold imgX
 simp[a0A,hb]
theorem possX (gh:h.Ok) (h2:h.n≤2) (h6:h.l.length≤6) {A:List Int} {B:List IE} {a f i:Nat} {O:List Nat} {c c0:C6} (g:FallX h A B a f i O c c0) :
  a0q Tryz.prog 32 false [(h.cache O).v,.sl 1 (imgX h c0).length (a0u intC 0 (imgX h c0))] (·=.tup [.prop True inferInstance,.int .i64 0]):=by
 have hnn:=gh.nn
 have hl:(h.cache O).l.length=O.length:=a2M ..
 have hOl:=g.len
 have hk:(h.cache O).chk=0:=if_pos g.ok
 have hi:IsImg (h.cache O) (imgX h c0):=by
  rw[IsImg,imgX_len]
  refine⟨hnn.1,fun b hb=>?_⟩
  rw[imgX_get hb]
  rcases(g.ren b hb).2 with q|⟨k,_,_,q⟩
  ·unfold okAt
   rcases q with q|q
   ·exact .inl q
   ·exact .inr (.inl q)
  ·exact q
 have hp:IsPos (h.cache O) (imgX h c0):=⟨c0,g.pos,fun b hb=>by rw[imgX_len] at hb;rw[imgX_get hb]⟩
 refine(Possible21 (h.cache O) (by omega) (fun _=>⟨g.ok,Int.le_trans h2 (by omega),by omega⟩) (imgX h c0) (by rw[imgX_len];omega)).mono fun v hv=>?_
 cases hv with
 |chk q=>exact absurd hk q
 |img _ q=>exact absurd hi q
 |pos _ _=>rw[prop_true hp]
theorem explainX (h:Hist) (hn:h.Near) (g:h.Ok):a0q Tryz.prog 30 true [h.w] (fun v=>v=.tup [.lit (.slice none 0 0),.lit (.slice none 0 0),.int .i64 3]∨∃A B fr fl,ExF h A B fr fl∧v=.tup [.sl 1 A.length (a0u intC 0 A),.sl 1 B.length (a0u lC ie0 B),.int .i64 0]):=by
 refine(explain30 h hn).mono fun v hv=>?_
 obtain⟨h1,h2⟩:=hv.2 g
 by_cases hL:h.Legal
 ·obtain⟨r,hr,_,e⟩:=h2 hL
  obtain⟨fr,fl,hx⟩:=exF g hr
  exact .inr ⟨_,_,fr,fl,hx,e⟩
 ·exact .inl (h1 hL)
end Ho
end Go.Proofs
namespace Go.Proofs
open Go Go.Sx
set_option maxRecDepth 100000
set_option maxHeartbeats 40000000
namespace Ho
theorem explained8 (h:Hist) (hl:h.l.length≤9223372036854775807):a0q Tryz.prog 8 false [h.w] (·=.prop True inferInstance):=by
 refine a0c Tryz.E_ok Tryz.func8 rfl (by kernel_rfl) ?_
 (repeat' ((conv=>whnf);first|(with_reducible first|apply spl|apply spl'|refine iJ ?_)<;>intro hc<;>try(exfalso;omega)|refine vcq ?_|refine dr 15 ?_|refine dr 2018 ?_|refine dr 10 ?_|refine dr 14 ?_));all_goals(try conv=>whnf);try exact trivial
 refine a0d (valid7 h hl) rfl ?_
 rintro _ rfl
 (repeat' ((conv=>whnf);first|(with_reducible first|apply spl|apply spl'|refine iJ ?_)<;>intro hc<;>try(exfalso;omega)|refine vcq ?_|refine dr 15 ?_|refine dr 2018 ?_|refine dr 10 ?_|refine dr 14 ?_));all_goals(try conv=>whnf);try exact trivial
 ·refine a0d works8 rfl ?_
  rintro _ rfl
  (repeat' ((conv=>whnf);first|(with_reducible first|apply spl|apply spl'|refine iJ ?_)<;>intro hc<;>try(exfalso;omega)|refine vcq ?_|refine dr 15 ?_|refine dr 2018 ?_|refine dr 10 ?_|refine dr 14 ?_));all_goals(try conv=>whnf);try exact trivial
  refine⟨_,rfl,?_⟩
  exact⟨a1R,trivial⟩
 ·obtain⟨hn,g⟩:=a0T.1 hc
  obtain⟨h2,h6⟩:=hn.2 g
  have hnn:=g.nn
  have hn6:=g.n
  clear hc
  refine a0d (explainX h hn g) rfl ?_
  rintro v (rfl|⟨A,B,fr,fl,hx,rfl⟩)
  ·(repeat' ((conv=>whnf);first|(with_reducible first|apply spl|apply spl'|refine iJ ?_)<;>intro hc<;>try(exfalso;omega)|refine vcq ?_|refine dr 15 ?_|refine dr 2018 ?_|refine dr 10 ?_|refine dr 14 ?_));all_goals(try conv=>whnf);try exact trivial
   refine a0d works8 rfl ?_
   rintro _ rfl
   (repeat' ((conv=>whnf);first|(with_reducible first|apply spl|apply spl'|refine iJ ?_)<;>intro hc<;>try(exfalso;omega)|refine vcq ?_|refine dr 15 ?_|refine dr 2018 ?_|refine dr 10 ?_|refine dr 14 ?_));all_goals(try conv=>whnf);try exact trivial
   refine⟨_,rfl,?_⟩
   exact⟨a1R,trivial⟩
  ·have hAl:=hx.len
   have hBl:=hx.lenB
   have hz:=hx.z
   (repeat' ((conv=>whnf);first|(with_reducible first|apply spl|apply spl'|refine iJ ?_)<;>intro hc<;>try(exfalso;omega)|refine vcq ?_|refine dr 15 ?_|refine dr 2018 ?_|refine dr 10 ?_|refine dr 14 ?_));all_goals(try conv=>whnf);try exact trivial
   refine⟨Nat,fun i=>i≤A.length,fun i=>A.length-i,fun i=>[(6,.int .i64 (i:Nat))]++anyS 22 23,fun _=>[],fun _=>[],0,⟨a2A _,some [some 0],?_⟩,?_⟩
   ·(repeat' ((conv=>whnf);first|(with_reducible first|apply spl|apply spl'|refine iJ ?_)<;>intro hc<;>try(exfalso;omega)|refine vcq ?_|refine dr 15 ?_|refine dr 2018 ?_|refine dr 10 ?_|refine dr 14 ?_));all_goals(try conv=>whnf);try exact trivial
   ·intro i hi
    have hi:i≤A.length:=hi
    have hti:((i:Nat):Int).toNat=i:=a1N i
    (repeat' ((conv=>whnf);first|(with_reducible first|apply spl|apply spl'|refine iJ ?_)<;>intro hc<;>try(exfalso;omega)|refine vcq ?_|refine dr 15 ?_|refine dr 2018 ?_|refine dr 10 ?_|refine dr 14 ?_));all_goals(try conv=>whnf);try exact trivial
    ·have:=hx.ok i (by omega)
     rw[hti] at hc
     omega
    ·have hiA:i<A.length:=by omega
     have hqi:=hx.ok i hiA
     clear hc
     refine⟨Nat,fun k=>k≤i,fun k=>i-k,fun k=>[(7,.int .i64 (k:Nat))]++anyS 22 49,fun _=>[],fun _=>[],0,⟨a2A _,some [some 0],?_⟩,?_⟩
     ·(repeat' ((conv=>whnf);first|(with_reducible first|apply spl|apply spl'|refine iJ ?_)<;>intro hc<;>try(exfalso;omega)|refine vcq ?_|refine dr 15 ?_|refine dr 2018 ?_|refine dr 10 ?_|refine dr 14 ?_));all_goals(try conv=>whnf);try exact trivial
     ·intro k hk
      have hk:k≤i:=hk
      have htk:((k:Nat):Int).toNat=k:=a1N k
      by_cases hki:k<i
      ·have hqk:=hx.ok k (by omega)
       have htw:=hx.two i hiA k hki
       (repeat' ((conv=>whnf);first|(with_reducible first|apply spl|apply spl'|refine iJ ?_)<;>intro hc<;>try(exfalso;omega)|refine vcq ?_|refine dr 15 ?_|refine dr 2018 ?_|refine dr 10 ?_|refine dr 14 ?_));all_goals(try conv=>whnf);try exact trivial
       rw[htk]
       refine⟨hqk,?_⟩
       (repeat' ((conv=>whnf);first|(with_reducible first|apply spl|apply spl'|refine iJ ?_)<;>intro hc<;>try(exfalso;omega)|refine vcq ?_|refine dr 15 ?_|refine dr 2018 ?_|refine dr 10 ?_|refine dr 14 ?_));all_goals(try conv=>whnf);try exact trivial
       rw[hti]
       refine⟨hqi,?_⟩
       (repeat' ((conv=>whnf);first|(with_reducible first|apply spl|apply spl'|refine iJ ?_)<;>intro hc<;>try(exfalso;omega)|refine vcq ?_|refine dr 15 ?_|refine dr 2018 ?_|refine dr 10 ?_|refine dr 14 ?_));all_goals(try conv=>whnf);try exact trivial
       ·rw[htk,hti] at hc
        rcases hc with q|q
        ·exact absurd q htw.1
        ·exact absurd q htw.2
       ·refine⟨k+1,⟨by dsimp only;omega,by dsimp only;omega⟩,some [some 0],?_⟩
        (repeat' ((conv=>whnf);first|(with_reducible first|apply spl|apply spl'|refine iJ ?_)<;>intro hc<;>try(exfalso;omega)|refine vcq ?_|refine dr 15 ?_|refine dr 2018 ?_|refine dr 10 ?_|refine dr 14 ?_));all_goals(try conv=>whnf);try exact trivial
      ·obtain rfl:k=i:=by omega
       (repeat' ((conv=>whnf);first|(with_reducible first|apply spl|apply spl'|refine iJ ?_)<;>intro hc<;>try(exfalso;omega)|refine vcq ?_|refine dr 15 ?_|refine dr 2018 ?_|refine dr 10 ?_|refine dr 14 ?_));all_goals(try conv=>whnf);try exact trivial
       refine⟨k+1,⟨by omega,by dsimp only;omega⟩,some [some 0],?_⟩
       (repeat' ((conv=>whnf);first|(with_reducible first|apply spl|apply spl'|refine iJ ?_)<;>intro hc<;>try(exfalso;omega)|refine vcq ?_|refine dr 15 ?_|refine dr 2018 ?_|refine dr 10 ?_|refine dr 14 ?_));all_goals(try conv=>whnf);try exact trivial
    ·have e:i=A.length:=by omega
     clear hc
     subst e
     refine⟨Nat,fun i=>i≤A.length,fun i=>A.length-i,fun i=>[(12,.int .i64 (i:Nat)),(10,.int .i64 (fl i:Nat)),(11,.int .i64 (fr i:Nat))]++anyS 6 4++anyS 22 86,fun _=>[],fun _=>[],0,⟨a2A _,some [some 0],?_⟩,?_⟩
     ·(repeat' ((conv=>whnf);first|(with_reducible first|apply spl|apply spl'|refine iJ ?_)<;>intro hc<;>try(exfalso;omega)|refine vcq ?_|refine dr 15 ?_|refine dr 2018 ?_|refine dr 10 ?_|refine dr 14 ?_));all_goals(try conv=>whnf);try exact trivial
     ·intro i hi
      have hi:i≤A.length:=hi
      have hti:((i:Nat):Int).toNat=i:=a1N i
      by_cases hiA:i<A.length
      ·have hq:=hx.ok i hiA
       have hle:=hx.le i hi
       have htf:((fl i:Nat):Int).toNat=fl i:=a1N _
       (repeat' ((conv=>whnf);first|(with_reducible first|apply spl|apply spl'|refine iJ ?_)<;>intro hc<;>try(exfalso;omega)|refine vcq ?_|refine dr 15 ?_|refine dr 2018 ?_|refine dr 10 ?_|refine dr 14 ?_));all_goals(try conv=>whnf);try exact trivial
       rw[hti]
       refine⟨hq,?_⟩
       (repeat' ((conv=>whnf);first|(with_reducible first|apply spl|apply spl'|refine iJ ?_)<;>intro hc<;>try(exfalso;omega)|refine vcq ?_|refine dr 15 ?_|refine dr 2018 ?_|refine dr 10 ?_|refine dr 14 ?_));all_goals(try conv=>whnf);try exact trivial
       ·refine⟨i+1,⟨by omega,by dsimp only;omega⟩,some [some 0],?_⟩
        have hcm:=hx.cmd i hiA hc
        (repeat' ((conv=>whnf);first|(with_reducible first|apply spl|apply spl'|refine iJ ?_)<;>intro hc<;>try(exfalso;omega)|refine vcq ?_|refine dr 15 ?_|refine dr 2018 ?_|refine dr 10 ?_|refine dr 14 ?_));all_goals(try conv=>whnf);try exact trivial
       ·rename_i hk
        obtain⟨hfl,O,c,c6,gx⟩:=hx.fall i hiA (a0T.1 hk)
        have hgl:=gx.fl
        exfalso
        rw[htf,gx.im] at hc
        dsimp only at hc
        omega
       ·rename_i hk
        obtain⟨hfl,O,c,c6,gx⟩:=hx.fall i hiA (a0T.1 hk)
        clear hc
        have hgl:=gx.fl
        have hOl:=gx.len
        have him1:(B.getD ((fl i:Nat):Int).toNat ie0).1=h.nn:=by rw[htf,gx.im]
        have him2:(B.getD ((fl i:Nat):Int).toNat ie0).2=c.get:=by rw[htf,gx.im]
        have ho:=orders31 h g A (by omega) (fr i) i hle.1 hiA (a0T.1 hk) hx.ok gx.no
        rw[gx.seg,ordL_cast] at ho
        have hll:(O.map (fun x:Nat=>(x:Int))).length=O.length:=a2M ..
        have hlc:(h.cache O).l.length=O.length:=a2M ..
        rw[hll] at ho
        refine a0d ho rfl ?_
        rintro _ rfl
        (repeat' ((conv=>whnf);first|(with_reducible first|apply spl|apply spl'|refine iJ ?_)<;>intro hc<;>try(exfalso;omega)|refine vcq ?_|refine dr 15 ?_|refine dr 2018 ?_|refine dr 10 ?_|refine dr 14 ?_));all_goals(try conv=>whnf);try exact trivial
        refine⟨Nat×List Int,fun q=>q.1≤h.nn∧q.2=(List.range q.1).map c6.get∧q.2.length=q.1,fun q=>h.nn-q.1,fun q=>[(16,.int .i64 (q.1:Nat)),(15,.osl 2 q.2.length)]++anyS 22 123,fun _=>[],fun q=>[.row 3 1 q.2.length (a0u intC 0 q.2) true],(0,[]),⟨⟨a2A _,rfl,rfl⟩,some [some 0,some 1,none],?_⟩,?_⟩
        ·(repeat' ((conv=>whnf);first|(with_reducible first|apply spl|apply spl'|refine iJ ?_)<;>intro hc<;>try(exfalso;omega)|refine vcq ?_|refine dr 15 ?_|refine dr 2018 ?_|refine dr 10 ?_|refine dr 14 ?_));all_goals(try conv=>whnf);try exact trivial
        ·rintro⟨b,L⟩ ⟨hb,hL,hLl⟩
         dsimp only at hb hL hLl
         have htb:((b:Nat):Int).toNat=b:=a1N b
         by_cases hbn:b<h.nn
         ·obtain⟨hr1,hr2⟩:=gx.ren b hbn
          have hv:okV O (c6.get b):=hr2.imp_right fun⟨k,a1,a2,_⟩=>⟨k,a1,a2⟩
          clear hr2
          generalize hvv:c6.get b=v at *
          (repeat' ((conv=>whnf);first|(with_reducible first|apply spl|apply spl'|refine iJ ?_)<;>intro hc<;>try(exfalso;omega)|refine vcq ?_|refine dr 15 ?_|refine dr 2018 ?_|refine dr 10 ?_|refine dr 14 ?_));all_goals(try conv=>whnf);try exact trivial
          dsimp only
          rw[him2,htb,hr1]
          have h0:=atF_zero v (num O v)
          refine⟨Nat,fun k=>k≤O.length,fun k=>O.length-k,fun k=>[(19,.int .i64 (k:Nat)),(18,.int .i64 (atF v (num O v) k))]++anyS 108 50,fun _=>[],fun _=>[],0,⟨a2A _,some [some 0,some 1,some 2],?_⟩,?_⟩
          ·(repeat' ((conv=>whnf);first|(with_reducible first|apply spl|apply spl'|refine iJ ?_)<;>intro hc<;>try(exfalso;omega)|refine vcq ?_|refine dr 15 ?_|refine dr 2018 ?_|refine dr 10 ?_|refine dr 14 ?_));all_goals(try conv=>whnf);try exact trivial
          ·clear h0
           intro k hk
           have hk:k≤O.length:=hk
           have htk:((k:Nat):Int).toNat=k:=a1N k
           by_cases hkO:k<O.length
           ·(repeat' ((conv=>whnf);first|(with_reducible first|apply spl|apply spl'|refine iJ ?_)<;>intro hc<;>try(exfalso;omega)|refine vcq ?_|refine dr 15 ?_|refine dr 2018 ?_|refine dr 10 ?_|refine dr 14 ?_));all_goals(try conv=>whnf);try exact trivial
            ·rw[htk] at hc
             have:=atF_yes gx.nd hv hkO hc
             clear hc
             refine⟨k+1,⟨by dsimp only;omega,by dsimp only;omega⟩,some [some 0,some 1,some 2],?_⟩
             (repeat' ((conv=>whnf);first|(with_reducible first|apply spl|apply spl'|refine iJ ?_)<;>intro hc<;>try(exfalso;omega)|refine vcq ?_|refine dr 15 ?_|refine dr 2018 ?_|refine dr 10 ?_|refine dr 14 ?_));all_goals(try conv=>whnf);try exact trivial
            ·rw[htk] at hc
             have:=atF_no hv hkO hc
             clear hc
             refine⟨k+1,⟨by dsimp only;omega,by dsimp only;omega⟩,some [some 0,some 1,some 2],?_⟩
             (repeat' ((conv=>whnf);first|(with_reducible first|apply spl|apply spl'|refine iJ ?_)<;>intro hc<;>try(exfalso;omega)|refine vcq ?_|refine dr 15 ?_|refine dr 2018 ?_|refine dr 10 ?_|refine dr 14 ?_));all_goals(try conv=>whnf);try exact trivial
           ·have ek:k=O.length:=by omega
            subst ek
            have hae:=atF_end hv
            have hg:=okV_get hv
            generalize num O v=n at *
            have hlL:(L++[v]).length=L.length+1:=by rw[a0F,a1A]
            (repeat' ((conv=>whnf);first|(with_reducible first|apply spl|apply spl'|refine iJ ?_)<;>intro hc<;>try(exfalso;omega)|refine vcq ?_|refine dr 15 ?_|refine dr 2018 ?_|refine dr 10 ?_|refine dr 14 ?_));all_goals(try conv=>whnf);try exact trivial
            ·exfalso
             rw[hae] at hc
             obtain⟨q1,q⟩:=hc
             have hg:=hg q1
             rcases q with q|q
             ·omega
             ·exact q hg.2.2
            ·clear hc hg
             rw[hae]
             clear hae
             refine⟨(b+1,L++[v]),⟨⟨by dsimp only;omega,by rw[hL,List.range_succ,List.map_append,←hvv];rfl,by dsimp only;omega⟩,by dsimp only;omega⟩,some [some 0,some 1,some 4],?_⟩
             (repeat' ((conv=>whnf);first|(with_reducible first|apply spl|apply spl'|refine iJ ?_)<;>intro hc<;>try(exfalso;omega)|refine vcq ?_|refine dr 15 ?_|refine dr 2018 ?_|refine dr 10 ?_|refine dr 14 ?_));all_goals(try conv=>whnf);try exact trivial
             refine⟨a2d (c:=intC) (a:=v) (l:=L) rfl (fun _ _=>rfl),?_⟩
             (repeat' ((conv=>whnf);first|(with_reducible first|apply spl|apply spl'|refine iJ ?_)<;>intro hc<;>try(exfalso;omega)|refine vcq ?_|refine dr 15 ?_|refine dr 2018 ?_|refine dr 10 ?_|refine dr 14 ?_));all_goals(try conv=>whnf);try exact trivial
         ·have e:b=h.nn:=by omega
          have eL:L=imgX h c6:=by rw[hL,e];rfl
          have hp:=possX g h2 h6 gx
          rw[←eL] at hp
          dsimp only
          (repeat' ((conv=>whnf);first|(with_reducible first|apply spl|apply spl'|refine iJ ?_)<;>intro hc<;>try(exfalso;omega)|refine vcq ?_|refine dr 15 ?_|refine dr 2018 ?_|refine dr 10 ?_|refine dr 14 ?_));all_goals(try conv=>whnf);try exact trivial
          refine callee_view hp ?_
          (repeat' ((conv=>whnf);first|(with_reducible first|apply spl|apply spl'|refine iJ ?_)<;>intro hc<;>try(exfalso;omega)|refine vcq ?_|refine dr 15 ?_|refine dr 2018 ?_|refine dr 10 ?_|refine dr 14 ?_));all_goals(try conv=>whnf);try exact trivial
          rintro _ rfl
          (repeat' ((conv=>whnf);first|(with_reducible first|apply spl|apply spl'|refine iJ ?_)<;>intro hc<;>try(exfalso;omega)|refine vcq ?_|refine dr 15 ?_|refine dr 2018 ?_|refine dr 10 ?_|refine dr 14 ?_));all_goals(try conv=>whnf);try exact trivial
          ·exact absurd hc (by simp)
          ·refine⟨i+1,⟨by omega,by omega⟩,some [some 0],?_⟩
           (repeat' ((conv=>whnf);first|(with_reducible first|apply spl|apply spl'|refine iJ ?_)<;>intro hc<;>try(exfalso;omega)|refine vcq ?_|refine dr 15 ?_|refine dr 2018 ?_|refine dr 10 ?_|refine dr 14 ?_));all_goals(try conv=>whnf);try exact trivial
      ·have e:i=A.length:=by omega
       subst e
       have hfin:=hx.fin
       (repeat' ((conv=>whnf);first|(with_reducible first|apply spl|apply spl'|refine iJ ?_)<;>intro hc<;>try(exfalso;omega)|refine vcq ?_|refine dr 15 ?_|refine dr 2018 ?_|refine dr 10 ?_|refine dr 14 ?_));all_goals(try conv=>whnf);try exact trivial
       refine a0d works8 rfl ?_
       rintro _ rfl
       (repeat' ((conv=>whnf);first|(with_reducible first|apply spl|apply spl'|refine iJ ?_)<;>intro hc<;>try(exfalso;omega)|refine vcq ?_|refine dr 15 ?_|refine dr 2018 ?_|refine dr 10 ?_|refine dr 14 ?_));all_goals(try conv=>whnf);try exact trivial
       refine⟨_,rfl,?_⟩
       exact⟨a1R,trivial⟩
end Ho
end Go.Proofs
