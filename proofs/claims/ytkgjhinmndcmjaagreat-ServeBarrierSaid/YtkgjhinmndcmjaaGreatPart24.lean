/- Own work: texts of the proof of a law (Wp9). No condition. -/
import Derived.Test.YtkgjhinmndcmjaaGreatPart23
import Derived.Test.YtkgjhinmndcmjaaGreatPart0
import Derived.Test.YtkgjhinmndcmjaaGreatPart11
set_option linter.unusedVariables false
set_option linter.unusedSimpArgs false
namespace Go.Proofs.Ca
open Go Go.Sx
set_option maxRecDepth 100000
set_option maxHeartbeats 40000000
theorem images56s (x:Cache) (hx:x.Ok):a0g Tryz.prog 116 true [x.v] (fun r=>∃L:List Img,Imgs x L∧r=.sl 9 L.length (a0e imC Img.none L)):=
 images56 x hx hx.n.2 (fun k s D h=>rch_good hx k s D h) (fun k l h1 h2=>rch_capW hx hx.len k l h1 h2)
theorem equal73 (c:C6) (n:Nat) (hn:n≤6) (l:List Int) (hll:l.length≤1000000):a0g Tryz.prog 117 false [.sl 1 n (fun b=>[.int .i64 (c.get b)]),.sl 1 l.length (a0e intC 0 l)] (·=.prop (n=l.length∧Eqs c l) (Classical.propDecidable _)):=by
 refine a0a Tryz.E_ok Tryz.func117 rfl (by kernel_rfl) ?_
 refine x30 (fun hc=>?_) (fun hc=>?_)
 ·refine⟨_,rfl,?_⟩
  exact xc4
 ·have hnl:n=l.length:=by omega
  refine⟨Nat,fun i=>i≤n∧∀b,b<i→c.get b=l.getD b 0,fun i=>n-i,fun i=>[(13,.int .i64 (i:Nat))],fun _=>[],fun _=>[],0,⟨⟨by omega,fun b hb=>by omega⟩,none,?_⟩,?_⟩
  ·exact xc4
  ·rintro i ⟨h1,h2⟩
   have hti:(i:Int).toNat=i:=a0E i
   refine x57 (fun hc hc=>?_) (fun hc hc=>?_) (fun hc=>?_)
   ·refine⟨_,rfl,?_⟩
    refine x2 ?_
    refine⟨fun h=>?_,trivial⟩
    rw[hti] at hc
    exact hc (h.2 i (by omega))
   ·rw[hti] at hc
    refine⟨i+1,⟨⟨by omega,fun b hb=>?_⟩,by dsimp only;omega⟩,none,?_⟩
    ·rcases a0I (show b≤i by omega) with h|rfl
     ·exact h2 b h
     ·exact a0O.1 hc
    ·exact xc4
   ·refine⟨_,rfl,?_⟩
    refine x2 ?_
    exact⟨⟨hnl,fun b hb=>h2 b (by omega)⟩,trivial⟩
theorem find55 (x:Cache) (hl:x.l.length≤1000000) (hs:x.chk=0→x.Ok) (l:List Int) (hll:l.length≤1000000):a0g Tryz.prog 79 true [x.v,.sl 1 l.length (a0e intC 0 l)] (Found x l):=by
 refine a0a Tryz.E_ok Tryz.func79 rfl (by kernel_rfl) ?_
 refine x2 ?_;(repeat' ((first|(refine a0b (check36 x hl) rfl ?_;rintro _ rfl)|(refine a0d (check36 x hl) rfl ?_)|(refine a0h (fun _=>check36 x hl) rfl ?_));refine x57 (fun hc=>?_) (fun hc hc=>?_) (fun hc hc=>?_)))
 ·exact⟨_,.chk hc,by exact xc4⟩
 ·rename_i hk
  have hk:=a0O.1 hk
  exact⟨_,.img hk (fun h=>hc h.1),by exact xc4⟩
 ·rename_i hk
  have hk:x.chk=0:=a0O.1 hk
  have hln:(l.length:Int)=x.n:=a0O.1 hc
  have hx:=hs hk
  have hn:=hx.n
  have hx16:=hx.len
  have hx3:=hx.n.2
  refine⟨Nat,fun i=>i≤l.length∧∀b,b<i→okAt x b (l.getD b 0),fun i=>l.length-i,fun i=>[(26,.int .i64 (i:Nat))],fun _=>[],fun _=>[],0,⟨⟨by omega,fun b hb=>by omega⟩,none,?_⟩,?_⟩
  ·exact xc4
  ·rintro i ⟨h1,h2⟩
   have hti:(i:Int).toNat=i:=a0E i
   (repeat' ((conv=>whnf);first|(with_reducible first|apply spl|apply spl'|refine iJ ?_)<;>intro hc<;>try(exfalso;omega)|refine vcq ?_|refine dr 9 ?_));all_goals((try conv=>whnf);try exact trivial);(repeat' ((first|(refine a0b (within51 _ _ _) rfl ?_;rintro _ rfl)|(refine a0d (within51 _ _ _) rfl ?_)|(refine a0h (fun _=>within51 _ _ _) rfl ?_)|(refine a0b (puts62 _) rfl ?_;rintro _ rfl)|(refine a0d (puts62 _) rfl ?_)|(refine a0h (fun _=>puts62 _) rfl ?_));refine x30 (fun hc=>?_) (fun hc=>?_)))
   ·have hi:i<l.length:=by omega
    rw[hti] at *
    refine⟨_,.img hk (fun h=>?_),by exact xc4⟩
    have h3:=h.2 i hi
    unfold okAt at h3
    have q2:l.getD i 0≠-1∧l.getD i 0≠-2:=by assumption
    rcases h3 with h3|h3|⟨_,h4,h5⟩
    ·exact q2.1 h3
    ·exact q2.2 h3
    ·rcases hc with hc|hc
     ·exact hc h4
     ·exact hc h5
   ·have hi:i<l.length:=by omega
    refine⟨i+1,⟨⟨by omega,fun b hb=>?_⟩,by dsimp only;omega⟩,none,?_⟩
    ·rcases a0I (show b≤i by omega) with g|rfl
     ·exact h2 b g
     ·rw[hti] at *
      have q1:¬¬(0≤l.getD b 0∧l.getD b 0≤x.l.length-1):=by assumption
      exact .inr (.inr ⟨a0O.1 q1,a0O.1 (fun g=>hc (.inl g)),a0O.1 (fun g=>hc (.inr g))⟩)
    ·exact xc4
   ·have hi:i<l.length:=by omega
    rw[hti] at *
    refine⟨_,.img hk (fun h=>?_),by exact xc4⟩
    have h3:=h.2 i hi
    unfold okAt at h3
    have q1:l.getD i 0≠-1∧l.getD i 0≠-2:=by assumption
    rcases h3 with h3|h3|⟨h4,_⟩
    ·exact q1.1 h3
    ·exact q1.2 h3
    ·exact hc h4
   ·have hi:i<l.length:=by omega
    refine⟨i+1,⟨⟨by omega,fun b hb=>?_⟩,by dsimp only;omega⟩,none,?_⟩
    ·rcases a0I (show b≤i by omega) with g|rfl
     ·exact h2 b g
     ·rw[hti] at hc
      unfold okAt
      by_cases g:l.getD b 0=-1
      ·exact .inl g
      ·exact .inr (.inl (a0Q fun g2=>hc ⟨g,g2⟩))
    ·exact xc4
   ·have hii:i=l.length:=by omega
    subst hii
    have himg:IsImg x l:=⟨hln,h2⟩
    refine a0b (images56s x hx) rfl ?_
    rintro _ ⟨L,hL,rfl⟩
    have hLl:=hL.len
    refine x2 ?_
    refine⟨Nat,fun j=>j≤L.length∧∀q,q<j→¬Eqs (L.getD q Img.none).h l,fun j=>L.length-j,fun j=>[(70,.int .i64 (j:Nat))],fun _=>[],fun _=>[],0,⟨⟨by omega,fun q hq=>by omega⟩,none,?_⟩,?_⟩
    ·exact xc4
    ·rintro j ⟨g1,g2⟩
     have htj:(j:Int).toNat=j:=a0E j
     refine x30 (fun hc=>?_) (fun hc=>?_)
     ·have hj:j<L.length:=by omega
      have e:L.getD j Img.none=L[j]:=by simp[a0A,hj]
      have hok:ImgOk x (L.getD j Img.none):=by rw[e];exact hL.ok _ (a0N hj)
      refine a0u (equal73 (L.getD j Img.none).h x.n.toNat (by omega) l hll) ?_
      refine x2 ?_
      rw[htj]
      refine⟨fun b hb=>?_,?_⟩
      ·have:b=0∨b=1∨b=2∨b=3∨b=4∨b=5:=by omega
       rcases this with rfl|rfl|rfl|rfl|rfl|rfl<;>exact⟨rfl,rfl⟩
      refine x2 ?_
      rintro _ rfl
      refine x30 (fun hc=>?_) (fun hc=>?_)
      ·exact⟨_,.some _ hk himg hok hc.2,by exact xc4⟩
      ·have hne:¬Eqs (L.getD j Img.none).h l:=fun h=>hc ⟨by omega,h⟩
       refine⟨j+1,⟨⟨by omega,fun q hq=>?_⟩,by dsimp only;omega⟩,some [some 0,some 1],?_⟩
       ·rcases a0I (show q≤j by omega) with g|rfl
        ·exact g2 q g
        ·exact hne
       ·exact xc4
     ·refine⟨_,.none hk himg ?_,by exact xc4⟩
      rintro⟨c,h3,h4⟩
      obtain⟨im,h5,rfl⟩:=(hL.pos hx _).2 h3
      obtain⟨q,hq,rfl⟩:=a1A h5
      have e:L.getD q Img.none=L[q]:=by simp[a0A,hq]
      exact g2 q (by omega) (e▸h4)
theorem Possible21 (x:Cache) (hl:x.l.length≤1000000) (hs:x.chk=0→x.Ok) (l:List Int) (hll:l.length≤1000000):a0g Tryz.prog 39 false [x.v,.sl 1 l.length (a0e intC 0 l)] (PosR x l):=by
 refine a0a Tryz.E_ok Tryz.func39 rfl (by kernel_rfl) ?_
 refine x1 ?_
 refine a0b (find55 x hl hs l hll) rfl ?_
 intro r hr
 cases hr with
 |chk h1=>
  refine x1 ?_
  exact⟨_,.chk h1,by exact xc0⟩
 |img h1 h2=>
  refine x1 ?_
  exact⟨_,.img h1 h2,by exact xc0⟩
 |none h1 h2 h3=>
  refine x1 ?_
  refine⟨_,.pos h1 h2,?_⟩
  refine x1 ?_
  refine⟨h3,?_⟩
  exact xc0
 |some im h1 h2 h3 h4=>
  refine x1 ?_
  refine⟨_,.pos h1 h2,?_⟩
  refine x1 ?_
  refine⟨⟨_,h3.pos,h4⟩,?_⟩
  exact xc0
end Go.Proofs.Ca
