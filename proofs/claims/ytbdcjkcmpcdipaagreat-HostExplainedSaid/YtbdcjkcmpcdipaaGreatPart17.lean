/- Own work: texts of the proof of a law (Gw80, Gw81). No condition. -/
import Derived.Test.YtbdcjkcmpcdipaaGreatPart16
set_option linter.unusedVariables false
set_option linter.unusedSimpArgs false
namespace Go.Proofs
open Go Go.Sx
set_option maxRecDepth 100000
set_option maxHeartbeats 40000000
namespace Ho
theorem drE0 (f:Nat→Int) (L:Nat) (hL:L≤7) (hf:f 6=L) (hhi:0<L→∀b,2≤b→b<6→f (7+6*0+b)=-3) (g0 g:MG) (h1:0≤L) (h2:a2q f 0):(drainsA f L hL hf).1 g0 0 g:=by
 have hws:=fun b hb=>write73f f 0 b (by omega) hb
 rw[skV_at hf] at hws
 (repeat' ((conv=>whnf);first|(with_reducible first|apply spl|apply spl'|refine iJ ?_)<;>intro hc<;>try(exfalso;omega)|refine vcq ?_|refine dr 6 ?_));all_goals((try conv=>whnf);try exact trivial);(repeat' ((first|(refine a0d (a1b (-3)) rfl ?_;rintro _ rfl)|(refine a0f (a1b (-3)) rfl ?_)|(refine a0l (fun _=>a1b (-3)) rfl ?_));refine x8 (fun hc=>?_) (fun hc=>?_)))
 ·have h3:=a2v h2 hc
  refine⟨(1,g),⟨⟨by dsimp only;omega,h3⟩,by dsimp only;omega⟩,some [some 0,some 1],?_⟩
  exact xc2
 ·have hne:¬a2q f (0+1):=fun h=>hc (emptyD_at h)
  clear hc
  have hb2:f 9=-3:=hhi (by omega) 2 (by omega) (by omega)
  have hb3:f 10=-3:=hhi (by omega) 3 (by omega) (by omega)
  have hb4:f 11=-3:=hhi (by omega) 4 (by omega) (by omega)
  have hb5:f 12=-3:=hhi (by omega) 5 (by omega) (by omega)
  clear hhi
  refine⟨Nat×Nat×MG,fun q=>q.1≤6,fun q=>6-q.1,fun q=>[(24,.int .i64 (q.1:Nat))],fun q=>[(1,.map [.i64] false true (domD f 0 q.1) (valD f 0) q.2.1 q.2.2)],fun _=>[],(0,0,g),⟨by dsimp only;omega,some [some 0,some 1],?_⟩,?_⟩
  ·refine x0 ?_
   refine⟨a0a (fun k _=>⟨⟨fun h=>h.elim,fun⟨b',h,_⟩=>absurd h (by dsimp only;omega)⟩,fun h=>h.elim⟩),?_⟩
   exact xc2
  ·rintro⟨b,n,g1⟩ hb
   dsimp only at hb
   by_cases h6:b<6
   ·rcases six h6 with rfl|rfl|rfl|rfl|rfl|rfl
    ·refine x8 (fun hc hc=>?_) (fun hc hc=>?_)
     ·have hw:=hws 0 (by omega)
      refine a0e [2] hw rfl ?_ ?_
      ·exact xc2
      ·rintro _ _ ⟨rfl,rfl⟩
       refine x0 ?_
       intro g2
       refine x0 ?_
       refine⟨(1,nPut (domD f 0 0) n [((0:Nat):Int)],g2),⟨by dsimp only;omega,by dsimp only;omega⟩,some [some 0,some 1],?_⟩
       refine x0 ?_
       refine⟨a0a (fun k _=>⟨a2r hc k,fun _=>a2p⟩),?_⟩
       exact xc2
     ·refine⟨(1,n,g1),⟨by dsimp only;omega,by dsimp only;omega⟩,some [some 0,some 1],?_⟩
      refine x0 ?_
      refine⟨a0a (fun k _=>⟨a0h (a0T.1 hc) k,fun _=>rfl⟩),?_⟩
      exact xc2
    ·refine x8 (fun hc hc=>?_) (fun hc hc=>?_)
     ·have hw:=hws 1 (by omega)
      refine a0e [2] hw rfl ?_ ?_
      ·exact xc2
      ·rintro _ _ ⟨rfl,rfl⟩
       refine x0 ?_
       intro g2
       refine x0 ?_
       refine⟨(2,nPut (domD f 0 1) n [((1:Nat):Int)],g2),⟨by dsimp only;omega,by dsimp only;omega⟩,some [some 0,some 1],?_⟩
       refine x0 ?_
       refine⟨a0a (fun k _=>⟨a2r hc k,fun _=>a2p⟩),?_⟩
       exact xc2
     ·refine⟨(2,n,g1),⟨by dsimp only;omega,by dsimp only;omega⟩,some [some 0,some 1],?_⟩
      refine x0 ?_
      refine⟨a0a (fun k _=>⟨a0h (a0T.1 hc) k,fun _=>rfl⟩),?_⟩
      exact xc2
    ·refine x0 (fun hc hc=>?_)
     refine⟨(3,n,g1),⟨by dsimp only;omega,by dsimp only;omega⟩,some [some 0,some 1],?_⟩
     refine x0 ?_
     refine⟨a0a (fun k _=>⟨a0h hb2 k,fun _=>rfl⟩),?_⟩
     exact xc2
    ·refine x0 (fun hc hc=>?_)
     refine⟨(4,n,g1),⟨by dsimp only;omega,by dsimp only;omega⟩,some [some 0,some 1],?_⟩
     refine x0 ?_
     refine⟨a0a (fun k _=>⟨a0h hb3 k,fun _=>rfl⟩),?_⟩
     exact xc2
    ·refine x0 (fun hc hc=>?_)
     refine⟨(5,n,g1),⟨by dsimp only;omega,by dsimp only;omega⟩,some [some 0,some 1],?_⟩
     refine x0 ?_
     refine⟨a0a (fun k _=>⟨a0h hb4 k,fun _=>rfl⟩),?_⟩
     exact xc2
    ·refine x0 (fun hc hc=>?_)
     refine⟨(6,n,g1),⟨by dsimp only;omega,by dsimp only;omega⟩,some [some 0,some 1],?_⟩
     refine x0 ?_
     refine⟨a0a (fun k _=>⟨a0h hb5 k,fun _=>rfl⟩),?_⟩
     exact xc2
   ·obtain rfl:b=6:=by omega
    refine x0 (fun hc=>?_)
    refine⟨_,_,⟨rfl,⟨.inl ⟨0,n,g1,by omega,h2,hne,rfl⟩⟩⟩,some [some 1],?_⟩
    exact xc2
 ·have hLe:L=0:=by omega
  subst hLe
  refine⟨_,_,⟨rfl,⟨.inr ⟨g,h2,rfl⟩⟩⟩,some [some 1],?_⟩
  exact xc2
theorem drE1 (f:Nat→Int) (L:Nat) (hL:L≤7) (hf:f 6=L) (hhi:1<L→∀b,2≤b→b<6→f (7+6*1+b)=-3) (g0 g:MG) (h1:1≤L) (h2:a2q f 1):(drainsA f L hL hf).1 g0 1 g:=by
 have hws:=fun b hb=>write73f f 1 b (by omega) hb
 rw[skV_at hf] at hws
 (repeat' ((conv=>whnf);first|(with_reducible first|apply spl|apply spl'|refine iJ ?_)<;>intro hc<;>try(exfalso;omega)|refine vcq ?_|refine dr 6 ?_));all_goals((try conv=>whnf);try exact trivial);(repeat' ((first|(refine a0d (a1b (-3)) rfl ?_;rintro _ rfl)|(refine a0f (a1b (-3)) rfl ?_)|(refine a0l (fun _=>a1b (-3)) rfl ?_));refine x8 (fun hc=>?_) (fun hc=>?_)))
 ·have h3:=a2v h2 hc
  refine⟨(2,g),⟨⟨by dsimp only;omega,h3⟩,by dsimp only;omega⟩,some [some 0,some 1],?_⟩
  exact xc2
 ·have hne:¬a2q f (1+1):=fun h=>hc (emptyD_at h)
  clear hc
  have hb2:f 15=-3:=hhi (by omega) 2 (by omega) (by omega)
  have hb3:f 16=-3:=hhi (by omega) 3 (by omega) (by omega)
  have hb4:f 17=-3:=hhi (by omega) 4 (by omega) (by omega)
  have hb5:f 18=-3:=hhi (by omega) 5 (by omega) (by omega)
  clear hhi
  refine⟨Nat×Nat×MG,fun q=>q.1≤6,fun q=>6-q.1,fun q=>[(24,.int .i64 (q.1:Nat))],fun q=>[(1,.map [.i64] false true (domD f 1 q.1) (valD f 1) q.2.1 q.2.2)],fun _=>[],(0,0,g),⟨by dsimp only;omega,some [some 0,some 1],?_⟩,?_⟩
  ·refine x0 ?_
   refine⟨a0a (fun k _=>⟨⟨fun h=>h.elim,fun⟨b',h,_⟩=>absurd h (by dsimp only;omega)⟩,fun h=>h.elim⟩),?_⟩
   exact xc2
  ·rintro⟨b,n,g1⟩ hb
   dsimp only at hb
   by_cases h6:b<6
   ·rcases six h6 with rfl|rfl|rfl|rfl|rfl|rfl
    ·refine x8 (fun hc hc=>?_) (fun hc hc=>?_)
     ·have hw:=hws 0 (by omega)
      refine a0e [2] hw rfl ?_ ?_
      ·exact xc2
      ·rintro _ _ ⟨rfl,rfl⟩
       refine x0 ?_
       intro g2
       refine x0 ?_
       refine⟨(1,nPut (domD f 1 0) n [((0:Nat):Int)],g2),⟨by dsimp only;omega,by dsimp only;omega⟩,some [some 0,some 1],?_⟩
       refine x0 ?_
       refine⟨a0a (fun k _=>⟨a2r hc k,fun _=>a2p⟩),?_⟩
       exact xc2
     ·refine⟨(1,n,g1),⟨by dsimp only;omega,by dsimp only;omega⟩,some [some 0,some 1],?_⟩
      refine x0 ?_
      refine⟨a0a (fun k _=>⟨a0h (a0T.1 hc) k,fun _=>rfl⟩),?_⟩
      exact xc2
    ·refine x8 (fun hc hc=>?_) (fun hc hc=>?_)
     ·have hw:=hws 1 (by omega)
      refine a0e [2] hw rfl ?_ ?_
      ·exact xc2
      ·rintro _ _ ⟨rfl,rfl⟩
       refine x0 ?_
       intro g2
       refine x0 ?_
       refine⟨(2,nPut (domD f 1 1) n [((1:Nat):Int)],g2),⟨by dsimp only;omega,by dsimp only;omega⟩,some [some 0,some 1],?_⟩
       refine x0 ?_
       refine⟨a0a (fun k _=>⟨a2r hc k,fun _=>a2p⟩),?_⟩
       exact xc2
     ·refine⟨(2,n,g1),⟨by dsimp only;omega,by dsimp only;omega⟩,some [some 0,some 1],?_⟩
      refine x0 ?_
      refine⟨a0a (fun k _=>⟨a0h (a0T.1 hc) k,fun _=>rfl⟩),?_⟩
      exact xc2
    ·refine x0 (fun hc hc=>?_)
     refine⟨(3,n,g1),⟨by dsimp only;omega,by dsimp only;omega⟩,some [some 0,some 1],?_⟩
     refine x0 ?_
     refine⟨a0a (fun k _=>⟨a0h hb2 k,fun _=>rfl⟩),?_⟩
     exact xc2
    ·refine x0 (fun hc hc=>?_)
     refine⟨(4,n,g1),⟨by dsimp only;omega,by dsimp only;omega⟩,some [some 0,some 1],?_⟩
     refine x0 ?_
     refine⟨a0a (fun k _=>⟨a0h hb3 k,fun _=>rfl⟩),?_⟩
     exact xc2
    ·refine x0 (fun hc hc=>?_)
     refine⟨(5,n,g1),⟨by dsimp only;omega,by dsimp only;omega⟩,some [some 0,some 1],?_⟩
     refine x0 ?_
     refine⟨a0a (fun k _=>⟨a0h hb4 k,fun _=>rfl⟩),?_⟩
     exact xc2
    ·refine x0 (fun hc hc=>?_)
     refine⟨(6,n,g1),⟨by dsimp only;omega,by dsimp only;omega⟩,some [some 0,some 1],?_⟩
     refine x0 ?_
     refine⟨a0a (fun k _=>⟨a0h hb5 k,fun _=>rfl⟩),?_⟩
     exact xc2
   ·obtain rfl:b=6:=by omega
    refine x0 (fun hc=>?_)
    refine⟨_,_,⟨rfl,⟨.inl ⟨1,n,g1,by omega,h2,hne,rfl⟩⟩⟩,some [some 1],?_⟩
    exact xc2
 ·have hLe:L=1:=by omega
  subst hLe
  refine⟨_,_,⟨rfl,⟨.inr ⟨g,h2,rfl⟩⟩⟩,some [some 1],?_⟩
  exact xc2
end Ho
end Go.Proofs
