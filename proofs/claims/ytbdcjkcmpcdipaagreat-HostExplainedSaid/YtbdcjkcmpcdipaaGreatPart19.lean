/- Own work: texts of the proof of a law (Gw84, Gw85). No condition. -/
import Derived.Test.YtbdcjkcmpcdipaaGreatPart18
set_option linter.unusedVariables false
set_option linter.unusedSimpArgs false
namespace Go.Proofs
open Go Go.Sx
set_option maxRecDepth 100000
set_option maxHeartbeats 40000000
namespace Ho
theorem drE4 (f:Nat→Int) (L:Nat) (hL:L≤7) (hf:f 6=L) (hhi:4<L→∀b,2≤b→b<6→f (7+6*4+b)=-3) (g0 g:MG) (h1:4≤L) (h2:a2q f 4):(drainsA f L hL hf).1 g0 4 g:=by
 have hws:=fun b hb=>write73f f 4 b (by omega) hb
 rw[skV_at hf] at hws
 (repeat' ((conv=>whnf);first|(with_reducible first|apply spl|apply spl'|refine iJ ?_)<;>intro hc<;>try(exfalso;omega)|refine vcq ?_|refine dr 6 ?_));all_goals((try conv=>whnf);try exact trivial);(repeat' ((first|(refine a0d (a1b (-3)) rfl ?_;rintro _ rfl)|(refine a0f (a1b (-3)) rfl ?_)|(refine a0l (fun _=>a1b (-3)) rfl ?_));refine x8 (fun hc=>?_) (fun hc=>?_)))
 ·have h3:=a2v h2 hc
  refine⟨(5,g),⟨⟨by dsimp only;omega,h3⟩,by dsimp only;omega⟩,some [some 0,some 1],?_⟩
  exact xc2
 ·have hne:¬a2q f (4+1):=fun h=>hc (emptyD_at h)
  clear hc
  have hb2:f 33=-3:=hhi (by omega) 2 (by omega) (by omega)
  have hb3:f 34=-3:=hhi (by omega) 3 (by omega) (by omega)
  have hb4:f 35=-3:=hhi (by omega) 4 (by omega) (by omega)
  have hb5:f 36=-3:=hhi (by omega) 5 (by omega) (by omega)
  clear hhi
  refine⟨Nat×Nat×MG,fun q=>q.1≤6,fun q=>6-q.1,fun q=>[(24,.int .i64 (q.1:Nat))],fun q=>[(1,.map [.i64] false true (domD f 4 q.1) (valD f 4) q.2.1 q.2.2)],fun _=>[],(0,0,g),⟨by dsimp only;omega,some [some 0,some 1],?_⟩,?_⟩
  ·refine x0 ?_
   refine⟨a0a (fun k _=>⟨⟨fun h=>h.elim,fun⟨b',h,_⟩=>absurd h (by dsimp only;omega)⟩,fun h=>h.elim⟩),?_⟩
   exact xc2
  ·rintro⟨b,n,g1⟩ hb
   dsimp only at hb
   by_cases h6:b<6
   ·rcases six h6 with rfl|rfl|rfl|rfl|rfl|rfl
    ·refine x8 (fun hc hc=>?_) (fun hc hc=>?_)
     ·have hw:=hws 0 (by omega)
      refine a0e [2] hw rfl ?_ ?_
      ·exact xc2
      ·rintro _ _ ⟨rfl,rfl⟩
       refine x0 ?_
       intro g2
       refine x0 ?_
       refine⟨(1,nPut (domD f 4 0) n [((0:Nat):Int)],g2),⟨by dsimp only;omega,by dsimp only;omega⟩,some [some 0,some 1],?_⟩
       refine x0 ?_
       refine⟨a0a (fun k _=>⟨a2r hc k,fun _=>a2p⟩),?_⟩
       exact xc2
     ·refine⟨(1,n,g1),⟨by dsimp only;omega,by dsimp only;omega⟩,some [some 0,some 1],?_⟩
      refine x0 ?_
      refine⟨a0a (fun k _=>⟨a0h (a0T.1 hc) k,fun _=>rfl⟩),?_⟩
      exact xc2
    ·refine x8 (fun hc hc=>?_) (fun hc hc=>?_)
     ·have hw:=hws 1 (by omega)
      refine a0e [2] hw rfl ?_ ?_
      ·exact xc2
      ·rintro _ _ ⟨rfl,rfl⟩
       refine x0 ?_
       intro g2
       refine x0 ?_
       refine⟨(2,nPut (domD f 4 1) n [((1:Nat):Int)],g2),⟨by dsimp only;omega,by dsimp only;omega⟩,some [some 0,some 1],?_⟩
       refine x0 ?_
       refine⟨a0a (fun k _=>⟨a2r hc k,fun _=>a2p⟩),?_⟩
       exact xc2
     ·refine⟨(2,n,g1),⟨by dsimp only;omega,by dsimp only;omega⟩,some [some 0,some 1],?_⟩
      refine x0 ?_
      refine⟨a0a (fun k _=>⟨a0h (a0T.1 hc) k,fun _=>rfl⟩),?_⟩
      exact xc2
    ·refine x0 (fun hc hc=>?_)
     refine⟨(3,n,g1),⟨by dsimp only;omega,by dsimp only;omega⟩,some [some 0,some 1],?_⟩
     refine x0 ?_
     refine⟨a0a (fun k _=>⟨a0h hb2 k,fun _=>rfl⟩),?_⟩
     exact xc2
    ·refine x0 (fun hc hc=>?_)
     refine⟨(4,n,g1),⟨by dsimp only;omega,by dsimp only;omega⟩,some [some 0,some 1],?_⟩
     refine x0 ?_
     refine⟨a0a (fun k _=>⟨a0h hb3 k,fun _=>rfl⟩),?_⟩
     exact xc2
    ·refine x0 (fun hc hc=>?_)
     refine⟨(5,n,g1),⟨by dsimp only;omega,by dsimp only;omega⟩,some [some 0,some 1],?_⟩
     refine x0 ?_
     refine⟨a0a (fun k _=>⟨a0h hb4 k,fun _=>rfl⟩),?_⟩
     exact xc2
    ·refine x0 (fun hc hc=>?_)
     refine⟨(6,n,g1),⟨by dsimp only;omega,by dsimp only;omega⟩,some [some 0,some 1],?_⟩
     refine x0 ?_
     refine⟨a0a (fun k _=>⟨a0h hb5 k,fun _=>rfl⟩),?_⟩
     exact xc2
   ·obtain rfl:b=6:=by omega
    refine x0 (fun hc=>?_)
    refine⟨_,_,⟨rfl,⟨.inl ⟨4,n,g1,by omega,h2,hne,rfl⟩⟩⟩,some [some 1],?_⟩
    exact xc2
 ·have hLe:L=4:=by omega
  subst hLe
  refine⟨_,_,⟨rfl,⟨.inr ⟨g,h2,rfl⟩⟩⟩,some [some 1],?_⟩
  exact xc2
theorem drE5 (f:Nat→Int) (L:Nat) (hL:L≤7) (hf:f 6=L) (hhi:5<L→∀b,2≤b→b<6→f (7+6*5+b)=-3) (g0 g:MG) (h1:5≤L) (h2:a2q f 5):(drainsA f L hL hf).1 g0 5 g:=by
 have hws:=fun b hb=>write73f f 5 b (by omega) hb
 rw[skV_at hf] at hws
 (repeat' ((conv=>whnf);first|(with_reducible first|apply spl|apply spl'|refine iJ ?_)<;>intro hc<;>try(exfalso;omega)|refine vcq ?_|refine dr 6 ?_));all_goals((try conv=>whnf);try exact trivial);(repeat' ((first|(refine a0d (a1b (-3)) rfl ?_;rintro _ rfl)|(refine a0f (a1b (-3)) rfl ?_)|(refine a0l (fun _=>a1b (-3)) rfl ?_));refine x8 (fun hc=>?_) (fun hc=>?_)))
 ·have h3:=a2v h2 hc
  refine⟨(6,g),⟨⟨by dsimp only;omega,h3⟩,by dsimp only;omega⟩,some [some 0,some 1],?_⟩
  exact xc2
 ·have hne:¬a2q f (5+1):=fun h=>hc (emptyD_at h)
  clear hc
  have hb2:f 39=-3:=hhi (by omega) 2 (by omega) (by omega)
  have hb3:f 40=-3:=hhi (by omega) 3 (by omega) (by omega)
  have hb4:f 41=-3:=hhi (by omega) 4 (by omega) (by omega)
  have hb5:f 42=-3:=hhi (by omega) 5 (by omega) (by omega)
  clear hhi
  refine⟨Nat×Nat×MG,fun q=>q.1≤6,fun q=>6-q.1,fun q=>[(24,.int .i64 (q.1:Nat))],fun q=>[(1,.map [.i64] false true (domD f 5 q.1) (valD f 5) q.2.1 q.2.2)],fun _=>[],(0,0,g),⟨by dsimp only;omega,some [some 0,some 1],?_⟩,?_⟩
  ·refine x0 ?_
   refine⟨a0a (fun k _=>⟨⟨fun h=>h.elim,fun⟨b',h,_⟩=>absurd h (by dsimp only;omega)⟩,fun h=>h.elim⟩),?_⟩
   exact xc2
  ·rintro⟨b,n,g1⟩ hb
   dsimp only at hb
   by_cases h6:b<6
   ·rcases six h6 with rfl|rfl|rfl|rfl|rfl|rfl
    ·refine x8 (fun hc hc=>?_) (fun hc hc=>?_)
     ·have hw:=hws 0 (by omega)
      refine a0e [2] hw rfl ?_ ?_
      ·exact xc2
      ·rintro _ _ ⟨rfl,rfl⟩
       refine x0 ?_
       intro g2
       refine x0 ?_
       refine⟨(1,nPut (domD f 5 0) n [((0:Nat):Int)],g2),⟨by dsimp only;omega,by dsimp only;omega⟩,some [some 0,some 1],?_⟩
       refine x0 ?_
       refine⟨a0a (fun k _=>⟨a2r hc k,fun _=>a2p⟩),?_⟩
       exact xc2
     ·refine⟨(1,n,g1),⟨by dsimp only;omega,by dsimp only;omega⟩,some [some 0,some 1],?_⟩
      refine x0 ?_
      refine⟨a0a (fun k _=>⟨a0h (a0T.1 hc) k,fun _=>rfl⟩),?_⟩
      exact xc2
    ·refine x8 (fun hc hc=>?_) (fun hc hc=>?_)
     ·have hw:=hws 1 (by omega)
      refine a0e [2] hw rfl ?_ ?_
      ·exact xc2
      ·rintro _ _ ⟨rfl,rfl⟩
       refine x0 ?_
       intro g2
       refine x0 ?_
       refine⟨(2,nPut (domD f 5 1) n [((1:Nat):Int)],g2),⟨by dsimp only;omega,by dsimp only;omega⟩,some [some 0,some 1],?_⟩
       refine x0 ?_
       refine⟨a0a (fun k _=>⟨a2r hc k,fun _=>a2p⟩),?_⟩
       exact xc2
     ·refine⟨(2,n,g1),⟨by dsimp only;omega,by dsimp only;omega⟩,some [some 0,some 1],?_⟩
      refine x0 ?_
      refine⟨a0a (fun k _=>⟨a0h (a0T.1 hc) k,fun _=>rfl⟩),?_⟩
      exact xc2
    ·refine x0 (fun hc hc=>?_)
     refine⟨(3,n,g1),⟨by dsimp only;omega,by dsimp only;omega⟩,some [some 0,some 1],?_⟩
     refine x0 ?_
     refine⟨a0a (fun k _=>⟨a0h hb2 k,fun _=>rfl⟩),?_⟩
     exact xc2
    ·refine x0 (fun hc hc=>?_)
     refine⟨(4,n,g1),⟨by dsimp only;omega,by dsimp only;omega⟩,some [some 0,some 1],?_⟩
     refine x0 ?_
     refine⟨a0a (fun k _=>⟨a0h hb3 k,fun _=>rfl⟩),?_⟩
     exact xc2
    ·refine x0 (fun hc hc=>?_)
     refine⟨(5,n,g1),⟨by dsimp only;omega,by dsimp only;omega⟩,some [some 0,some 1],?_⟩
     refine x0 ?_
     refine⟨a0a (fun k _=>⟨a0h hb4 k,fun _=>rfl⟩),?_⟩
     exact xc2
    ·refine x0 (fun hc hc=>?_)
     refine⟨(6,n,g1),⟨by dsimp only;omega,by dsimp only;omega⟩,some [some 0,some 1],?_⟩
     refine x0 ?_
     refine⟨a0a (fun k _=>⟨a0h hb5 k,fun _=>rfl⟩),?_⟩
     exact xc2
   ·obtain rfl:b=6:=by omega
    refine x0 (fun hc=>?_)
    refine⟨_,_,⟨rfl,⟨.inl ⟨5,n,g1,by omega,h2,hne,rfl⟩⟩⟩,some [some 1],?_⟩
    exact xc2
 ·have hLe:L=5:=by omega
  subst hLe
  refine⟨_,_,⟨rfl,⟨.inr ⟨g,h2,rfl⟩⟩⟩,some [some 1],?_⟩
  exact xc2
end Ho
end Go.Proofs
