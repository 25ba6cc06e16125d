/- Own work: texts of the proof of a law (Gw86, Gw9, GwA0). No condition. -/
import Derived.Test.YtbdcjkcmpcdipaaGreatPart19
set_option linter.unusedVariables false
set_option linter.unusedSimpArgs false
namespace Go.Proofs
open Go Go.Sx
set_option maxRecDepth 100000
set_option maxHeartbeats 40000000
namespace Ho
theorem drE6 (f:Nat→Int) (L:Nat) (hL:L≤7) (hf:f 6=L) (hhi:6<L→∀b,2≤b→b<6→f (7+6*6+b)=-3) (g0 g:MG) (h1:6≤L) (h2:a2q f 6):(drainsA f L hL hf).1 g0 6 g:=by
 have hws:=fun b hb=>write73f f 6 b (by omega) hb
 rw[skV_at hf] at hws
 (repeat' ((conv=>whnf);first|(with_reducible first|apply spl|apply spl'|refine iJ ?_)<;>intro hc<;>try(exfalso;omega)|refine vcq ?_|refine dr 6 ?_));all_goals((try conv=>whnf);try exact trivial);(repeat' ((first|(refine a0d (a1b (-3)) rfl ?_;rintro _ rfl)|(refine a0f (a1b (-3)) rfl ?_)|(refine a0l (fun _=>a1b (-3)) rfl ?_));refine x8 (fun hc=>?_) (fun hc=>?_)))
 ·have h3:=a2v h2 hc
  refine⟨(7,g),⟨⟨by dsimp only;omega,h3⟩,by dsimp only;omega⟩,some [some 0,some 1],?_⟩
  exact xc2
 ·have hne:¬a2q f (6+1):=fun h=>hc (emptyD_at h)
  clear hc
  have hb2:f 45=-3:=hhi (by omega) 2 (by omega) (by omega)
  have hb3:f 46=-3:=hhi (by omega) 3 (by omega) (by omega)
  have hb4:f 47=-3:=hhi (by omega) 4 (by omega) (by omega)
  have hb5:f 48=-3:=hhi (by omega) 5 (by omega) (by omega)
  clear hhi
  refine⟨Nat×Nat×MG,fun q=>q.1≤6,fun q=>6-q.1,fun q=>[(24,.int .i64 (q.1:Nat))],fun q=>[(1,.map [.i64] false true (domD f 6 q.1) (valD f 6) q.2.1 q.2.2)],fun _=>[],(0,0,g),⟨by dsimp only;omega,some [some 0,some 1],?_⟩,?_⟩
  ·refine x0 ?_
   refine⟨a0a (fun k _=>⟨⟨fun h=>h.elim,fun⟨b',h,_⟩=>absurd h (by dsimp only;omega)⟩,fun h=>h.elim⟩),?_⟩
   exact xc2
  ·rintro⟨b,n,g1⟩ hb
   dsimp only at hb
   by_cases h6:b<6
   ·rcases six h6 with rfl|rfl|rfl|rfl|rfl|rfl
    ·refine x8 (fun hc hc=>?_) (fun hc hc=>?_)
     ·have hw:=hws 0 (by omega)
      refine a0e [2] hw rfl ?_ ?_
      ·exact xc2
      ·rintro _ _ ⟨rfl,rfl⟩
       refine x0 ?_
       intro g2
       refine x0 ?_
       refine⟨(1,nPut (domD f 6 0) n [((0:Nat):Int)],g2),⟨by dsimp only;omega,by dsimp only;omega⟩,some [some 0,some 1],?_⟩
       refine x0 ?_
       refine⟨a0a (fun k _=>⟨a2r hc k,fun _=>a2p⟩),?_⟩
       exact xc2
     ·refine⟨(1,n,g1),⟨by dsimp only;omega,by dsimp only;omega⟩,some [some 0,some 1],?_⟩
      refine x0 ?_
      refine⟨a0a (fun k _=>⟨a0h (a0T.1 hc) k,fun _=>rfl⟩),?_⟩
      exact xc2
    ·refine x8 (fun hc hc=>?_) (fun hc hc=>?_)
     ·have hw:=hws 1 (by omega)
      refine a0e [2] hw rfl ?_ ?_
      ·exact xc2
      ·rintro _ _ ⟨rfl,rfl⟩
       refine x0 ?_
       intro g2
       refine x0 ?_
       refine⟨(2,nPut (domD f 6 1) n [((1:Nat):Int)],g2),⟨by dsimp only;omega,by dsimp only;omega⟩,some [some 0,some 1],?_⟩
       refine x0 ?_
       refine⟨a0a (fun k _=>⟨a2r hc k,fun _=>a2p⟩),?_⟩
       exact xc2
     ·refine⟨(2,n,g1),⟨by dsimp only;omega,by dsimp only;omega⟩,some [some 0,some 1],?_⟩
      refine x0 ?_
      refine⟨a0a (fun k _=>⟨a0h (a0T.1 hc) k,fun _=>rfl⟩),?_⟩
      exact xc2
    ·refine x0 (fun hc hc=>?_)
     refine⟨(3,n,g1),⟨by dsimp only;omega,by dsimp only;omega⟩,some [some 0,some 1],?_⟩
     refine x0 ?_
     refine⟨a0a (fun k _=>⟨a0h hb2 k,fun _=>rfl⟩),?_⟩
     exact xc2
    ·refine x0 (fun hc hc=>?_)
     refine⟨(4,n,g1),⟨by dsimp only;omega,by dsimp only;omega⟩,some [some 0,some 1],?_⟩
     refine x0 ?_
     refine⟨a0a (fun k _=>⟨a0h hb3 k,fun _=>rfl⟩),?_⟩
     exact xc2
    ·refine x0 (fun hc hc=>?_)
     refine⟨(5,n,g1),⟨by dsimp only;omega,by dsimp only;omega⟩,some [some 0,some 1],?_⟩
     refine x0 ?_
     refine⟨a0a (fun k _=>⟨a0h hb4 k,fun _=>rfl⟩),?_⟩
     exact xc2
    ·refine x0 (fun hc hc=>?_)
     refine⟨(6,n,g1),⟨by dsimp only;omega,by dsimp only;omega⟩,some [some 0,some 1],?_⟩
     refine x0 ?_
     refine⟨a0a (fun k _=>⟨a0h hb5 k,fun _=>rfl⟩),?_⟩
     exact xc2
   ·obtain rfl:b=6:=by omega
    refine x0 (fun hc=>?_)
    refine⟨_,_,⟨rfl,⟨.inl ⟨6,n,g1,by omega,h2,hne,rfl⟩⟩⟩,some [some 1],?_⟩
    exact xc2
 ·have hLe:L=6:=by omega
  subst hLe
  refine⟨_,_,⟨rfl,⟨.inr ⟨g,h2,rfl⟩⟩⟩,some [some 1],?_⟩
  exact xc2
theorem drE7 (f:Nat→Int) (L:Nat) (hL:L≤7) (hf:f 6=L) (g0 g:MG) (h1:7≤L) (h2:a2q f 7):(drainsA f L hL hf).1 g0 7 g:=by
 obtain rfl:L=7:=by omega
 refine x1 (fun hc=>?_)
 refine⟨_,_,⟨rfl,⟨.inr ⟨g,h2,rfl⟩⟩⟩,some [some 1],?_⟩
 exact xc3
theorem drains52f (f:Nat→Int) (L:Nat) (hL:L≤7) (hf:f 6=L) (hhi:∀e b,e<7→2≤b→b<6→e<L→f (7+6*e+b)=-3):NewC Tryz.prog 87 [.agg (skVL L f)] (fun r H=>r=.map 0∧DrH f L H):=by
 refine(drainsA f L (by omega) hf).2 fun g0 e g h1 h2=>?_
 have:e=0∨e=1∨e=2∨e=3∨e=4∨e=5∨e=6∨e=7:=by omega
 rcases this with rfl|rfl|rfl|rfl|rfl|rfl|rfl|rfl
 ·exact drE0 f L (by omega) hf (fun h b hb hb6=>hhi 0 b (by omega) hb hb6 h) g0 g h1 h2
 ·exact drE1 f L (by omega) hf (fun h b hb hb6=>hhi 1 b (by omega) hb hb6 h) g0 g h1 h2
 ·exact drE2 f L (by omega) hf (fun h b hb hb6=>hhi 2 b (by omega) hb hb6 h) g0 g h1 h2
 ·exact drE3 f L (by omega) hf (fun h b hb hb6=>hhi 3 b (by omega) hb hb6 h) g0 g h1 h2
 ·exact drE4 f L (by omega) hf (fun h b hb hb6=>hhi 4 b (by omega) hb hb6 h) g0 g h1 h2
 ·exact drE5 f L (by omega) hf (fun h b hb hb6=>hhi 5 b (by omega) hb hb6 h) g0 g h1 h2
 ·exact drE6 f L (by omega) hf (fun h b hb hb6=>hhi 6 b (by omega) hb hb6 h) g0 g h1 h2
 ·exact drE7 f L (by omega) hf g0 g h1 h2
theorem emptyD_iff {u:PS} {e:Nat} (he:e≤u.E.length):a2q (skI u) e↔∀e',e'<e→u.ep e'=NO:=by
 constructor
 ·intro h e' h1
  refine C6.ext' fun b hb=>?_
  have:=h e' h1 b hb
  rw[skI_ep u (by omega) hb] at this
  rw[this]
  exact(C6.get_all hb).symm
 ·intro h e' h1 b hb
  rw[skI_ep u (by omega) hb,h e' h1]
  exact C6.get_all hb
theorem drains52 {P:PS→Prop} (hP:ShOk P) {u:PS} (hu:P u):NewC Tryz.prog 87 [.agg (skV (skI u))] (fun r H=>r=.map 0∧∃dom v n g,DrM u dom v∧H=[.map [.i64] false true dom (fun k=>skV (v k)) n g]):=by
 have hl:=hP.len u hu
 have h6:skI u 6=(u.E.length:Int):=skI_len u
 have h:=drains52f (skI u) u.E.length hl.2 h6 (fun e b he hb hb6 heL=>by rw[skI_ep u heL hb6];exact hP.hi u hu e b hb hb6)
 rw[←skV_at h6] at h
 refine h.mono ?_
 rintro r H ⟨rfl,⟨⟨e,n,g,he,h1,h2,rfl⟩|⟨g,h1,rfl⟩⟩⟩
 ·refine⟨rfl,domD (skI u) e 6,fun k i=>if i<73 then wrF (skI u) e (k.headD 0).toNat i else skI (u.drainU (k.headD 0).toNat) i,n,g,?_,?_⟩
  ·have hno:=(emptyD_iff (Nat.le_of_lt he)).1 h1
   have hne:∃b,b<6∧(u.ep e).get b≠-3:=by
    refine a1E fun hn=>h2 ?_
    refine a2v h1 ?_
    have key:∀b,b<6→skI u (7+6*e+b)=-3:=fun b hb=>by
     rw[skI_ep u he hb]
     exact a1E fun g=>hn ⟨b,hb,g⟩
    exact⟨key 0 (by omega),key 1 (by omega),key 2 (by omega),key 3 (by omega),key 4 (by omega),key 5 (by omega)⟩
   obtain⟨b0,hb0,hg0⟩:=hne
   have hidx:idxC isS u.E=e:=PS.idx_of hb0 hg0 hno
   have hcan:∀b,b<6→(u.can b↔(u.ep e).get b≠-3):=fun b hb=>by
    unfold PS.can
    rw[hidx,a1N]
    exact⟨fun g=>g.2,fun g=>⟨by omega,g⟩⟩
   refine⟨fun k=>?_,fun b hb hc=>?_⟩
   ·unfold domD
    constructor
    ·rintro⟨b,hb,rfl,h3⟩
     rw[skI_ep u he hb] at h3
     exact⟨b,hb,rfl,(hcan b hb).2 h3⟩
    ·rintro⟨b,hb,rfl,h3⟩
     refine⟨b,hb,rfl,?_⟩
     rw[skI_ep u he hb]
     exact(hcan b hb).1 h3
   ·have hd:u.drainU b=u.wr e b:=by unfold PS.drainU;rw[hidx,Int.toNat_natCast]
    funext i
    show(if i<73 then wrF (skI u) e ((b:Int)).toNat i else skI (u.drainU ((b:Int)).toNat) i)=_
    rw[a1N,hd]
    split
    ·rename_i hi;exact skI_wr u he hb i hi
    ·rfl
  ·have e:valD (skI u) e=fun k=>skV (fun i=>if i<73 then wrF (skI u) e (k.headD 0).toNat i else skI (u.drainU (k.headD 0).toNat) i):=by
    funext k
    exact skV_congr fun i hi=>by rw[if_pos hi]
   rw[e]
 ·refine⟨rfl,fun _=>False,fun k=>wrF (skI u) 0 (k.headD 0).toNat,0,g,?_,rfl⟩
  have hno:=(emptyD_iff (a0U _)).1 h1
  have hnc:∀b,¬u.can b:=by
   rintro b ⟨h3,_⟩
   rcases idxC_spec isS u.E with⟨h4,_⟩|⟨i,h4,h5,h6,_⟩
   ·omega
   ·have:u.ep i=NO:=hno i h5
    rw[a3j] at h6
    exact h6 this
  exact⟨fun k=>⟨fun h=>h.elim,fun⟨b,_,_,h⟩=>hnc b h⟩,fun b _ h=>absurd h (hnc b)⟩
end Ho
end Go.Proofs
