/- Own work: texts of the proof of a law (Ws8). No condition. -/
import Derived.Test.YtkgjhinmndcmjaaGreatPart25
import Derived.Test.YtkgjhinmndcmjaaGreatPart0
import Derived.Test.YtkgjhinmndcmjaaGreatPart11
set_option linter.unusedVariables false
set_option linter.unusedSimpArgs false
namespace Go.Proofs
open Go Go.Sx
set_option maxRecDepth 100000
set_option maxHeartbeats 40000000
open Ca (Wt ltK putM)
theorem keepW_all (p:Wt→Prop) [DecidablePred p] (W:List Wt) (M:Nat→Int):a0i p W W.length=W.filter (fun w=>!decide (p w))∧medW p W M W.length=(W.filter fun w=>decide (p w)).foldl putM M:=by
 unfold a0i medW
 rw[a2M]
 refine⟨List.filter_congr fun w _=>?_,congrArg (fun l=>List.foldl putM M l) (List.filter_congr fun w _=>?_)⟩<;>by_cases h:p w<;>simp[h]
theorem Sv.rnd1 {s:Sv} (hx:s.x.Ok) {i:Nat} (hi:i<s.x.l.length) {b:Nat} (ho:s.x.l.getD i (0,0)=(1,(b:Int))) (hb:b<s.n) {L:List Wt} (hL:PutL ((s.at i).ents s.n) ((s.at i).E.length-1,b,(i:Int)) L):(s.at (i+1)).ents s.n=L∧(s.at (i+1)).M=(s.at i).M∧(s.at (i+1)).E.length=(s.at i).E.length:=by
 have h1:=Sv.put_ents hx (Nat.le_of_lt hi) hb hL
 have h2:=(Ca.RS.order_ents (n:=s.n) (s:=s.at i) (Sv.at_small hx (Nat.le_of_lt hi)).1.1 (k:=i) (o:=(1,(b:Int))) (fun _=>by dsimp only;omega)).1 rfl
 dsimp only[Int.toNat_natCast] at h2
 rw[Sv.step hx hi ho,h2]
 refine⟨h1,rfl,?_⟩
 unfold Ca.RS.setE
 exact a2H ..
theorem Sv.rnd2 {s:Sv} (hx:s.x.Ok) {i:Nat} (hi:i<s.x.l.length) {b:Nat} (ho:s.x.l.getD i (0,0)=(2,(b:Int))) (hb:b<s.n) {L:List Wt} (hL:PutL ((s.at i).ents s.n) ((s.at i).E.length-1,b,(i:Int)) L):(s.at (i+1)).ents s.n=a0i (pF ((s.at i).E.length-1) b) L L.length∧(s.at (i+1)).M=medW (pF ((s.at i).E.length-1) b) L (s.at i).M L.length∧(s.at (i+1)).E.length=(s.at i).E.length:=by
 have h1:=Sv.put_ents hx (Nat.le_of_lt hi) hb hL
 have h2:=(Ca.RS.order_ents (n:=s.n) (s:=s.at i) (Sv.at_small hx (Nat.le_of_lt hi)).1.1 (k:=i) (o:=(2,(b:Int))) (fun _=>by dsimp only;omega)).2.1 rfl
 dsimp only[Int.toNat_natCast] at h2
 rw[h1] at h2
 have h3:=@keepW_all (pF ((s.at i).E.length-1) b) (fun w=>inferInstanceAs (Decidable (_∨_))) L (s.at i).M
 rw[Sv.step hx hi ho,h3.1,h3.2]
 exact h2
theorem Sv.rnd3 {s:Sv} (hx:s.x.Ok) {i:Nat} (hi:i<s.x.l.length) {b:Int} (ho:s.x.l.getD i (0,0)=(3,b)):(s.at (i+1)).ents s.n=(s.at i).ents s.n∧(s.at (i+1)).M=(s.at i).M∧(s.at (i+1)).E.length=(s.at i).E.length+1:=by
 have h2:=(Ca.RS.order_ents (n:=s.n) (s:=s.at i) (Sv.at_small hx (Nat.le_of_lt hi)).1.1 (k:=i) (o:=(3,b)) (fun h=>by dsimp only at h;omega)).2.2.1 rfl
 rw[Sv.step hx hi ho]
 exact h2
theorem Sv.rnd4 {s:Sv} (hx:s.x.Ok) {i:Nat} (hi:i<s.x.l.length) {b:Int} (ho:s.x.l.getD i (0,0)=(4,b)):(s.at (i+1)).ents s.n=a0i pA ((s.at i).ents s.n) ((s.at i).ents s.n).length∧(s.at (i+1)).M=medW pA ((s.at i).ents s.n) (s.at i).M ((s.at i).ents s.n).length∧(s.at (i+1)).E.length=(s.at i).E.length:=by
 have h2:=(Ca.RS.order_ents (n:=s.n) (s:=s.at i) (Sv.at_small hx (Nat.le_of_lt hi)).1.1 (k:=i) (o:=(4,b)) (fun h=>by dsimp only at h;omega)).2.2.2 rfl
 have h3:=@keepW_all pA (fun w=>inferInstanceAs (Decidable True)) ((s.at i).ents s.n) (s.at i).M
 rw[Sv.step hx hi ho,h3.1,h3.2]
 refine⟨h2.1.trans (by unfold pA;simp),h2.2.1.trans ?_,h2.2.2⟩
 unfold pA
 have e:∀l:List Wt,l.filter (fun _=>true)=l:=fun l=>a4B.2 fun _ _=>rfl
 simp only[decide_true,e]
theorem PutL.len {W:List Wt} {w:Wt} {L:List Wt} (hW:W.length≤102) (h:PutL W w L):L.length≤1000:=by
 obtain⟨a,m,c,rfl,_,_,_,rfl⟩:=h
 simp only[a0M,a2R] at hW ⊢
 omega
theorem PutL.mem {W:List Wt} {e b n:Nat} {k:Int} {L:List Wt} (hb:b<n) (hW:∀w∈W,w.2.1<n) (h:PutL W (e,b,k) L):∀w∈L,w.2.1<n:=by
 obtain⟨a,m,c,rfl,_,_,_,rfl⟩:=h
 intro w hw
 simp only[a0U,a0Z] at hw hW
 rcases hw with hw|rfl|hw
 ·exact hW w (.inl (.inl hw))
 ·exact hb
 ·exact hW w (.inr hw)
theorem wait86 (s:Sv) (hx:s.x.Ok):Sx.Callee Tryz.prog 86 [.ptr 0 0] [.cells 107 s.o0,.row 3 1 s.n (mdC (fun _=>-1)) false]
  (fun v H=>v=.tup []∧∃nz,H=[.cells 107 (s.o 2 s.W.length 1),.row 3 1 s.n (mdC s.st.M) false,.row 59 3 s.W.length (a0e wtC wt0 s.W) nz]):=by
 have hxl:=hx.len
 refine a0k Tryz.E_ok Tryz.func86 rfl (by kernel_rfl) ?_
 refine x1 ?_
 refine⟨Nat×Bool,fun q=>q.1≤s.x.l.length,fun q=>s.x.l.length-q.1,fun q=>[(15,.int .i64 (q.1:Nat)),(4,.any),(5,.any),(6,.any),(16,.any),(17,.any),(18,.any),(19,.any),(20,.any),(21,.any),(22,.any),(23,.any),(24,.any),(25,.any),(26,.any),(27,.any),(28,.any),(29,.any),(30,.any),(31,.any),(32,.any),(33,.any),(34,.any),(35,.any),(36,.any),(37,.any),(38,.any),(39,.any),(40,.any),(41,.any),(42,.any),(43,.any),(44,.any),(45,.any),(46,.any),(47,.any)],fun q=>[(0,.cells 107 (s.o 4 ((s.at q.1).ents s.n).length 1)),(1,.row 3 1 s.n (mdC (s.at q.1).M) false),(3,.cells 3 [.int .i64 ((s.at q.1).E.length-1:Nat)])],fun q=>[.row 59 3 ((s.at q.1).ents s.n).length (a0e wtC wt0 ((s.at q.1).ents s.n)) q.2],(0,true),⟨by dsimp only;omega,some [some 0,some 1,some 2,some 3,none],?_⟩,?_⟩
 ·dsimp only
  have e0:(s.at 0).ents s.n=[]:=by
   refine a2P.2 fun w hw=>?_
   have hw:=Ca.RS.mem_ents.1 hw
   have h0:w.1=0:=by have h1:(s.at 0).E.length=1:=rfl;omega
   exact hw.2.2.1 (by rw[h0];rfl)
  have e1:(s.at 0).E.length=1:=rfl
  have e2:(s.at 0).M=fun _=>-1:=rfl
  rw[e0,e1,e2]
  unfold Sv.o0 Sv.o
  exact xc0
 ·rintro⟨i,nz⟩ hi
  have hi:i≤s.x.l.length:=hi
  have hti:(i:Int).toNat=i:=a0E i
  have hsm:=Sv.at_small hx hi
  dsimp only
  rcases nz with _|_
  ·-- the row is false
   (repeat' ((conv=>whnf);first|(with_reducible first|apply spl|apply spl'|refine iJ ?_)<;>intro hc<;>try(exfalso;omega)|refine vcq ?_|fail));all_goals(try conv=>whnf);try exact trivial
   ·-- put
    have hil:i<s.x.l.length:=by omega
    obtain⟨o1,o2,hoe,hk⟩:=Sv.ord_at hx hil
    rw[hti,hoe] at hc
    have hc:o1=1:=hc
    subst hc
    rw[hti,hoe]
    dsimp only
    obtain⟨b,rfl,hb⟩:∃b:Nat,o2=b∧b<s.n:=by
     rcases hk with⟨_,b,h1,h2⟩|h1
     ·exact⟨b,h1,h2⟩
     ·omega
    have hrd:=fun L (hL:PutL ((s.at i).ents s.n) ((s.at i).E.length-1,b,(i:Int)) L)=>Sv.rnd1 hx hil hoe hb hL
    have hsb:WtS ((s.at i).E.length-1,b,(i:Int)):=by unfold WtS;dsimp only;omega
    refine a0c [0,4,1,2] (put124_false s ((s.at i).ents s.n) (by omega) (fun w hw=>(hsm.2.2.1 w hw).1) (Ca.RS.ents_sorted _ _) (s.at i).M ((s.at i).E.length-1,b,(i:Int)) hsb) rfl ?_ ?_
    ·unfold wtC Sv.o
     dsimp only
     exact xc0
    ·rintro _ _ ⟨rfl,L,hL,rfl|rfl⟩
     ·have h:=hrd L hL
      have hpl:=PutL.len hsm.2.1 hL
      unfold Sv.o
      refine x1 ?_
      refine⟨(i+1,false),⟨by dsimp only;omega,by dsimp only;omega⟩,some [some 0,some 1,some 2,some 3,some 4],?_⟩
      dsimp only
      rw[h.1,h.2.1,h.2.2]
      exact xc0
     ·have h:=hrd L hL
      have hpl:=PutL.len hsm.2.1 hL
      unfold Sv.o
      refine x1 ?_
      refine⟨(i+1,false),⟨by dsimp only;omega,by dsimp only;omega⟩,some [some 0,some 1,some 2,some 3,some 7],?_⟩
      dsimp only
      rw[h.1,h.2.1,h.2.2]
      exact xc0
   ·-- force
    have hil:i<s.x.l.length:=by omega
    obtain⟨o1,o2,hoe,hk⟩:=Sv.ord_at hx hil
    rw[hti,hoe] at hc
    have hc:o1=2:=hc
    subst hc
    rw[hti,hoe]
    dsimp only
    obtain⟨b,rfl,hb⟩:∃b:Nat,o2=b∧b<s.n:=by
     rcases hk with⟨_,b,h1,h2⟩|h1
     ·exact⟨b,h1,h2⟩
     ·omega
    have hrd:=fun L (hL:PutL ((s.at i).ents s.n) ((s.at i).E.length-1,b,(i:Int)) L)=>Sv.rnd2 hx hil hoe hb hL
    have hsb:WtS ((s.at i).E.length-1,b,(i:Int)):=by unfold WtS;dsimp only;omega
    refine a0c [0,4,1,2] (put124_false s ((s.at i).ents s.n) (by omega) (fun w hw=>(hsm.2.2.1 w hw).1) (Ca.RS.ents_sorted _ _) (s.at i).M ((s.at i).E.length-1,b,(i:Int)) hsb) rfl ?_ ?_
    ·unfold wtC Sv.o
     dsimp only
     exact xc0
    ·rintro _ _ ⟨rfl,L,hL,rfl|rfl⟩
     ·have h:=hrd L hL
      have hpl:=PutL.len hsm.2.1 hL
      unfold Sv.o
      refine x1 ?_
      refine a0c [0,4,1,3,5] (write128F_false s L hpl (PutL.mem hb (fun w hw=>(hsm.2.2.1 w hw).2) hL) (s.at i).M ((s.at i).E.length-1) b 2) rfl ?_ ?_
      ·unfold Sv.o
       exact xc0
      ·rintro _ _ ⟨rfl,nz,rfl⟩
       unfold Sv.o
       rcases nz with _|_
       ·refine x1 ?_
        refine⟨(i+1,false),⟨by dsimp only;omega,by dsimp only;omega⟩,some [some 0,some 1,some 2,some 3,some 4],?_⟩
        dsimp only
        rw[h.1,h.2.1,h.2.2]
        exact xc0
       ·refine x1 ?_
        refine⟨(i+1,true),⟨by dsimp only;omega,by dsimp only;omega⟩,some [some 0,some 1,some 2,some 3,some 4],?_⟩
        dsimp only
        rw[h.1,h.2.1,h.2.2]
        exact xc0
     ·have h:=hrd L hL
      have hpl:=PutL.len hsm.2.1 hL
      unfold Sv.o
      refine x1 ?_
      refine a0c [0,7,1,3,5] (write128F_false s L hpl (PutL.mem hb (fun w hw=>(hsm.2.2.1 w hw).2) hL) (s.at i).M ((s.at i).E.length-1) b 2) rfl ?_ ?_
      ·unfold Sv.o
       exact xc0
      ·rintro _ _ ⟨rfl,nz,rfl⟩
       unfold Sv.o
       rcases nz with _|_
       ·refine x1 ?_
        refine⟨(i+1,false),⟨by dsimp only;omega,by dsimp only;omega⟩,some [some 0,some 1,some 2,some 3,some 7],?_⟩
        dsimp only
        rw[h.1,h.2.1,h.2.2]
        exact xc0
       ·refine x1 ?_
        refine⟨(i+1,true),⟨by dsimp only;omega,by dsimp only;omega⟩,some [some 0,some 1,some 2,some 3,some 7],?_⟩
        dsimp only
        rw[h.1,h.2.1,h.2.2]
        exact xc0
   ·-- barrier
    have hil:i<s.x.l.length:=by omega
    obtain⟨o1,o2,hoe,hk⟩:=Sv.ord_at hx hil
    rw[hti,hoe] at hc
    have hc:o1=3:=hc
    subst hc
    have h:=Sv.rnd3 hx hil hoe
    have hE:(s.at i).E.length+1-1=(s.at i).E.length-1+1:=by omega
    refine⟨(i+1,false),⟨by dsimp only;omega,by dsimp only;omega⟩,some [some 0,some 1,some 2,some 3,some 4],?_⟩
    dsimp only
    rw[h.1,h.2.1,h.2.2,hE]
    exact xc0
   ·-- flush
    have hil:i<s.x.l.length:=by omega
    obtain⟨o1,o2,hoe,hk⟩:=Sv.ord_at hx hil
    rw[hti,hoe] at hc
    have hc:o1=4:=hc
    subst hc
    rw[hti,hoe]
    dsimp only
    have h:=Sv.rnd4 hx hil hoe
    refine a0c [0,4,1] (write128A_false s ((s.at i).ents s.n) (by omega) (fun w hw=>(hsm.2.2.1 w hw).2) (s.at i).M) rfl ?_ ?_
    ·unfold Sv.o
     exact xc0
    ·rintro _ _ ⟨rfl,nz,rfl⟩
     unfold Sv.o
     rcases nz with _|_
     ·refine x1 ?_
      refine⟨(i+1,false),⟨by dsimp only;omega,by dsimp only;omega⟩,some [some 0,some 1,some 2,some 3,some 4],?_⟩
      dsimp only
      rw[h.1,h.2.1,h.2.2]
      exact xc0
     ·refine x1 ?_
      refine⟨(i+1,true),⟨by dsimp only;omega,by dsimp only;omega⟩,some [some 0,some 1,some 2,some 3,some 4],?_⟩
      dsimp only
      rw[h.1,h.2.1,h.2.2]
      exact xc0
   ·-- another
    exfalso
    have hil:i<s.x.l.length:=by omega
    obtain⟨o1,o2,hoe,hk⟩:=Sv.ord_at hx hil
    simp only[hti,hoe] at *
    rcases hk with⟨h1|h1,_⟩|⟨h1|h1,_⟩<;>contradiction
   ·-- the end
    obtain rfl:i=s.x.l.length:=by omega
    refine⟨_,_,⟨rfl,false,rfl⟩,some [some 0,some 1,some 4],?_⟩
    unfold Sv.o
    exact xc0
  ·-- the row is true
   (repeat' ((conv=>whnf);first|(with_reducible first|apply spl|apply spl'|refine iJ ?_)<;>intro hc<;>try(exfalso;omega)|refine vcq ?_|fail));all_goals(try conv=>whnf);try exact trivial
   ·-- put
    have hil:i<s.x.l.length:=by omega
    obtain⟨o1,o2,hoe,hk⟩:=Sv.ord_at hx hil
    rw[hti,hoe] at hc
    have hc:o1=1:=hc
    subst hc
    rw[hti,hoe]
    dsimp only
    obtain⟨b,rfl,hb⟩:∃b:Nat,o2=b∧b<s.n:=by
     rcases hk with⟨_,b,h1,h2⟩|h1
     ·exact⟨b,h1,h2⟩
     ·omega
    have hrd:=fun L (hL:PutL ((s.at i).ents s.n) ((s.at i).E.length-1,b,(i:Int)) L)=>Sv.rnd1 hx hil hoe hb hL
    have hsb:WtS ((s.at i).E.length-1,b,(i:Int)):=by unfold WtS;dsimp only;omega
    refine a0c [0,4,1,2] (put124_true s ((s.at i).ents s.n) (by omega) (fun w hw=>(hsm.2.2.1 w hw).1) (Ca.RS.ents_sorted _ _) (s.at i).M ((s.at i).E.length-1,b,(i:Int)) hsb) rfl ?_ ?_
    ·unfold wtC Sv.o
     dsimp only
     exact xc0
    ·rintro _ _ ⟨rfl,L,hL,rfl|rfl⟩
     ·have h:=hrd L hL
      have hpl:=PutL.len hsm.2.1 hL
      unfold Sv.o
      refine x1 ?_
      refine⟨(i+1,true),⟨by dsimp only;omega,by dsimp only;omega⟩,some [some 0,some 1,some 2,some 3,some 4],?_⟩
      dsimp only
      rw[h.1,h.2.1,h.2.2]
      exact xc0
     ·have h:=hrd L hL
      have hpl:=PutL.len hsm.2.1 hL
      unfold Sv.o
      refine x1 ?_
      refine⟨(i+1,false),⟨by dsimp only;omega,by dsimp only;omega⟩,some [some 0,some 1,some 2,some 3,some 7],?_⟩
      dsimp only
      rw[h.1,h.2.1,h.2.2]
      exact xc0
   ·-- force
    have hil:i<s.x.l.length:=by omega
    obtain⟨o1,o2,hoe,hk⟩:=Sv.ord_at hx hil
    rw[hti,hoe] at hc
    have hc:o1=2:=hc
    subst hc
    rw[hti,hoe]
    dsimp only
    obtain⟨b,rfl,hb⟩:∃b:Nat,o2=b∧b<s.n:=by
     rcases hk with⟨_,b,h1,h2⟩|h1
     ·exact⟨b,h1,h2⟩
     ·omega
    have hrd:=fun L (hL:PutL ((s.at i).ents s.n) ((s.at i).E.length-1,b,(i:Int)) L)=>Sv.rnd2 hx hil hoe hb hL
    have hsb:WtS ((s.at i).E.length-1,b,(i:Int)):=by unfold WtS;dsimp only;omega
    refine a0c [0,4,1,2] (put124_true s ((s.at i).ents s.n) (by omega) (fun w hw=>(hsm.2.2.1 w hw).1) (Ca.RS.ents_sorted _ _) (s.at i).M ((s.at i).E.length-1,b,(i:Int)) hsb) rfl ?_ ?_
    ·unfold wtC Sv.o
     dsimp only
     exact xc0
    ·rintro _ _ ⟨rfl,L,hL,rfl|rfl⟩
     ·have h:=hrd L hL
      have hpl:=PutL.len hsm.2.1 hL
      unfold Sv.o
      refine x1 ?_
      refine a0c [0,4,1,3,5] (write128F_true s L hpl (PutL.mem hb (fun w hw=>(hsm.2.2.1 w hw).2) hL) (s.at i).M ((s.at i).E.length-1) b 2) rfl ?_ ?_
      ·unfold Sv.o
       exact xc0
      ·rintro _ _ ⟨rfl,nz,rfl⟩
       unfold Sv.o
       rcases nz with _|_
       ·refine x1 ?_
        refine⟨(i+1,false),⟨by dsimp only;omega,by dsimp only;omega⟩,some [some 0,some 1,some 2,some 3,some 4],?_⟩
        dsimp only
        rw[h.1,h.2.1,h.2.2]
        exact xc0
       ·refine x1 ?_
        refine⟨(i+1,true),⟨by dsimp only;omega,by dsimp only;omega⟩,some [some 0,some 1,some 2,some 3,some 4],?_⟩
        dsimp only
        rw[h.1,h.2.1,h.2.2]
        exact xc0
     ·have h:=hrd L hL
      have hpl:=PutL.len hsm.2.1 hL
      unfold Sv.o
      refine x1 ?_
      refine a0c [0,7,1,3,5] (write128F_false s L hpl (PutL.mem hb (fun w hw=>(hsm.2.2.1 w hw).2) hL) (s.at i).M ((s.at i).E.length-1) b 2) rfl ?_ ?_
      ·unfold Sv.o
       exact xc0
      ·rintro _ _ ⟨rfl,nz,rfl⟩
       unfold Sv.o
       rcases nz with _|_
       ·refine x1 ?_
        refine⟨(i+1,false),⟨by dsimp only;omega,by dsimp only;omega⟩,some [some 0,some 1,some 2,some 3,some 7],?_⟩
        dsimp only
        rw[h.1,h.2.1,h.2.2]
        exact xc0
       ·refine x1 ?_
        refine⟨(i+1,true),⟨by dsimp only;omega,by dsimp only;omega⟩,some [some 0,some 1,some 2,some 3,some 7],?_⟩
        dsimp only
        rw[h.1,h.2.1,h.2.2]
        exact xc0
   ·-- barrier
    have hil:i<s.x.l.length:=by omega
    obtain⟨o1,o2,hoe,hk⟩:=Sv.ord_at hx hil
    rw[hti,hoe] at hc
    have hc:o1=3:=hc
    subst hc
    have h:=Sv.rnd3 hx hil hoe
    have hE:(s.at i).E.length+1-1=(s.at i).E.length-1+1:=by omega
    refine⟨(i+1,true),⟨by dsimp only;omega,by dsimp only;omega⟩,some [some 0,some 1,some 2,some 3,some 4],?_⟩
    dsimp only
    rw[h.1,h.2.1,h.2.2,hE]
    exact xc0
   ·-- flush
    have hil:i<s.x.l.length:=by omega
    obtain⟨o1,o2,hoe,hk⟩:=Sv.ord_at hx hil
    rw[hti,hoe] at hc
    have hc:o1=4:=hc
    subst hc
    rw[hti,hoe]
    dsimp only
    have h:=Sv.rnd4 hx hil hoe
    refine a0c [0,4,1] (write128A_true s ((s.at i).ents s.n) (by omega) (fun w hw=>(hsm.2.2.1 w hw).2) (s.at i).M) rfl ?_ ?_
    ·unfold Sv.o
     exact xc0
    ·rintro _ _ ⟨rfl,nz,rfl⟩
     unfold Sv.o
     rcases nz with _|_
     ·refine x1 ?_
      refine⟨(i+1,false),⟨by dsimp only;omega,by dsimp only;omega⟩,some [some 0,some 1,some 2,some 3,some 4],?_⟩
      dsimp only
      rw[h.1,h.2.1,h.2.2]
      exact xc0
     ·refine x1 ?_
      refine⟨(i+1,true),⟨by dsimp only;omega,by dsimp only;omega⟩,some [some 0,some 1,some 2,some 3,some 4],?_⟩
      dsimp only
      rw[h.1,h.2.1,h.2.2]
      exact xc0
   ·-- another
    exfalso
    have hil:i<s.x.l.length:=by omega
    obtain⟨o1,o2,hoe,hk⟩:=Sv.ord_at hx hil
    simp only[hti,hoe] at *
    rcases hk with⟨h1|h1,_⟩|⟨h1|h1,_⟩<;>contradiction
   ·-- the end
    obtain rfl:i=s.x.l.length:=by omega
    refine⟨_,_,⟨rfl,true,rfl⟩,some [some 0,some 1,some 4],?_⟩
    unfold Sv.o
    exact xc0
end Go.Proofs
