/- Own work: texts of the proof of a law (Ws8, Wq2, Wq3, Wq4). No condition. -/
import Derived.Test.YtkgjhinmndcmjaaGreatPart13
namespace Go.Proofs
open Go Go.Sx
set_option maxRecDepth 100000
set_option maxHeartbeats 40000000
open Ca (Wt ltK putM)
theorem keepW_all (p:Wt→Prop) [DecidablePred p] (W:List Wt) (M:Nat→Int):a0i p W W.length=W.filter (fun w=>!decide (p w))∧medW p W M W.length=(W.filter fun w=>decide (p w)).foldl putM M:=by
 unfold a0i medW
 rw[List.take_length]
 refine⟨List.filter_congr fun w _=>?_,congrArg (fun l=>List.foldl putM M l) (List.filter_congr fun w _=>?_)⟩<;>by_cases h:p w<;>simp[h]
theorem Sv.rnd1 {s:Sv} (hx:s.x.Ok) {i:Nat} (hi:i<s.x.l.length) {b:Nat} (ho:s.x.l.getD i (0,0)=(1,(b:Int))) (hb:b<s.n) {L:List Wt} (hL:PutL ((s.at i).ents s.n) ((s.at i).E.length-1,b,(i:Int)) L):(s.at (i+1)).ents s.n=L∧(s.at (i+1)).M=(s.at i).M∧(s.at (i+1)).E.length=(s.at i).E.length:=by
 have h1:=Sv.put_ents hx (Nat.le_of_lt hi) hb hL
 have h2:=(Ca.RS.order_ents (n:=s.n) (s:=s.at i) (Sv.at_small hx (Nat.le_of_lt hi)).1.1 (k:=i) (o:=(1,(b:Int))) (fun _=>by dsimp only;omega)).1 rfl
 dsimp only[Int.toNat_natCast] at h2
 rw[Sv.step hx hi ho,h2]
 refine⟨h1,rfl,?_⟩
 unfold Ca.RS.setE
 exact List.length_set ..
theorem Sv.rnd2 {s:Sv} (hx:s.x.Ok) {i:Nat} (hi:i<s.x.l.length) {b:Nat} (ho:s.x.l.getD i (0,0)=(2,(b:Int))) (hb:b<s.n) {L:List Wt} (hL:PutL ((s.at i).ents s.n) ((s.at i).E.length-1,b,(i:Int)) L):(s.at (i+1)).ents s.n=a0i (pF ((s.at i).E.length-1) b) L L.length∧(s.at (i+1)).M=medW (pF ((s.at i).E.length-1) b) L (s.at i).M L.length∧(s.at (i+1)).E.length=(s.at i).E.length:=by
 have h1:=Sv.put_ents hx (Nat.le_of_lt hi) hb hL
 have h2:=(Ca.RS.order_ents (n:=s.n) (s:=s.at i) (Sv.at_small hx (Nat.le_of_lt hi)).1.1 (k:=i) (o:=(2,(b:Int))) (fun _=>by dsimp only;omega)).2.1 rfl
 dsimp only[Int.toNat_natCast] at h2
 rw[h1] at h2
 have h3:=@keepW_all (pF ((s.at i).E.length-1) b) (fun w=>inferInstanceAs (Decidable (_∨_))) L (s.at i).M
 rw[Sv.step hx hi ho,h3.1,h3.2]
 exact h2
theorem Sv.rnd3 {s:Sv} (hx:s.x.Ok) {i:Nat} (hi:i<s.x.l.length) {b:Int} (ho:s.x.l.getD i (0,0)=(3,b)):(s.at (i+1)).ents s.n=(s.at i).ents s.n∧(s.at (i+1)).M=(s.at i).M∧(s.at (i+1)).E.length=(s.at i).E.length+1:=by
 have h2:=(Ca.RS.order_ents (n:=s.n) (s:=s.at i) (Sv.at_small hx (Nat.le_of_lt hi)).1.1 (k:=i) (o:=(3,b)) (fun h=>by dsimp only at h;omega)).2.2.1 rfl
 rw[Sv.step hx hi ho]
 exact h2
theorem Sv.rnd4 {s:Sv} (hx:s.x.Ok) {i:Nat} (hi:i<s.x.l.length) {b:Int} (ho:s.x.l.getD i (0,0)=(4,b)):(s.at (i+1)).ents s.n=a0i pA ((s.at i).ents s.n) ((s.at i).ents s.n).length∧(s.at (i+1)).M=medW pA ((s.at i).ents s.n) (s.at i).M ((s.at i).ents s.n).length∧(s.at (i+1)).E.length=(s.at i).E.length:=by
 have h2:=(Ca.RS.order_ents (n:=s.n) (s:=s.at i) (Sv.at_small hx (Nat.le_of_lt hi)).1.1 (k:=i) (o:=(4,b)) (fun h=>by dsimp only at h;omega)).2.2.2 rfl
 have h3:=@keepW_all pA (fun w=>inferInstanceAs (Decidable True)) ((s.at i).ents s.n) (s.at i).M
 rw[Sv.step hx hi ho,h3.1,h3.2]
 refine⟨h2.1.trans (by unfold pA;simp),h2.2.1.trans ?_,h2.2.2⟩
 unfold pA
 have e:∀l:List Wt,l.filter (fun _=>true)=l:=fun l=>List.filter_eq_self.2 fun _ _=>rfl
 simp only[decide_true,e]
theorem PutL.len {W:List Wt} {w:Wt} {L:List Wt} (hW:W.length≤102) (h:PutL W w L):L.length≤1000:=by
 obtain⟨a,m,c,rfl,_,_,_,rfl⟩:=h
 simp only[List.length_append,List.length_cons] at hW ⊢
 omega
theorem PutL.mem {W:List Wt} {e b n:Nat} {k:Int} {L:List Wt} (hb:b<n) (hW:∀w∈W,w.2.1<n) (h:PutL W (e,b,k) L):∀w∈L,w.2.1<n:=by
 obtain⟨a,m,c,rfl,_,_,_,rfl⟩:=h
 intro w hw
 simp only[List.mem_append,List.mem_cons] at hw hW
 rcases hw with hw|rfl|hw
 ·exact hW w (.inl (.inl hw))
 ·exact hb
 ·exact hW w (.inr hw)
theorem wait86 (s:Sv) (hx:s.x.Ok):Sx.Callee Tryz.prog 86 [.ptr 0 0] [.cells 107 s.o0,.row 3 1 s.n (mdC (fun _=>-1)) false]
  (fun v H=>v=.tup []∧∃nz,H=[.cells 107 (s.o 2 s.W.length 1),.row 3 1 s.n (mdC s.st.M) false,.row 59 3 s.W.length (a0e wtC wt0 s.W) nz]):=by
 have hxl:=hx.len
 refine a0o Tryz.E_ok Tryz.func86 rfl (by kernel_rfl) ?_
 (repeat' ((conv=>whnf);first|(with_reducible first|apply spl|apply spl'|refine iJ ?_)<;>intro hc<;>try(exfalso;omega)|refine vcq ?_|fail));all_goals(try conv=>whnf);try exact trivial
 refine⟨Nat×Bool,fun q=>q.1≤s.x.l.length,fun q=>s.x.l.length-q.1,fun q=>[(15,.int .i64 (q.1:Nat)),(4,.any),(5,.any),(6,.any),(16,.any),(17,.any),(18,.any),(19,.any),(20,.any),(21,.any),(22,.any),(23,.any),(24,.any),(25,.any),(26,.any),(27,.any),(28,.any),(29,.any),(30,.any),(31,.any),(32,.any),(33,.any),(34,.any),(35,.any),(36,.any),(37,.any),(38,.any),(39,.any),(40,.any),(41,.any),(42,.any),(43,.any),(44,.any),(45,.any),(46,.any),(47,.any)],fun q=>[(0,.cells 107 (s.o 4 ((s.at q.1).ents s.n).length 1)),(1,.row 3 1 s.n (mdC (s.at q.1).M) false),(3,.cells 3 [.int .i64 ((s.at q.1).E.length-1:Nat)])],fun q=>[.row 59 3 ((s.at q.1).ents s.n).length (a0e wtC wt0 ((s.at q.1).ents s.n)) q.2],(0,true),⟨by dsimp only;omega,some [some 0,some 1,some 2,some 3,none],?_⟩,?_⟩
 ·dsimp only
  have e0:(s.at 0).ents s.n=[]:=by
   refine List.eq_nil_iff_forall_not_mem.2 fun w hw=>?_
   have hw:=Ca.RS.mem_ents.1 hw
   have h0:w.1=0:=by have h1:(s.at 0).E.length=1:=rfl;omega
   exact hw.2.2.1 (by rw[h0];rfl)
  have e1:(s.at 0).E.length=1:=rfl
  have e2:(s.at 0).M=fun _=>-1:=rfl
  rw[e0,e1,e2]
  unfold Sv.o0 Sv.o
  (repeat' ((conv=>whnf);first|(with_reducible first|apply spl|apply spl'|refine iJ ?_)<;>intro hc<;>try(exfalso;omega)|refine vcq ?_|fail));all_goals(try conv=>whnf);try exact trivial
 ·rintro⟨i,nz⟩ hi
  have hi:i≤s.x.l.length:=hi
  have hti:(i:Int).toNat=i:=Int.toNat_natCast i
  have hsm:=Sv.at_small hx hi
  dsimp only
  rcases nz with _|_
  ·-- the row is false
   (repeat' ((conv=>whnf);first|(with_reducible first|apply spl|apply spl'|refine iJ ?_)<;>intro hc<;>try(exfalso;omega)|refine vcq ?_|fail));all_goals(try conv=>whnf);try exact trivial
   ·-- put
    have hil:i<s.x.l.length:=by omega
    obtain⟨o1,o2,hoe,hk⟩:=Sv.ord_at hx hil
    rw[hti,hoe] at hc
    have hc:o1=1:=hc
    subst hc
    rw[hti,hoe]
    dsimp only
    obtain⟨b,rfl,hb⟩:∃b:Nat,o2=b∧b<s.n:=by
     rcases hk with⟨_,b,h1,h2⟩|h1
     ·exact⟨b,h1,h2⟩
     ·omega
    have hrd:=fun L (hL:PutL ((s.at i).ents s.n) ((s.at i).E.length-1,b,(i:Int)) L)=>Sv.rnd1 hx hil hoe hb hL
    have hsb:WtS ((s.at i).E.length-1,b,(i:Int)):=by unfold WtS;dsimp only;omega
    refine a0f [0,4,1,2] (put124_false s ((s.at i).ents s.n) (by omega) (fun w hw=>(hsm.2.2.1 w hw).1) (Ca.RS.ents_sorted _ _) (s.at i).M ((s.at i).E.length-1,b,(i:Int)) hsb) rfl ?_ ?_
    ·unfold wtC Sv.o
     dsimp only
     (repeat' ((conv=>whnf);first|(with_reducible first|apply spl|apply spl'|refine iJ ?_)<;>intro hc<;>try(exfalso;omega)|refine vcq ?_|fail));all_goals(try conv=>whnf);try exact trivial
    ·rintro _ _ ⟨rfl,L,hL,rfl|rfl⟩
     ·have h:=hrd L hL
      have hpl:=PutL.len hsm.2.1 hL
      unfold Sv.o
      (repeat' ((conv=>whnf);first|(with_reducible first|apply spl|apply spl'|refine iJ ?_)<;>intro hc<;>try(exfalso;omega)|refine vcq ?_|fail));all_goals(try conv=>whnf);try exact trivial
      refine⟨(i+1,false),⟨by dsimp only;omega,by dsimp only;omega⟩,some [some 0,some 1,some 2,some 3,some 4],?_⟩
      dsimp only
      rw[h.1,h.2.1,h.2.2]
      (repeat' ((conv=>whnf);first|(with_reducible first|apply spl|apply spl'|refine iJ ?_)<;>intro hc<;>try(exfalso;omega)|refine vcq ?_|fail));all_goals(try conv=>whnf);try exact trivial
     ·have h:=hrd L hL
      have hpl:=PutL.len hsm.2.1 hL
      unfold Sv.o
      (repeat' ((conv=>whnf);first|(with_reducible first|apply spl|apply spl'|refine iJ ?_)<;>intro hc<;>try(exfalso;omega)|refine vcq ?_|fail));all_goals(try conv=>whnf);try exact trivial
      refine⟨(i+1,false),⟨by dsimp only;omega,by dsimp only;omega⟩,some [some 0,some 1,some 2,some 3,some 7],?_⟩
      dsimp only
      rw[h.1,h.2.1,h.2.2]
      (repeat' ((conv=>whnf);first|(with_reducible first|apply spl|apply spl'|refine iJ ?_)<;>intro hc<;>try(exfalso;omega)|refine vcq ?_|fail));all_goals(try conv=>whnf);try exact trivial
   ·-- force
    have hil:i<s.x.l.length:=by omega
    obtain⟨o1,o2,hoe,hk⟩:=Sv.ord_at hx hil
    rw[hti,hoe] at hc
    have hc:o1=2:=hc
    subst hc
    rw[hti,hoe]
    dsimp only
    obtain⟨b,rfl,hb⟩:∃b:Nat,o2=b∧b<s.n:=by
     rcases hk with⟨_,b,h1,h2⟩|h1
     ·exact⟨b,h1,h2⟩
     ·omega
    have hrd:=fun L (hL:PutL ((s.at i).ents s.n) ((s.at i).E.length-1,b,(i:Int)) L)=>Sv.rnd2 hx hil hoe hb hL
    have hsb:WtS ((s.at i).E.length-1,b,(i:Int)):=by unfold WtS;dsimp only;omega
    refine a0f [0,4,1,2] (put124_false s ((s.at i).ents s.n) (by omega) (fun w hw=>(hsm.2.2.1 w hw).1) (Ca.RS.ents_sorted _ _) (s.at i).M ((s.at i).E.length-1,b,(i:Int)) hsb) rfl ?_ ?_
    ·unfold wtC Sv.o
     dsimp only
     (repeat' ((conv=>whnf);first|(with_reducible first|apply spl|apply spl'|refine iJ ?_)<;>intro hc<;>try(exfalso;omega)|refine vcq ?_|fail));all_goals(try conv=>whnf);try exact trivial
    ·rintro _ _ ⟨rfl,L,hL,rfl|rfl⟩
     ·have h:=hrd L hL
      have hpl:=PutL.len hsm.2.1 hL
      unfold Sv.o
      (repeat' ((conv=>whnf);first|(with_reducible first|apply spl|apply spl'|refine iJ ?_)<;>intro hc<;>try(exfalso;omega)|refine vcq ?_|fail));all_goals(try conv=>whnf);try exact trivial
      refine a0f [0,4,1,3,5] (write128F_false s L hpl (PutL.mem hb (fun w hw=>(hsm.2.2.1 w hw).2) hL) (s.at i).M ((s.at i).E.length-1) b 2) rfl ?_ ?_
      ·unfold Sv.o
       (repeat' ((conv=>whnf);first|(with_reducible first|apply spl|apply spl'|refine iJ ?_)<;>intro hc<;>try(exfalso;omega)|refine vcq ?_|fail));all_goals(try conv=>whnf);try exact trivial
      ·rintro _ _ ⟨rfl,nz,rfl⟩
       unfold Sv.o
       rcases nz with _|_
       ·(repeat' ((conv=>whnf);first|(with_reducible first|apply spl|apply spl'|refine iJ ?_)<;>intro hc<;>try(exfalso;omega)|refine vcq ?_|fail));all_goals(try conv=>whnf);try exact trivial
        refine⟨(i+1,false),⟨by dsimp only;omega,by dsimp only;omega⟩,some [some 0,some 1,some 2,some 3,some 4],?_⟩
        dsimp only
        rw[h.1,h.2.1,h.2.2]
        (repeat' ((conv=>whnf);first|(with_reducible first|apply spl|apply spl'|refine iJ ?_)<;>intro hc<;>try(exfalso;omega)|refine vcq ?_|fail));all_goals(try conv=>whnf);try exact trivial
       ·(repeat' ((conv=>whnf);first|(with_reducible first|apply spl|apply spl'|refine iJ ?_)<;>intro hc<;>try(exfalso;omega)|refine vcq ?_|fail));all_goals(try conv=>whnf);try exact trivial
        refine⟨(i+1,true),⟨by dsimp only;omega,by dsimp only;omega⟩,some [some 0,some 1,some 2,some 3,some 4],?_⟩
        dsimp only
        rw[h.1,h.2.1,h.2.2]
        (repeat' ((conv=>whnf);first|(with_reducible first|apply spl|apply spl'|refine iJ ?_)<;>intro hc<;>try(exfalso;omega)|refine vcq ?_|fail));all_goals(try conv=>whnf);try exact trivial
     ·have h:=hrd L hL
      have hpl:=PutL.len hsm.2.1 hL
      unfold Sv.o
      (repeat' ((conv=>whnf);first|(with_reducible first|apply spl|apply spl'|refine iJ ?_)<;>intro hc<;>try(exfalso;omega)|refine vcq ?_|fail));all_goals(try conv=>whnf);try exact trivial
      refine a0f [0,7,1,3,5] (write128F_false s L hpl (PutL.mem hb (fun w hw=>(hsm.2.2.1 w hw).2) hL) (s.at i).M ((s.at i).E.length-1) b 2) rfl ?_ ?_
      ·unfold Sv.o
       (repeat' ((conv=>whnf);first|(with_reducible first|apply spl|apply spl'|refine iJ ?_)<;>intro hc<;>try(exfalso;omega)|refine vcq ?_|fail));all_goals(try conv=>whnf);try exact trivial
      ·rintro _ _ ⟨rfl,nz,rfl⟩
       unfold Sv.o
       rcases nz with _|_
       ·(repeat' ((conv=>whnf);first|(with_reducible first|apply spl|apply spl'|refine iJ ?_)<;>intro hc<;>try(exfalso;omega)|refine vcq ?_|fail));all_goals(try conv=>whnf);try exact trivial
        refine⟨(i+1,false),⟨by dsimp only;omega,by dsimp only;omega⟩,some [some 0,some 1,some 2,some 3,some 7],?_⟩
        dsimp only
        rw[h.1,h.2.1,h.2.2]
        (repeat' ((conv=>whnf);first|(with_reducible first|apply spl|apply spl'|refine iJ ?_)<;>intro hc<;>try(exfalso;omega)|refine vcq ?_|fail));all_goals(try conv=>whnf);try exact trivial
       ·(repeat' ((conv=>whnf);first|(with_reducible first|apply spl|apply spl'|refine iJ ?_)<;>intro hc<;>try(exfalso;omega)|refine vcq ?_|fail));all_goals(try conv=>whnf);try exact trivial
        refine⟨(i+1,true),⟨by dsimp only;omega,by dsimp only;omega⟩,some [some 0,some 1,some 2,some 3,some 7],?_⟩
        dsimp only
        rw[h.1,h.2.1,h.2.2]
        (repeat' ((conv=>whnf);first|(with_reducible first|apply spl|apply spl'|refine iJ ?_)<;>intro hc<;>try(exfalso;omega)|refine vcq ?_|fail));all_goals(try conv=>whnf);try exact trivial
   ·-- barrier
    have hil:i<s.x.l.length:=by omega
    obtain⟨o1,o2,hoe,hk⟩:=Sv.ord_at hx hil
    rw[hti,hoe] at hc
    have hc:o1=3:=hc
    subst hc
    have h:=Sv.rnd3 hx hil hoe
    have hE:(s.at i).E.length+1-1=(s.at i).E.length-1+1:=by omega
    refine⟨(i+1,false),⟨by dsimp only;omega,by dsimp only;omega⟩,some [some 0,some 1,some 2,some 3,some 4],?_⟩
    dsimp only
    rw[h.1,h.2.1,h.2.2,hE]
    (repeat' ((conv=>whnf);first|(with_reducible first|apply spl|apply spl'|refine iJ ?_)<;>intro hc<;>try(exfalso;omega)|refine vcq ?_|fail));all_goals(try conv=>whnf);try exact trivial
   ·-- flush
    have hil:i<s.x.l.length:=by omega
    obtain⟨o1,o2,hoe,hk⟩:=Sv.ord_at hx hil
    rw[hti,hoe] at hc
    have hc:o1=4:=hc
    subst hc
    rw[hti,hoe]
    dsimp only
    have h:=Sv.rnd4 hx hil hoe
    refine a0f [0,4,1] (write128A_false s ((s.at i).ents s.n) (by omega) (fun w hw=>(hsm.2.2.1 w hw).2) (s.at i).M) rfl ?_ ?_
    ·unfold Sv.o
     (repeat' ((conv=>whnf);first|(with_reducible first|apply spl|apply spl'|refine iJ ?_)<;>intro hc<;>try(exfalso;omega)|refine vcq ?_|fail));all_goals(try conv=>whnf);try exact trivial
    ·rintro _ _ ⟨rfl,nz,rfl⟩
     unfold Sv.o
     rcases nz with _|_
     ·(repeat' ((conv=>whnf);first|(with_reducible first|apply spl|apply spl'|refine iJ ?_)<;>intro hc<;>try(exfalso;omega)|refine vcq ?_|fail));all_goals(try conv=>whnf);try exact trivial
      refine⟨(i+1,false),⟨by dsimp only;omega,by dsimp only;omega⟩,some [some 0,some 1,some 2,some 3,some 4],?_⟩
      dsimp only
      rw[h.1,h.2.1,h.2.2]
      (repeat' ((conv=>whnf);first|(with_reducible first|apply spl|apply spl'|refine iJ ?_)<;>intro hc<;>try(exfalso;omega)|refine vcq ?_|fail));all_goals(try conv=>whnf);try exact trivial
     ·(repeat' ((conv=>whnf);first|(with_reducible first|apply spl|apply spl'|refine iJ ?_)<;>intro hc<;>try(exfalso;omega)|refine vcq ?_|fail));all_goals(try conv=>whnf);try exact trivial
      refine⟨(i+1,true),⟨by dsimp only;omega,by dsimp only;omega⟩,some [some 0,some 1,some 2,some 3,some 4],?_⟩
      dsimp only
      rw[h.1,h.2.1,h.2.2]
      (repeat' ((conv=>whnf);first|(with_reducible first|apply spl|apply spl'|refine iJ ?_)<;>intro hc<;>try(exfalso;omega)|refine vcq ?_|fail));all_goals(try conv=>whnf);try exact trivial
   ·-- another
    exfalso
    have hil:i<s.x.l.length:=by omega
    obtain⟨o1,o2,hoe,hk⟩:=Sv.ord_at hx hil
    simp only[hti,hoe] at *
    rcases hk with⟨h1|h1,_⟩|⟨h1|h1,_⟩<;>contradiction
   ·-- the end
    obtain rfl:i=s.x.l.length:=by omega
    refine⟨_,_,⟨rfl,false,rfl⟩,some [some 0,some 1,some 4],?_⟩
    unfold Sv.o
    (repeat' ((conv=>whnf);first|(with_reducible first|apply spl|apply spl'|refine iJ ?_)<;>intro hc<;>try(exfalso;omega)|refine vcq ?_|fail));all_goals(try conv=>whnf);try exact trivial
  ·-- the row is true
   (repeat' ((conv=>whnf);first|(with_reducible first|apply spl|apply spl'|refine iJ ?_)<;>intro hc<;>try(exfalso;omega)|refine vcq ?_|fail));all_goals(try conv=>whnf);try exact trivial
   ·-- put
    have hil:i<s.x.l.length:=by omega
    obtain⟨o1,o2,hoe,hk⟩:=Sv.ord_at hx hil
    rw[hti,hoe] at hc
    have hc:o1=1:=hc
    subst hc
    rw[hti,hoe]
    dsimp only
    obtain⟨b,rfl,hb⟩:∃b:Nat,o2=b∧b<s.n:=by
     rcases hk with⟨_,b,h1,h2⟩|h1
     ·exact⟨b,h1,h2⟩
     ·omega
    have hrd:=fun L (hL:PutL ((s.at i).ents s.n) ((s.at i).E.length-1,b,(i:Int)) L)=>Sv.rnd1 hx hil hoe hb hL
    have hsb:WtS ((s.at i).E.length-1,b,(i:Int)):=by unfold WtS;dsimp only;omega
    refine a0f [0,4,1,2] (put124_true s ((s.at i).ents s.n) (by omega) (fun w hw=>(hsm.2.2.1 w hw).1) (Ca.RS.ents_sorted _ _) (s.at i).M ((s.at i).E.length-1,b,(i:Int)) hsb) rfl ?_ ?_
    ·unfold wtC Sv.o
     dsimp only
     (repeat' ((conv=>whnf);first|(with_reducible first|apply spl|apply spl'|refine iJ ?_)<;>intro hc<;>try(exfalso;omega)|refine vcq ?_|fail));all_goals(try conv=>whnf);try exact trivial
    ·rintro _ _ ⟨rfl,L,hL,rfl|rfl⟩
     ·have h:=hrd L hL
      have hpl:=PutL.len hsm.2.1 hL
      unfold Sv.o
      (repeat' ((conv=>whnf);first|(with_reducible first|apply spl|apply spl'|refine iJ ?_)<;>intro hc<;>try(exfalso;omega)|refine vcq ?_|fail));all_goals(try conv=>whnf);try exact trivial
      refine⟨(i+1,true),⟨by dsimp only;omega,by dsimp only;omega⟩,some [some 0,some 1,some 2,some 3,some 4],?_⟩
      dsimp only
      rw[h.1,h.2.1,h.2.2]
      (repeat' ((conv=>whnf);first|(with_reducible first|apply spl|apply spl'|refine iJ ?_)<;>intro hc<;>try(exfalso;omega)|refine vcq ?_|fail));all_goals(try conv=>whnf);try exact trivial
     ·have h:=hrd L hL
      have hpl:=PutL.len hsm.2.1 hL
      unfold Sv.o
      (repeat' ((conv=>whnf);first|(with_reducible first|apply spl|apply spl'|refine iJ ?_)<;>intro hc<;>try(exfalso;omega)|refine vcq ?_|fail));all_goals(try conv=>whnf);try exact trivial
      refine⟨(i+1,false),⟨by dsimp only;omega,by dsimp only;omega⟩,some [some 0,some 1,some 2,some 3,some 7],?_⟩
      dsimp only
      rw[h.1,h.2.1,h.2.2]
      (repeat' ((conv=>whnf);first|(with_reducible first|apply spl|apply spl'|refine iJ ?_)<;>intro hc<;>try(exfalso;omega)|refine vcq ?_|fail));all_goals(try conv=>whnf);try exact trivial
   ·-- force
    have hil:i<s.x.l.length:=by omega
    obtain⟨o1,o2,hoe,hk⟩:=Sv.ord_at hx hil
    rw[hti,hoe] at hc
    have hc:o1=2:=hc
    subst hc
    rw[hti,hoe]
    dsimp only
    obtain⟨b,rfl,hb⟩:∃b:Nat,o2=b∧b<s.n:=by
     rcases hk with⟨_,b,h1,h2⟩|h1
     ·exact⟨b,h1,h2⟩
     ·omega
    have hrd:=fun L (hL:PutL ((s.at i).ents s.n) ((s.at i).E.length-1,b,(i:Int)) L)=>Sv.rnd2 hx hil hoe hb hL
    have hsb:WtS ((s.at i).E.length-1,b,(i:Int)):=by unfold WtS;dsimp only;omega
    refine a0f [0,4,1,2] (put124_true s ((s.at i).ents s.n) (by omega) (fun w hw=>(hsm.2.2.1 w hw).1) (Ca.RS.ents_sorted _ _) (s.at i).M ((s.at i).E.length-1,b,(i:Int)) hsb) rfl ?_ ?_
    ·unfold wtC Sv.o
     dsimp only
     (repeat' ((conv=>whnf);first|(with_reducible first|apply spl|apply spl'|refine iJ ?_)<;>intro hc<;>try(exfalso;omega)|refine vcq ?_|fail));all_goals(try conv=>whnf);try exact trivial
    ·rintro _ _ ⟨rfl,L,hL,rfl|rfl⟩
     ·have h:=hrd L hL
      have hpl:=PutL.len hsm.2.1 hL
      unfold Sv.o
      (repeat' ((conv=>whnf);first|(with_reducible first|apply spl|apply spl'|refine iJ ?_)<;>intro hc<;>try(exfalso;omega)|refine vcq ?_|fail));all_goals(try conv=>whnf);try exact trivial
      refine a0f [0,4,1,3,5] (write128F_true s L hpl (PutL.mem hb (fun w hw=>(hsm.2.2.1 w hw).2) hL) (s.at i).M ((s.at i).E.length-1) b 2) rfl ?_ ?_
      ·unfold Sv.o
       (repeat' ((conv=>whnf);first|(with_reducible first|apply spl|apply spl'|refine iJ ?_)<;>intro hc<;>try(exfalso;omega)|refine vcq ?_|fail));all_goals(try conv=>whnf);try exact trivial
      ·rintro _ _ ⟨rfl,nz,rfl⟩
       unfold Sv.o
       rcases nz with _|_
       ·(repeat' ((conv=>whnf);first|(with_reducible first|apply spl|apply spl'|refine iJ ?_)<;>intro hc<;>try(exfalso;omega)|refine vcq ?_|fail));all_goals(try conv=>whnf);try exact trivial
        refine⟨(i+1,false),⟨by dsimp only;omega,by dsimp only;omega⟩,some [some 0,some 1,some 2,some 3,some 4],?_⟩
        dsimp only
        rw[h.1,h.2.1,h.2.2]
        (repeat' ((conv=>whnf);first|(with_reducible first|apply spl|apply spl'|refine iJ ?_)<;>intro hc<;>try(exfalso;omega)|refine vcq ?_|fail));all_goals(try conv=>whnf);try exact trivial
       ·(repeat' ((conv=>whnf);first|(with_reducible first|apply spl|apply spl'|refine iJ ?_)<;>intro hc<;>try(exfalso;omega)|refine vcq ?_|fail));all_goals(try conv=>whnf);try exact trivial
        refine⟨(i+1,true),⟨by dsimp only;omega,by dsimp only;omega⟩,some [some 0,some 1,some 2,some 3,some 4],?_⟩
        dsimp only
        rw[h.1,h.2.1,h.2.2]
        (repeat' ((conv=>whnf);first|(with_reducible first|apply spl|apply spl'|refine iJ ?_)<;>intro hc<;>try(exfalso;omega)|refine vcq ?_|fail));all_goals(try conv=>whnf);try exact trivial
     ·have h:=hrd L hL
      have hpl:=PutL.len hsm.2.1 hL
      unfold Sv.o
      (repeat' ((conv=>whnf);first|(with_reducible first|apply spl|apply spl'|refine iJ ?_)<;>intro hc<;>try(exfalso;omega)|refine vcq ?_|fail));all_goals(try conv=>whnf);try exact trivial
      refine a0f [0,7,1,3,5] (write128F_false s L hpl (PutL.mem hb (fun w hw=>(hsm.2.2.1 w hw).2) hL) (s.at i).M ((s.at i).E.length-1) b 2) rfl ?_ ?_
      ·unfold Sv.o
       (repeat' ((conv=>whnf);first|(with_reducible first|apply spl|apply spl'|refine iJ ?_)<;>intro hc<;>try(exfalso;omega)|refine vcq ?_|fail));all_goals(try conv=>whnf);try exact trivial
      ·rintro _ _ ⟨rfl,nz,rfl⟩
       unfold Sv.o
       rcases nz with _|_
       ·(repeat' ((conv=>whnf);first|(with_reducible first|apply spl|apply spl'|refine iJ ?_)<;>intro hc<;>try(exfalso;omega)|refine vcq ?_|fail));all_goals(try conv=>whnf);try exact trivial
        refine⟨(i+1,false),⟨by dsimp only;omega,by dsimp only;omega⟩,some [some 0,some 1,some 2,some 3,some 7],?_⟩
        dsimp only
        rw[h.1,h.2.1,h.2.2]
        (repeat' ((conv=>whnf);first|(with_reducible first|apply spl|apply spl'|refine iJ ?_)<;>intro hc<;>try(exfalso;omega)|refine vcq ?_|fail));all_goals(try conv=>whnf);try exact trivial
       ·(repeat' ((conv=>whnf);first|(with_reducible first|apply spl|apply spl'|refine iJ ?_)<;>intro hc<;>try(exfalso;omega)|refine vcq ?_|fail));all_goals(try conv=>whnf);try exact trivial
        refine⟨(i+1,true),⟨by dsimp only;omega,by dsimp only;omega⟩,some [some 0,some 1,some 2,some 3,some 7],?_⟩
        dsimp only
        rw[h.1,h.2.1,h.2.2]
        (repeat' ((conv=>whnf);first|(with_reducible first|apply spl|apply spl'|refine iJ ?_)<;>intro hc<;>try(exfalso;omega)|refine vcq ?_|fail));all_goals(try conv=>whnf);try exact trivial
   ·-- barrier
    have hil:i<s.x.l.length:=by omega
    obtain⟨o1,o2,hoe,hk⟩:=Sv.ord_at hx hil
    rw[hti,hoe] at hc
    have hc:o1=3:=hc
    subst hc
    have h:=Sv.rnd3 hx hil hoe
    have hE:(s.at i).E.length+1-1=(s.at i).E.length-1+1:=by omega
    refine⟨(i+1,true),⟨by dsimp only;omega,by dsimp only;omega⟩,some [some 0,some 1,some 2,some 3,some 4],?_⟩
    dsimp only
    rw[h.1,h.2.1,h.2.2,hE]
    (repeat' ((conv=>whnf);first|(with_reducible first|apply spl|apply spl'|refine iJ ?_)<;>intro hc<;>try(exfalso;omega)|refine vcq ?_|fail));all_goals(try conv=>whnf);try exact trivial
   ·-- flush
    have hil:i<s.x.l.length:=by omega
    obtain⟨o1,o2,hoe,hk⟩:=Sv.ord_at hx hil
    rw[hti,hoe] at hc
    have hc:o1=4:=hc
    subst hc
    rw[hti,hoe]
    dsimp only
    have h:=Sv.rnd4 hx hil hoe
    refine a0f [0,4,1] (write128A_true s ((s.at i).ents s.n) (by omega) (fun w hw=>(hsm.2.2.1 w hw).2) (s.at i).M) rfl ?_ ?_
    ·unfold Sv.o
     (repeat' ((conv=>whnf);first|(with_reducible first|apply spl|apply spl'|refine iJ ?_)<;>intro hc<;>try(exfalso;omega)|refine vcq ?_|fail));all_goals(try conv=>whnf);try exact trivial
    ·rintro _ _ ⟨rfl,nz,rfl⟩
     unfold Sv.o
     rcases nz with _|_
     ·(repeat' ((conv=>whnf);first|(with_reducible first|apply spl|apply spl'|refine iJ ?_)<;>intro hc<;>try(exfalso;omega)|refine vcq ?_|fail));all_goals(try conv=>whnf);try exact trivial
      refine⟨(i+1,false),⟨by dsimp only;omega,by dsimp only;omega⟩,some [some 0,some 1,some 2,some 3,some 4],?_⟩
      dsimp only
      rw[h.1,h.2.1,h.2.2]
      (repeat' ((conv=>whnf);first|(with_reducible first|apply spl|apply spl'|refine iJ ?_)<;>intro hc<;>try(exfalso;omega)|refine vcq ?_|fail));all_goals(try conv=>whnf);try exact trivial
     ·(repeat' ((conv=>whnf);first|(with_reducible first|apply spl|apply spl'|refine iJ ?_)<;>intro hc<;>try(exfalso;omega)|refine vcq ?_|fail));all_goals(try conv=>whnf);try exact trivial
      refine⟨(i+1,true),⟨by dsimp only;omega,by dsimp only;omega⟩,some [some 0,some 1,some 2,some 3,some 4],?_⟩
      dsimp only
      rw[h.1,h.2.1,h.2.2]
      (repeat' ((conv=>whnf);first|(with_reducible first|apply spl|apply spl'|refine iJ ?_)<;>intro hc<;>try(exfalso;omega)|refine vcq ?_|fail));all_goals(try conv=>whnf);try exact trivial
   ·-- another
    exfalso
    have hil:i<s.x.l.length:=by omega
    obtain⟨o1,o2,hoe,hk⟩:=Sv.ord_at hx hil
    simp only[hti,hoe] at *
    rcases hk with⟨h1|h1,_⟩|⟨h1|h1,_⟩<;>contradiction
   ·-- the end
    obtain rfl:i=s.x.l.length:=by omega
    refine⟨_,_,⟨rfl,true,rfl⟩,some [some 0,some 1,some 4],?_⟩
    unfold Sv.o
    (repeat' ((conv=>whnf);first|(with_reducible first|apply spl|apply spl'|refine iJ ?_)<;>intro hc<;>try(exfalso;omega)|refine vcq ?_|fail));all_goals(try conv=>whnf);try exact trivial
end Go.Proofs
namespace Go.Proofs
open Go Go.Sx
set_option maxRecDepth 100000
set_option maxHeartbeats 4000000
namespace Dk
theorem Spre_len (d:Dk) (i k:Nat):(d.Spre i k).length=(d.Spre i 0).length+k:=by unfold Spre;simp
theorem Spre_sum (d:Dk) (i k:Nat):(d.Spre i k).sum=(d.Spre i 0).sum+k*(d.Z.getD i (0,0)).2.toNat:=by unfold Spre;simp
theorem Spre_len_succ (d:Dk) {i:Nat} (hi:i<d.Z.length):(d.Spre (i+1) 0).length=(d.Spre i 0).length+(d.Z.getD i (0,0)).1.toNat:=by rw[Spre_zone d i hi,Spre_len]
theorem Spre_sum_succ (d:Dk) {i:Nat} (hi:i<d.Z.length):(d.Spre (i+1) 0).sum=(d.Spre i 0).sum+(d.Z.getD i (0,0)).1.toNat*(d.Z.getD i (0,0)).2.toNat:=by rw[Spre_zone d i hi,Spre_sum]
theorem Spre_le {d:Dk} (hd:d.Ok):∀i,i≤d.Z.length→(d.Spre i 0).length≤20*i∧(d.Spre i 0).sum≤320*i
 |0,_=>by rw[Spre_zero];simp
 |i+1,h=>by
  have ih:=Spre_le hd i (by omega)
  have hz:=zone_at hd (show i<d.Z.length by omega)
  rw[Spre_len_succ d (by omega),Spre_sum_succ d (by omega)]
  have:(d.Z.getD i (0,0)).1.toNat*(d.Z.getD i (0,0)).2.toNat≤20*16:=Nat.mul_le_mul (by omega) (by omega)
  omega
end Dk
theorem mul_bnd {a b m n:Int} (h1:1≤a) (h2:a≤m) (h3:1≤b) (h4:b≤n):0≤a*b∧a*b≤m*n:=
 ⟨Int.mul_nonneg (by omega) (by omega),Int.mul_le_mul h2 h4 (by omega) (by omega)⟩
theorem a2j {a b m n:Int} (h1:0≤a) (h2:a≤m) (h3:0≤b) (h4:b≤n):0≤a*b∧a*b≤m*n:=
 ⟨Int.mul_nonneg h1 h3,Int.mul_le_mul h2 h4 h3 (by omega)⟩
theorem Cylinders49 (d:Dk) (hd:d.Ok):a0h Tryz.prog 96 false [d.v] (·=.int .i64 d.S.length):=by
 have hZ:=hd.z
 refine a0a Tryz.E_ok Tryz.func96 rfl (by kernel_rfl) ?_
 (repeat' ((conv=>whnf);first|(with_reducible first|apply spl|apply spl'|refine iJ ?_)<;>intro hc<;>try(exfalso;omega)|refine vcq ?_|refine dr 18 ?_));all_goals(try conv=>whnf);try exact trivial
 refine⟨Nat,fun i=>i≤d.Z.length,fun i=>d.Z.length-i,fun i=>[(4,.int .i64 (i:Nat)),(3,.int .i64 ((d.Spre i 0).length:Nat))],fun _=>[],fun _=>[],0,⟨by omega,none,?_⟩,?_⟩
 ·(repeat' ((conv=>whnf);first|(with_reducible first|apply spl|apply spl'|refine iJ ?_)<;>intro hc<;>try(exfalso;omega)|refine vcq ?_|refine dr 18 ?_));all_goals(try conv=>whnf);try exact trivial
 ·intro i hi
  have hi:i≤d.Z.length:=hi
  have hti:(i:Int).toNat=i:=Int.toNat_natCast i
  have hle:=Dk.Spre_le hd i hi
  by_cases hi1:i<d.Z.length
  ·have hz:=Dk.zone_at hd hi1
   have hs:=Dk.Spre_len_succ d hi1
   have hle2:=Dk.Spre_le hd (i+1) hi1
   (repeat' ((conv=>whnf);first|(with_reducible first|apply spl|apply spl'|refine iJ ?_)<;>intro hc<;>try(exfalso;omega)|refine vcq ?_|refine dr 18 ?_));all_goals(try conv=>whnf);try exact trivial
   rw[hti]
   (repeat' ((conv=>whnf);first|(with_reducible first|apply spl|apply spl'|refine iJ ?_)<;>intro hc<;>try(exfalso;omega)|refine vcq ?_|refine dr 18 ?_));all_goals(try conv=>whnf);try exact trivial
   refine⟨i+1,⟨by omega,by dsimp only;omega⟩,none,?_⟩
   (repeat' ((conv=>whnf);first|(with_reducible first|apply spl|apply spl'|refine iJ ?_)<;>intro hc<;>try(exfalso;omega)|refine vcq ?_|refine dr 18 ?_));all_goals(try conv=>whnf);try exact trivial
  ·obtain rfl:i=d.Z.length:=by omega
   (repeat' ((conv=>whnf);first|(with_reducible first|apply spl|apply spl'|refine iJ ?_)<;>intro hc<;>try(exfalso;omega)|refine vcq ?_|refine dr 18 ?_));all_goals(try conv=>whnf);try exact trivial
   rw[Dk.Spre_all]
   refine⟨_,rfl,?_⟩
   (repeat' ((conv=>whnf);first|(with_reducible first|apply spl|apply spl'|refine iJ ?_)<;>intro hc<;>try(exfalso;omega)|refine vcq ?_|refine dr 18 ?_));all_goals(try conv=>whnf);try exact trivial
theorem Count57 (d:Dk) (hd:d.Ok):a0h Tryz.prog 80 false [d.v] (·=.int .i64 d.cnt):=by
 have hZ:=hd.z
 have hH:=hd.h
 refine a0a Tryz.E_ok Tryz.func80 rfl (by kernel_rfl) ?_
 (repeat' ((conv=>whnf);first|(with_reducible first|apply spl|apply spl'|refine iJ ?_)<;>intro hc<;>try(exfalso;omega)|refine vcq ?_|refine dr 18 ?_));all_goals(try conv=>whnf);try exact trivial
 refine⟨Nat,fun i=>i≤d.Z.length,fun i=>d.Z.length-i,fun i=>[(4,.int .i64 (i:Nat)),(3,.int .i64 ((d.H.toNat*(d.Spre i 0).sum:Nat)))],fun _=>[],fun _=>[],0,⟨by omega,none,?_⟩,?_⟩
 ·(repeat' ((conv=>whnf);first|(with_reducible first|apply spl|apply spl'|refine iJ ?_)<;>intro hc<;>try(exfalso;omega)|refine vcq ?_|refine dr 18 ?_));all_goals(try conv=>whnf);try exact trivial
 ·intro i hi
  have hi:i≤d.Z.length:=hi
  have hti:(i:Int).toNat=i:=Int.toNat_natCast i
  have hle:=Dk.Spre_le hd i hi
  by_cases hi1:i<d.Z.length
  ·have hz:=Dk.zone_at hd hi1
   have hs:=Dk.Spre_sum_succ d hi1
   have hle2:=Dk.Spre_le hd (i+1) hi1
   have m1:0≤(d.Z.getD i (0,0)).1*(d.Z.getD i (0,0)).2∧(d.Z.getD i (0,0)).1*(d.Z.getD i (0,0)).2≤20*16:=mul_bnd hz.1.1 hz.1.2 hz.2.1.1 hz.2.1.2
   have m2:0≤(d.Z.getD i (0,0)).1*(d.Z.getD i (0,0)).2*d.H∧(d.Z.getD i (0,0)).1*(d.Z.getD i (0,0)).2*d.H≤320*4:=a2j m1.1 m1.2 (by omega) hH.2
   have m3:((d.H.toNat*(d.Spre (i+1) 0).sum:Nat):Int)=((d.H.toNat*(d.Spre i 0).sum:Nat):Int)+(d.Z.getD i (0,0)).1*(d.Z.getD i (0,0)).2*d.H:=by
    rw[hs]
    push_cast
    rw[Int.toNat_of_nonneg (by omega),Int.toNat_of_nonneg (by omega),Int.toNat_of_nonneg (by omega),Int.mul_add,Int.mul_comm d.H ((d.Z.getD i (0,0)).1*_)]
   have m4:d.H.toNat*(d.Spre i 0).sum≤4*1280:=Nat.mul_le_mul (by omega) (by omega)
   (repeat' ((conv=>whnf);first|(with_reducible first|apply spl|apply spl'|refine iJ ?_)<;>intro hc<;>try(exfalso;omega)|refine vcq ?_|refine dr 18 ?_));all_goals(try conv=>whnf);try exact trivial
   rw[hti]
   (repeat' ((conv=>whnf);first|(with_reducible first|apply spl|apply spl'|refine iJ ?_)<;>intro hc<;>try(exfalso;omega)|refine vcq ?_|refine dr 18 ?_));all_goals(try conv=>whnf);try exact trivial
   refine⟨i+1,⟨by omega,by dsimp only;omega⟩,none,?_⟩
   (repeat' ((conv=>whnf);first|(with_reducible first|apply spl|apply spl'|refine iJ ?_)<;>intro hc<;>try(exfalso;omega)|refine vcq ?_|refine dr 18 ?_));all_goals(try conv=>whnf);try exact trivial
  ·obtain rfl:i=d.Z.length:=by omega
   (repeat' ((conv=>whnf);first|(with_reducible first|apply spl|apply spl'|refine iJ ?_)<;>intro hc<;>try(exfalso;omega)|refine vcq ?_|refine dr 18 ?_));all_goals(try conv=>whnf);try exact trivial
   rw[Dk.Spre_all]
   refine⟨_,rfl,?_⟩
   (repeat' ((conv=>whnf);first|(with_reducible first|apply spl|apply spl'|refine iJ ?_)<;>intro hc<;>try(exfalso;omega)|refine vcq ?_|refine dr 18 ?_));all_goals(try conv=>whnf);try exact trivial
theorem IsSector56 (d:Dk) (hd:d.Ok) (n:Int):a0h Tryz.prog 99 false [d.v,.int .i64 n] (·=.prop (0≤n∧n≤d.cnt-1) inferInstance):=by
 have hc:=d.cnt_le hd
 refine a0a Tryz.E_ok Tryz.func99 rfl (by kernel_rfl) ?_
 (repeat' ((conv=>whnf);first|(with_reducible first|apply spl|apply spl'|refine iJ ?_)<;>intro hc<;>try(exfalso;omega)|refine vcq ?_|refine dr 18 ?_));all_goals((try conv=>whnf);try exact trivial);(repeat' ((first|(refine a0b (Count57 d hd) rfl ?_;rintro _ rfl)|(refine a0c (Count57 d hd) rfl ?_)|(refine a0g (fun _=>Count57 d hd) rfl ?_)|(refine a0b (a2r _ _ _) rfl ?_;rintro _ rfl)|(refine a0c (a2r _ _ _) rfl ?_)|(refine a0g (fun _=>a2r _ _ _) rfl ?_));(repeat' ((conv=>whnf);first|(with_reducible first|apply spl|apply spl'|refine iJ ?_)<;>intro hc<;>try(exfalso;omega)|refine vcq ?_|refine dr 18 ?_));all_goals((try conv=>whnf);try exact trivial)));(all_goals(try(refine⟨_,rfl,?_⟩;(repeat' ((conv=>whnf);first|(with_reducible first|apply spl|apply spl'|refine iJ ?_)<;>intro hc<;>try(exfalso;omega)|refine vcq ?_|refine dr 18 ?_));all_goals((try conv=>whnf);try exact trivial))))
theorem IsRun38 (d:Dk) (hd:d.Ok) (n m:Int):a0h Tryz.prog 65 false [d.v,.int .i64 n,.int .i64 m] (·=.prop ((0≤n∧n≤d.cnt-1)∧1≤m∧m≤d.cnt-n) inferInstance):=by
 have hcn:=d.cnt_le hd
 refine a0a Tryz.E_ok Tryz.func65 rfl (by kernel_rfl) ?_
 (repeat' ((conv=>whnf);first|(with_reducible first|apply spl|apply spl'|refine iJ ?_)<;>intro hc<;>try(exfalso;omega)|refine vcq ?_|refine dr 18 ?_));all_goals((try conv=>whnf);try exact trivial);(repeat' ((first|(refine a0b (IsSector56 d hd n) rfl ?_;rintro _ rfl)|(refine a0c (IsSector56 d hd n) rfl ?_)|(refine a0g (fun _=>IsSector56 d hd n) rfl ?_)|(refine a0b (Count57 d hd) rfl ?_;rintro _ rfl)|(refine a0c (Count57 d hd) rfl ?_)|(refine a0g (fun _=>Count57 d hd) rfl ?_)|(refine a0b (a2r _ _ _) rfl ?_;rintro _ rfl)|(refine a0c (a2r _ _ _) rfl ?_)|(refine a0g (fun _=>a2r _ _ _) rfl ?_));(repeat' ((conv=>whnf);first|(with_reducible first|apply spl|apply spl'|refine iJ ?_)<;>intro hc<;>try(exfalso;omega)|refine vcq ?_|refine dr 18 ?_));all_goals((try conv=>whnf);try exact trivial)))
 ·refine⟨_,rfl,?_⟩
  (repeat' ((conv=>whnf);first|(with_reducible first|apply spl|apply spl'|refine iJ ?_)<;>intro hc<;>try(exfalso;omega)|refine vcq ?_|refine dr 18 ?_));all_goals(try conv=>whnf);try exact trivial
 ·refine⟨_,rfl,?_⟩
  (repeat' ((conv=>whnf);first|(with_reducible first|apply spl|apply spl'|refine iJ ?_)<;>intro hc<;>try(exfalso;omega)|refine vcq ?_|refine dr 18 ?_));all_goals(try conv=>whnf);try exact trivial
namespace Dk
theorem Spre_mono (d:Dk) {i j:Nat} (h:i≤j) (hj:j≤d.Z.length):(d.Spre i 0).length≤(d.Spre j 0).length:=by
 induction j with
 |zero=>(obtain rfl:i=0:=by omega);exact Nat.le_refl _
 |succ j ih=>
  rcases Nat.lt_or_eq_of_le h with g|rfl
  ·have:=ih (by omega) (by omega)
   rw[Spre_len_succ d (by omega)]
   omega
  ·exact Nat.le_refl _
theorem zone_ex (d:Dk) {c:Nat} (hc:c<d.S.length):∃i,i<d.Z.length∧(d.Spre i 0).length≤c∧c<(d.Spre (i+1) 0).length:=by
 have key:∀m,m≤d.Z.length→(d.Spre m 0).length≤c∨∃i,i<m∧(d.Spre i 0).length≤c∧c<(d.Spre (i+1) 0).length:=by
  intro m
  induction m with
  |zero=>intro _;left;rw[Spre_zero];simp
  |succ m ih=>
   intro hm
   rcases ih (by omega) with g|⟨i,h1,h2⟩
   ·rcases Nat.lt_or_ge c (d.Spre (m+1) 0).length with g2|g2
    ·exact .inr ⟨m,by omega,g,g2⟩
    ·exact .inl g2
   ·exact .inr ⟨i,by omega,h2⟩
 rcases key d.Z.length (Nat.le_refl _) with g|⟨i,h1,h2⟩
 ·rw[Spre_all] at g;omega
 ·exact⟨i,h1,h2⟩
theorem zone_sec (d:Dk) {c i:Nat} (hi:i<d.Z.length) (h1:(d.Spre i 0).length≤c) (h2:c<(d.Spre (i+1) 0).length):d.S.getD c 0=(d.Z.getD i (0,0)).2.toNat:=by
 rw[Spre_len_succ d hi] at h2
 have hg:=d.Spre_get i (c-(d.Spre i 0).length) hi (by omega)
 rw[Dk.Spre_len,show(d.Spre i 0).length+(c-(d.Spre i 0).length)=c by omega] at hg
 exact hg.2.1
end Dk
theorem ZoneOf76 (d:Dk) (hd:d.Ok) (c i:Nat) (hi:i<d.Z.length) (h1:(d.Spre i 0).length≤c) (h2:c<(d.Spre (i+1) 0).length):a0h Tryz.prog 142 false [d.v,.int .i64 c] (·=.int .i64 i):=by
 have hZ:=hd.z
 have hpi:=Dk.Spre_le hd (i+1) hi
 refine a0a Tryz.E_ok Tryz.func142 rfl (by kernel_rfl) ?_
 (repeat' ((conv=>whnf);first|(with_reducible first|apply spl|apply spl'|refine iJ ?_)<;>intro hc<;>try(exfalso;omega)|refine vcq ?_|refine dr 18 ?_));all_goals(try conv=>whnf);try exact trivial
 refine⟨Nat,fun j=>j≤i,fun j=>d.Z.length-j,fun j=>[(5,.int .i64 (j:Nat)),(1,.int .i64 (c-(d.Spre j 0).length:Nat))],fun _=>[],fun _=>[],0,⟨by omega,none,?_⟩,?_⟩
 ·(repeat' ((conv=>whnf);first|(with_reducible first|apply spl|apply spl'|refine iJ ?_)<;>intro hc<;>try(exfalso;omega)|refine vcq ?_|refine dr 18 ?_));all_goals(try conv=>whnf);try exact trivial
 ·intro j hj
  have hj:j≤i:=hj
  have htj:(j:Int).toNat=j:=Int.toNat_natCast j
  have hz:=Dk.zone_at hd (show j<d.Z.length by omega)
  have hs:=Dk.Spre_len_succ d (show j<d.Z.length by omega)
  have hle:=d.Spre_mono hj (by omega)
  (repeat' ((conv=>whnf);first|(with_reducible first|apply spl|apply spl'|refine iJ ?_)<;>intro hc<;>try(exfalso;omega)|refine vcq ?_|refine dr 18 ?_));all_goals(try conv=>whnf);try exact trivial
  ·rw[htj] at hc
   rcases Nat.lt_or_eq_of_le hj with g|rfl
   ·have:=d.Spre_mono (show j+1≤i by omega) (by omega)
    omega
   ·refine⟨_,rfl,?_⟩
    (repeat' ((conv=>whnf);first|(with_reducible first|apply spl|apply spl'|refine iJ ?_)<;>intro hc<;>try(exfalso;omega)|refine vcq ?_|refine dr 18 ?_));all_goals(try conv=>whnf);try exact trivial
  ·rw[htj] at hc
   rcases Nat.lt_or_eq_of_le hj with g|rfl
   ·have hm2:=d.Spre_mono (show j+1≤i by omega) (by omega)
    rw[htj]
    (repeat' ((conv=>whnf);first|(with_reducible first|apply spl|apply spl'|refine iJ ?_)<;>intro hc<;>try(exfalso;omega)|refine vcq ?_|refine dr 18 ?_));all_goals(try conv=>whnf);try exact trivial
    refine⟨j+1,⟨by omega,by dsimp only;omega⟩,none,?_⟩
    (repeat' ((conv=>whnf);first|(with_reducible first|apply spl|apply spl'|refine iJ ?_)<;>intro hc<;>try(exfalso;omega)|refine vcq ?_|refine dr 18 ?_));all_goals(try conv=>whnf);try exact trivial
   ·omega
theorem Sectors54 (d:Dk) (hd:d.Ok) (c:Nat) (hc1:c<d.S.length):a0h Tryz.prog 97 false [d.v,.int .i64 c] (·=.int .i64 (d.S.getD c 0:Nat)):=by
 have hZ:=hd.z
 obtain⟨i,hi,h1,h2⟩:=d.zone_ex hc1
 have hz:=Dk.zone_at hd hi
 have hti:(i:Int).toNat=i:=Int.toNat_natCast i
 rw[d.zone_sec hi h1 h2]
 refine a0a Tryz.E_ok Tryz.func97 rfl (by kernel_rfl) ?_
 (repeat' ((conv=>whnf);first|(with_reducible first|apply spl|apply spl'|refine iJ ?_)<;>intro hc<;>try(exfalso;omega)|refine vcq ?_|refine dr 9 ?_));all_goals(try conv=>whnf);try exact trivial
 refine a0c (ZoneOf76 d hd c i hi h1 h2) rfl ?_
 (repeat' ((conv=>whnf);first|(with_reducible first|apply spl|apply spl'|refine iJ ?_)<;>intro hc<;>try(exfalso;omega)|refine vcq ?_|refine dr 9 ?_));all_goals(try conv=>whnf);try exact trivial
 rw[hti,Int.toNat_of_nonneg (by omega)]
 refine⟨_,rfl,?_⟩
 (repeat' ((conv=>whnf);first|(with_reducible first|apply spl|apply spl'|refine iJ ?_)<;>intro hc<;>try(exfalso;omega)|refine vcq ?_|refine dr 18 ?_));all_goals(try conv=>whnf);try exact trivial
theorem at_lt {H:Nat} {S:List Nat} {n c h s:Nat} (g:AtS H S n c h s):n<H*S.sum:=by
 obtain⟨h1,h2,h3,h4⟩:=g
 have e1:=a2q H S c h
 have e2:fstS H S c (h+1)≤fstS H S c H:=by unfold fstS;exact Nat.add_le_add_left (Nat.mul_le_mul_right _ h2) _
 have e3:=fstS_cyl H S c h1
 have e4:fstS H S (c+1) 0≤H*S.sum:=by
  unfold fstS
  rw[Nat.zero_mul,Nat.add_zero]
  refine Nat.mul_le_mul_left _ ?_
  conv=>rhs;rw[←List.take_append_drop (c+1) S,List.sum_append]
  omega
 omega
def plC (p:Nat×Nat×Nat):List V:=[.int .i64 p.1,.int .i64 p.2.1,.int .i64 p.2.2]
def Dk.plR (d:Dk) (n:Nat):List V:=plC (loc d.H.toNat d.S n)
theorem Places36 (d:Dk) (hd:d.Ok):a0h Tryz.prog 62 false [d.v] (·=.sl 3 d.cnt d.plR):=by
 have hZ:=hd.z
 have hH:=hd.h
 have hS:=d.S_len hd
 have hcn:=d.cnt_le hd
 have hpos:=d.S_pos hd
 have hHn:(d.H.toNat:Int)=d.H:=Int.toNat_of_nonneg (by omega)
 have hall:fstS d.H.toNat d.S d.S.length 0=d.cnt:=fstS_all _ _
 refine a0a Tryz.E_ok Tryz.func62 rfl (by kernel_rfl) ?_
 (repeat' ((conv=>whnf);first|(with_reducible first|apply spl|apply spl'|refine iJ ?_)<;>intro hc<;>try(exfalso;omega)|refine vcq ?_|refine dr 18 ?_));all_goals(try conv=>whnf);try exact trivial
 refine⟨Nat,fun c=>c≤d.S.length,fun c=>d.S.length-c,fun c=>[(4,.int .i64 (c:Nat)),(3,.osl 1 (fstS d.H.toNat d.S c 0))],fun _=>[],fun c=>[.row 115 3 (fstS d.H.toNat d.S c 0) d.plR true],0,⟨by omega,some [some 0,none],?_⟩,?_⟩
 ·(repeat' ((conv=>whnf);first|(with_reducible first|apply spl|apply spl'|refine iJ ?_)<;>intro hc<;>try(exfalso;omega)|refine vcq ?_|refine dr 18 ?_));all_goals(try conv=>whnf);try exact trivial
  rw[fstS_zero]
  refine⟨rfl,?_⟩
  (repeat' ((conv=>whnf);first|(with_reducible first|apply spl|apply spl'|refine iJ ?_)<;>intro hc<;>try(exfalso;omega)|refine vcq ?_|refine dr 18 ?_));all_goals(try conv=>whnf);try exact trivial
 ·intro c hc0
  have hc0:c≤d.S.length:=hc0
  (repeat' ((conv=>whnf);first|(with_reducible first|apply spl|apply spl'|refine iJ ?_)<;>intro hc<;>try(exfalso;omega)|refine vcq ?_|refine dr 18 ?_));all_goals((try conv=>whnf);try exact trivial);(repeat' ((first|(refine a0b (Cylinders49 d hd) rfl ?_;rintro _ rfl)|(refine a0c (Cylinders49 d hd) rfl ?_)|(refine a0g (fun _=>Cylinders49 d hd) rfl ?_));(repeat' ((conv=>whnf);first|(with_reducible first|apply spl|apply spl'|refine iJ ?_)<;>intro hc<;>try(exfalso;omega)|refine vcq ?_|refine dr 18 ?_));all_goals((try conv=>whnf);try exact trivial)))
  ·have hcl:c<d.S.length:=by omega
   refine⟨Nat,fun h=>h≤d.H.toNat,fun h=>d.H.toNat-h,fun h=>[(5,.int .i64 (h:Nat)),(3,.osl 1 (fstS d.H.toNat d.S c h))],fun h=>[(1,.row 115 3 (fstS d.H.toNat d.S c h) d.plR true)],fun _=>[],0,⟨by omega,none,?_⟩,?_⟩
   ·(repeat' ((conv=>whnf);first|(with_reducible first|apply spl|apply spl'|refine iJ ?_)<;>intro hc<;>try(exfalso;omega)|refine vcq ?_|refine dr 18 ?_));all_goals(try conv=>whnf);try exact trivial
   ·intro h hh
    have hh:h≤d.H.toNat:=hh
    (repeat' ((conv=>whnf);first|(with_reducible first|apply spl|apply spl'|refine iJ ?_)<;>intro hc<;>try(exfalso;omega)|refine vcq ?_|refine dr 18 ?_));all_goals(try conv=>whnf);try exact trivial
    ·have hhl:h<d.H.toNat:=by omega
     refine⟨Nat,fun s=>s≤d.S.getD c 0,fun s=>d.S.getD c 0-s,fun s=>[(6,.int .i64 (s:Nat)),(3,.osl 1 (fstS d.H.toNat d.S c h+s))],fun s=>[(1,.row 115 3 (fstS d.H.toNat d.S c h+s) d.plR true)],fun _=>[],0,⟨by omega,none,?_⟩,?_⟩
     ·(repeat' ((conv=>whnf);first|(with_reducible first|apply spl|apply spl'|refine iJ ?_)<;>intro hc<;>try(exfalso;omega)|refine vcq ?_|refine dr 18 ?_));all_goals(try conv=>whnf);try exact trivial
      rfl
     ·intro s hs0
      have hs0:s≤d.S.getD c 0:=hs0
      (repeat' ((conv=>whnf);first|(with_reducible first|apply spl|apply spl'|refine iJ ?_)<;>intro hc<;>try(exfalso;omega)|refine vcq ?_|refine dr 18 ?_));all_goals((try conv=>whnf);try exact trivial);(repeat' ((first|(refine a0b (Sectors54 d hd c hcl) rfl ?_;rintro _ rfl)|(refine a0c (Sectors54 d hd c hcl) rfl ?_)|(refine a0g (fun _=>Sectors54 d hd c hcl) rfl ?_));(repeat' ((conv=>whnf);first|(with_reducible first|apply spl|apply spl'|refine iJ ?_)<;>intro hc<;>try(exfalso;omega)|refine vcq ?_|refine dr 18 ?_));all_goals((try conv=>whnf);try exact trivial)))
      ·have hsl:s<d.S.getD c 0:=by omega
       have hat:AtS d.H.toNat d.S (fstS d.H.toNat d.S c h+s) c h s:=⟨hcl,hhl,hsl,rfl⟩
       have hb:=at_lt hat
       have hloc:=loc_of hat
       have hb:fstS d.H.toNat d.S c h+s<d.cnt:=hb
       refine⟨by omega,?_⟩
       (repeat' ((conv=>whnf);first|(with_reducible first|apply spl|apply spl'|refine iJ ?_)<;>intro hc<;>try(exfalso;omega)|refine vcq ?_|refine dr 18 ?_));all_goals(try conv=>whnf);try exact trivial
       refine⟨s+1,⟨by omega,by dsimp only;omega⟩,some [some 0,some 3],?_⟩
       (repeat' ((conv=>whnf);first|(with_reducible first|apply spl|apply spl'|refine iJ ?_)<;>intro hc<;>try(exfalso;omega)|refine vcq ?_|refine dr 18 ?_));all_goals(try conv=>whnf);try exact trivial
       refine⟨appF_one (by unfold Dk.plR;rw[hloc];rfl),?_⟩
       (repeat' ((conv=>whnf);first|(with_reducible first|apply spl|apply spl'|refine iJ ?_)<;>intro hc<;>try(exfalso;omega)|refine vcq ?_|refine dr 18 ?_));all_goals(try conv=>whnf);try exact trivial
      ·obtain rfl:s=d.S.getD c 0:=by omega
       rw[show fstS d.H.toNat d.S c h+d.S.getD c 0=fstS d.H.toNat d.S c (h+1) from(a2q _ _ _ _).symm]
       refine⟨h+1,⟨by omega,by dsimp only;omega⟩,none,?_⟩
       (repeat' ((conv=>whnf);first|(with_reducible first|apply spl|apply spl'|refine iJ ?_)<;>intro hc<;>try(exfalso;omega)|refine vcq ?_|refine dr 18 ?_));all_goals(try conv=>whnf);try exact trivial
    ·obtain rfl:h=d.H.toNat:=by omega
     rw[←fstS_cyl d.H.toNat d.S c hcl]
     refine⟨c+1,⟨by omega,by dsimp only;omega⟩,some [some 0,some 1],?_⟩
     (repeat' ((conv=>whnf);first|(with_reducible first|apply spl|apply spl'|refine iJ ?_)<;>intro hc<;>try(exfalso;omega)|refine vcq ?_|refine dr 18 ?_));all_goals(try conv=>whnf);try exact trivial
  ·obtain rfl:c=d.S.length:=by omega
   rw[hall]
   refine⟨_,rfl,?_⟩
   (repeat' ((conv=>whnf);first|(with_reducible first|apply spl|apply spl'|refine iJ ?_)<;>intro hc<;>try(exfalso;omega)|refine vcq ?_|refine dr 18 ?_));all_goals(try conv=>whnf);try exact trivial
namespace Dk
theorem off_facts {d:Dk} (hd:d.Ok) {c h:Nat} (hc:c<d.S.length) (hh:h<d.H.toNat) :
  (0≤(c:Int)*d.ck∧(c:Int)*d.ck≤80*999)∧(0≤(c:Int)*(d.H-1)∧(c:Int)*(d.H-1)≤80*3)∧(0≤((c:Int)*(d.H-1)+h)*d.hk∧((c:Int)*(d.H-1)+h)*d.hk≤243*999)∧0≤d.off c h∧d.off c h<d.T:=by
 have h1:=hd.h
 have h2:=hd.t
 have h3:=hd.ck
 have h4:=hd.hk
 have hS:=d.S_len hd
 have a1:=a2j (a:=(c:Int)) (b:=d.ck) (m:=80) (n:=999) (by omega) (by omega) (by omega) (by omega)
 have a2:=a2j (a:=(c:Int)) (b:=d.H-1) (m:=80) (n:=3) (by omega) (by omega) (by omega) (by omega)
 have a3:=a2j (a:=(c:Int)*(d.H-1)+h) (b:=d.hk) (m:=243) (n:=999) (by omega) (by omega) (by omega) (by omega)
 exact⟨a1,a2,a3,Int.emod_nonneg _ (by omega),Int.emod_lt_of_pos _ (by omega)⟩
theorem dur_facts {d:Dk} (hd:d.Ok) {c:Nat} (hc:c<d.S.length):(0<(d.S.getD c 0:Int)∧(d.S.getD c 0:Int)≤16)∧d.T.tdiv (d.S.getD c 0:Nat)=d.T / (d.S.getD c 0:Nat)∧0≤d.T / (d.S.getD c 0:Nat)∧d.T / (d.S.getD c 0:Nat)≤1000:=by
 have h2:=hd.t
 have hp:=S_pos hd (d.S.getD c 0) (by rw[a0r hc];exact List.getElem_mem hc)
 refine⟨by omega,Int.tdiv_eq_ediv_of_nonneg (by omega),Int.ediv_nonneg (by omega) (by omega),Int.le_trans (Int.ediv_le_self _ (by omega)) (by omega)⟩
end Dk
theorem offset78 (d:Dk) (hd:d.Ok) (c h:Nat) (hc:c<d.S.length) (hh:h<d.H.toNat):a0h Tryz.prog 144 false [d.v,.int .i64 c,.int .i64 h] (·=.int .i64 (d.off c h)):=by
 obtain⟨a1,a2,a3,a4⟩:=Dk.off_facts hd hc hh
 have h1:=hd.h
 have h2:=hd.t
 have h3:=hd.ck
 have h4:=hd.hk
 refine a0a Tryz.E_ok Tryz.func144 rfl (by kernel_rfl) ?_
 (repeat' ((conv=>whnf);first|(with_reducible first|apply spl|apply spl'|refine iJ ?_)<;>intro hc<;>try(exfalso;omega)|refine vcq ?_|refine dr 13 ?_));all_goals(try conv=>whnf);try exact trivial
 rw[Int.tmod_eq_emod_of_nonneg (by omega)]
 refine⟨_,rfl,?_⟩
 (repeat' ((conv=>whnf);first|(with_reducible first|apply spl|apply spl'|refine iJ ?_)<;>intro hc<;>try(exfalso;omega)|refine vcq ?_|refine dr 13 ?_));all_goals(try conv=>whnf);try exact trivial
theorem begins62 (d:Dk) (hd:d.Ok) (n c h s:Nat) (ha:AtS d.H.toNat d.S n c h s):a0h Tryz.prog 104 false [d.v,.agg [.int .i64 c,.int .i64 h,.int .i64 s]] (·=.int .i64 (d.ang n)):=by
 have h2:=hd.t
 obtain⟨b1,b2,b3⟩:=Dk.dur_facts hd ha.1
 obtain⟨_,_,_,a4⟩:=Dk.off_facts hd ha.1 ha.2.1
 have m1:=a2j (a:=(s:Int)) (b:=d.T / (d.S.getD c 0:Nat)) (m:=16) (n:=1000) (by omega) (by have:=ha.2.2.1;omega) b3.1 b3.2
 have e:d.ang n=(d.off c h+s*(d.T / (d.S.getD c 0:Nat))) % d.T:=by unfold Dk.ang;rw[loc_of ha]
 rw[e]
 refine a0a Tryz.E_ok Tryz.func104 rfl (by kernel_rfl) ?_
 (repeat' ((conv=>whnf);first|(with_reducible first|apply spl|apply spl'|refine iJ ?_)<;>intro hc<;>try(exfalso;omega)|refine vcq ?_|refine dr 21 ?_));all_goals(try conv=>whnf);try exact trivial
 refine a0c (offset78 d hd c h ha.1 ha.2.1) rfl ?_
 (repeat' ((conv=>whnf);first|(with_reducible first|apply spl|apply spl'|refine iJ ?_)<;>intro hc<;>try(exfalso;omega)|refine vcq ?_|refine dr 21 ?_));all_goals(try conv=>whnf);try exact trivial
 refine a0c (Sectors54 d hd c ha.1) rfl ?_
 (repeat' ((conv=>whnf);first|(with_reducible first|apply spl|apply spl'|refine iJ ?_)<;>intro hc<;>try(exfalso;omega)|refine vcq ?_|refine dr 21 ?_));all_goals(try conv=>whnf);try exact trivial
 rw[b2]
 (repeat' ((conv=>whnf);first|(with_reducible first|apply spl|apply spl'|refine iJ ?_)<;>intro hc<;>try(exfalso;omega)|refine vcq ?_|refine dr 21 ?_));all_goals(try conv=>whnf);try exact trivial
 rw[Int.tmod_eq_emod_of_nonneg (by omega)]
 refine⟨_,rfl,?_⟩
 (repeat' ((conv=>whnf);first|(with_reducible first|apply spl|apply spl'|refine iJ ?_)<;>intro hc<;>try(exfalso;omega)|refine vcq ?_|refine dr 13 ?_));all_goals(try conv=>whnf);try exact trivial
theorem After41 (d:Dk) (hd:d.Ok) (t a:Int) (h1:-1000000000000≤t∧t≤1000000000000) (h2:-1000000000000≤a∧a≤1000000000000):a0h Tryz.prog 68 false [d.v,.int .i64 t,.int .i64 a] (·=.int .i64 (((a-t) % d.T+d.T) % d.T)):=by
 have h3:=hd.t
 have h4:=Int.tmod_lt_of_pos (a-t) (show 0<d.T by omega)
 have h5:=Int.lt_tmod_of_pos (a-t) (show 0<d.T by omega)
 rw[←tmod_fix (by omega)]
 refine a0a Tryz.E_ok Tryz.func68 rfl (by kernel_rfl) ?_
 (repeat' ((conv=>whnf);first|(with_reducible first|apply spl|apply spl'|refine iJ ?_)<;>intro hc<;>try(exfalso;omega)|refine vcq ?_|refine dr 13 ?_));all_goals(try conv=>whnf);try exact trivial
 refine⟨_,rfl,?_⟩
 (repeat' ((conv=>whnf);first|(with_reducible first|apply spl|apply spl'|refine iJ ?_)<;>intro hc<;>try(exfalso;omega)|refine vcq ?_|refine dr 13 ?_));all_goals(try conv=>whnf);try exact trivial
theorem checkSector61 (d:Dk) (hd:d.Ok) (n:Nat) (hn:n<d.cnt):a0h Tryz.prog 103 false [d.v,.int .i64 n] (·=.int .i64 0):=by
 have hz:=hd.z
 have hk:=Dk.chk_of hd
 refine a0a Tryz.E_ok Tryz.func103 rfl (by kernel_rfl) ?_
 (repeat' ((conv=>whnf);first|(with_reducible first|apply spl|apply spl'|refine iJ ?_)<;>intro hc<;>try(exfalso;omega)|refine vcq ?_|refine dr 13 ?_));all_goals((try conv=>whnf);try exact trivial);(repeat' ((first|(refine a0b (Check37 d (by omega)) rfl ?_;rintro _ rfl)|(refine a0c (Check37 d (by omega)) rfl ?_)|(refine a0g (fun _=>Check37 d (by omega)) rfl ?_)|(refine a0b (IsSector56 d hd n) rfl ?_;rintro _ rfl)|(refine a0c (IsSector56 d hd n) rfl ?_)|(refine a0g (fun _=>IsSector56 d hd n) rfl ?_));(repeat' ((conv=>whnf);first|(with_reducible first|apply spl|apply spl'|refine iJ ?_)<;>intro hc<;>try(exfalso;omega)|refine vcq ?_|refine dr 13 ?_));all_goals((try conv=>whnf);try exact trivial)))
 refine⟨_,rfl,?_⟩
 (repeat' ((conv=>whnf);first|(with_reducible first|apply spl|apply spl'|refine iJ ?_)<;>intro hc<;>try(exfalso;omega)|refine vcq ?_|refine dr 13 ?_));all_goals(try conv=>whnf);try exact trivial
theorem Angle40 (d:Dk) (hd:d.Ok) (n:Nat) (hn:n<d.cnt):a0h Tryz.prog 67 false [d.v,.int .i64 n] (·=.tup [.int .i64 (d.ang n),.int .i64 (durS d.H.toNat d.S d.T n),.int .i64 0]):=by
 have hat:=at_loc (H:=d.H.toNat) (S:=d.S) hn
 have hcn:=d.cnt_le hd
 refine a0a Tryz.E_ok Tryz.func67 rfl (by kernel_rfl) ?_
 (repeat' ((conv=>whnf);first|(with_reducible first|apply spl|apply spl'|refine iJ ?_)<;>intro hc<;>try(exfalso;omega)|refine vcq ?_|refine dr 13 ?_));all_goals(try conv=>whnf);try exact trivial
 refine a0b (checkSector61 d hd n hn) rfl ?_
 rintro _ rfl
 (repeat' ((conv=>whnf);first|(with_reducible first|apply spl|apply spl'|refine iJ ?_)<;>intro hc<;>try(exfalso;omega)|refine vcq ?_|refine dr 13 ?_));all_goals(try conv=>whnf);try exact trivial
 refine a0b (Places36 d hd) rfl ?_
 rintro _ rfl
 (repeat' ((conv=>whnf);first|(with_reducible first|apply spl|apply spl'|refine iJ ?_)<;>intro hc<;>try(exfalso;omega)|refine vcq ?_|refine dr 13 ?_));all_goals(try conv=>whnf);try exact trivial
 have htn:(n:Int).toNat=n:=Int.toNat_natCast n
 rw[htn]
 refine a0c (begins62 d hd n _ _ _ hat) rfl ?_
 (repeat' ((conv=>whnf);first|(with_reducible first|apply spl|apply spl'|refine iJ ?_)<;>intro hc<;>try(exfalso;omega)|refine vcq ?_|refine dr 13 ?_));all_goals(try conv=>whnf);try exact trivial
 refine a0c (Sectors54 d hd _ hat.1) rfl ?_
 obtain⟨b1,b2,b3⟩:=Dk.dur_facts hd hat.1
 (repeat' ((conv=>whnf);first|(with_reducible first|apply spl|apply spl'|refine iJ ?_)<;>intro hc<;>try(exfalso;omega)|refine vcq ?_|refine dr 13 ?_));all_goals(try conv=>whnf);try exact trivial
 rw[b2]
 (repeat' ((conv=>whnf);first|(with_reducible first|apply spl|apply spl'|refine iJ ?_)<;>intro hc<;>try(exfalso;omega)|refine vcq ?_|refine dr 13 ?_));all_goals(try conv=>whnf);try exact trivial
 refine⟨_,rfl,?_⟩
 (repeat' ((conv=>whnf);first|(with_reducible first|apply spl|apply spl'|refine iJ ?_)<;>intro hc<;>try(exfalso;omega)|refine vcq ?_|refine dr 13 ?_));all_goals(try conv=>whnf);try exact trivial
namespace Dk
def kd (d:Dk) (n:Nat):Nat:=kindS d.H.toNat d.S n
def sw (d:Dk) (k:Nat):Int×Int:=if k=1 then d.hs else if k=2 then d.cs else(0,0)
def sk (d:Dk) (k:Nat):Int:=if k=1 then d.hk else if k=2 then d.ck else 0
theorem kd_le (d:Dk) (n:Nat):d.kd n≤2:=by unfold kd kindS;split<;>(try split)<;>omega
end Dk
theorem Switches58 (d:Dk) (hd:d.Ok) (fr ct:Nat) (h1:1≤ct) (h2:fr+ct≤d.cnt):a0h Tryz.prog 100 false [d.v,.int .i64 fr,.int .i64 ct] (·=.sl 1 (ct-1) (fun i=>[.int .i64 (d.kd (fr+1+i))])):=by
 have hcn:=d.cnt_le hd
 refine a0a Tryz.E_ok Tryz.func100 rfl (by kernel_rfl) ?_
 (repeat' ((conv=>whnf);first|(with_reducible first|apply spl|apply spl'|refine iJ ?_)<;>intro hc<;>try(exfalso;omega)|refine vcq ?_|refine dr 12 ?_));all_goals(try conv=>whnf);try exact trivial
 refine a0b (Places36 d hd) rfl ?_
 rintro _ rfl
 (repeat' ((conv=>whnf);first|(with_reducible first|apply spl|apply spl'|refine iJ ?_)<;>intro hc<;>try(exfalso;omega)|refine vcq ?_|refine dr 12 ?_));all_goals(try conv=>whnf);try exact trivial
 refine⟨Nat,fun i=>i≤ct-1,fun i=>ct-1-i,fun i=>[(9,.int .i64 ((fr+1+i:Nat))),(8,.osl 1 i)],fun _=>[],fun i=>[.row 3 1 i (fun i=>[.int .i64 (d.kd (fr+1+i))]) true],0,⟨by omega,some [some 0,none],?_⟩,?_⟩
 ·(repeat' ((conv=>whnf);first|(with_reducible first|apply spl|apply spl'|refine iJ ?_)<;>intro hc<;>try(exfalso;omega)|refine vcq ?_|refine dr 12 ?_));all_goals(try conv=>whnf);try exact trivial
 ·intro i hi
  have hi:i≤ct-1:=hi
  have e1:((fr+1+i:Nat):Int).toNat=fr+1+i:=Int.toNat_natCast _
  have e2:(((fr+1+i:Nat):Int)-1).toNat=fr+i:=by omega
  have hk:d.kd (fr+1+i)=if(loc d.H.toNat d.S (fr+1+i)).1≠(loc d.H.toNat d.S (fr+i)).1 then 2 else if(loc d.H.toNat d.S (fr+1+i)).2.1≠(loc d.H.toNat d.S (fr+i)).2.1 then 1 else 0:=by
   unfold Dk.kd kindS
   rw[show fr+1+i-1=fr+i by omega]
  (repeat' ((conv=>whnf);first|(with_reducible first|apply spl|apply spl'|refine iJ ?_)<;>intro hc<;>try(exfalso;omega)|refine vcq ?_|refine dr 12 ?_));all_goals(try conv=>whnf);try exact trivial
  ·rw[e1,e2] at *
   have e:d.kd (fr+1+i)=2:=by rw[hk,if_pos (by omega)]
   refine⟨i+1,⟨by omega,by dsimp only;omega⟩,some [some 0,some 3],?_⟩
   (repeat' ((conv=>whnf);first|(with_reducible first|apply spl|apply spl'|refine iJ ?_)<;>intro hc<;>try(exfalso;omega)|refine vcq ?_|refine dr 12 ?_));all_goals(try conv=>whnf);try exact trivial
   refine⟨appF_one (by rw[e];rfl),?_⟩
   (repeat' ((conv=>whnf);first|(with_reducible first|apply spl|apply spl'|refine iJ ?_)<;>intro hc<;>try(exfalso;omega)|refine vcq ?_|refine dr 12 ?_));all_goals(try conv=>whnf);try exact trivial
  ·rw[e1,e2] at *
   have e:d.kd (fr+1+i)=1:=by rw[hk,if_neg (by omega),if_pos (by omega)]
   refine⟨i+1,⟨by omega,by dsimp only;omega⟩,some [some 0,some 3],?_⟩
   (repeat' ((conv=>whnf);first|(with_reducible first|apply spl|apply spl'|refine iJ ?_)<;>intro hc<;>try(exfalso;omega)|refine vcq ?_|refine dr 12 ?_));all_goals(try conv=>whnf);try exact trivial
   refine⟨appF_one (by rw[e];rfl),?_⟩
   (repeat' ((conv=>whnf);first|(with_reducible first|apply spl|apply spl'|refine iJ ?_)<;>intro hc<;>try(exfalso;omega)|refine vcq ?_|refine dr 12 ?_));all_goals(try conv=>whnf);try exact trivial
  ·rw[e1,e2] at *
   have e:d.kd (fr+1+i)=0:=by rw[hk,if_neg (by omega),if_neg (by omega)]
   refine⟨i+1,⟨by omega,by dsimp only;omega⟩,some [some 0,some 3],?_⟩
   (repeat' ((conv=>whnf);first|(with_reducible first|apply spl|apply spl'|refine iJ ?_)<;>intro hc<;>try(exfalso;omega)|refine vcq ?_|refine dr 12 ?_));all_goals(try conv=>whnf);try exact trivial
   refine⟨appF_one (by rw[e];rfl),?_⟩
   (repeat' ((conv=>whnf);first|(with_reducible first|apply spl|apply spl'|refine iJ ?_)<;>intro hc<;>try(exfalso;omega)|refine vcq ?_|refine dr 12 ?_));all_goals(try conv=>whnf);try exact trivial
  ·obtain rfl:i=ct-1:=by omega
   refine⟨_,rfl,?_⟩
   (repeat' ((conv=>whnf);first|(with_reducible first|apply spl|apply spl'|refine iJ ?_)<;>intro hc<;>try(exfalso;omega)|refine vcq ?_|refine dr 12 ?_));all_goals(try conv=>whnf);try exact trivial
theorem SwitchOf59 (d:Dk) (k:Nat) (hk:k≤2):a0h Tryz.prog 101 false [d.v,.int .i64 k] (·=.tup [.agg [.int .i64 (d.sw k).1,.int .i64 (d.sw k).2],.int .i64 (d.sk k)]):=by
 have hk3:k=0∨k=1∨k=2:=by omega
 refine a0a Tryz.E_ok Tryz.func101 rfl (by kernel_rfl) ?_
 rcases hk3 with rfl|rfl|rfl
 ·(repeat' ((conv=>whnf);first|(with_reducible first|apply spl|apply spl'|refine iJ ?_)<;>intro hc<;>try(exfalso;omega)|refine vcq ?_|refine dr 2004 ?_));all_goals(try conv=>whnf);try exact trivial
  exact⟨_,rfl,by(repeat' ((conv=>whnf);first|(with_reducible first|apply spl|apply spl'|refine iJ ?_)<;>intro hc<;>try(exfalso;omega)|refine vcq ?_|refine dr 12 ?_));all_goals((try conv=>whnf);try exact trivial)⟩
 ·(repeat' ((conv=>whnf);first|(with_reducible first|apply spl|apply spl'|refine iJ ?_)<;>intro hc<;>try(exfalso;omega)|refine vcq ?_|refine dr 2004 ?_));all_goals(try conv=>whnf);try exact trivial
  exact⟨_,rfl,by(repeat' ((conv=>whnf);first|(with_reducible first|apply spl|apply spl'|refine iJ ?_)<;>intro hc<;>try(exfalso;omega)|refine vcq ?_|refine dr 12 ?_));all_goals((try conv=>whnf);try exact trivial)⟩
 ·(repeat' ((conv=>whnf);first|(with_reducible first|apply spl|apply spl'|refine iJ ?_)<;>intro hc<;>try(exfalso;omega)|refine vcq ?_|refine dr 2004 ?_));all_goals(try conv=>whnf);try exact trivial
  exact⟨_,rfl,by(repeat' ((conv=>whnf);first|(with_reducible first|apply spl|apply spl'|refine iJ ?_)<;>intro hc<;>try(exfalso;omega)|refine vcq ?_|refine dr 12 ?_));all_goals((try conv=>whnf);try exact trivial)⟩
theorem Gap77 (d:Dk) (hd:d.Ok) (k:Nat) (hk:k≤2) (t:Int) (ht:0≤t∧t≤2000):a0h Tryz.prog 143 false [d.v,.int .i64 k,.int .i64 t] (·=.int .i64 (d.gapOf (d.sk k) t)):=by
 have h2:=hd.t
 have h3:=hd.hk
 have h4:=hd.ck
 have hg:=d.gap_bnd (by omega) (d.sk k) t
 have hsk:0≤d.sk k∧d.sk k≤999:=by unfold Dk.sk;split<;>(try split)<;>omega
 refine a0a Tryz.E_ok Tryz.func143 rfl (by kernel_rfl) ?_
 unfold Dk.gapOf at *
 (repeat' ((conv=>whnf);first|(with_reducible first|apply spl|apply spl'|refine iJ ?_)<;>intro hc<;>try(exfalso;omega)|refine vcq ?_|refine dr 12 ?_));all_goals((try conv=>whnf);try exact trivial);(repeat' ((first|(refine a0b (SwitchOf59 d k hk) rfl ?_;rintro _ rfl)|(refine a0c (SwitchOf59 d k hk) rfl ?_)|(refine a0g (fun _=>SwitchOf59 d k hk) rfl ?_)|(refine a0b (After41 d hd t (d.sk k) (by omega) (by omega)) rfl ?_;rintro _ rfl)|(refine a0c (After41 d hd t (d.sk k) (by omega) (by omega)) rfl ?_)|(refine a0g (fun _=>After41 d hd t (d.sk k) (by omega) (by omega)) rfl ?_));(repeat' ((conv=>whnf);first|(with_reducible first|apply spl|apply spl'|refine iJ ?_)<;>intro hc<;>try(exfalso;omega)|refine vcq ?_|refine dr 12 ?_));all_goals((try conv=>whnf);try exact trivial)))
 refine⟨_,rfl,?_⟩
 (repeat' ((conv=>whnf);first|(with_reducible first|apply spl|apply spl'|refine iJ ?_)<;>intro hc<;>try(exfalso;omega)|refine vcq ?_|refine dr 12 ?_));all_goals(try conv=>whnf);try exact trivial
def Dk.gapsTo (d:Dk) (fr:Nat) (g:Nat→Int):Nat→Int
 |0=>0
 |i+1=>Dk.gapsTo d fr g i+if 0<d.kd (fr+1+i) then d.gapOf (d.sk (d.kd (fr+1+i))) (g i) else 0
theorem Dk.gapsTo_bnd {d:Dk} (hd:d.Ok) (fr:Nat) (g:Nat→Int) (hg:∀i,0≤g i∧g i≤2000):∀i:Nat,0≤d.gapsTo fr g i∧d.gapsTo fr g i≤i*3000
 |0=>by simp[gapsTo]
 |i+1=>by
  have ih:=Dk.gapsTo_bnd hd fr g hg i
  have h2:=hd.t
  have:=d.gap_bnd (by omega) (d.sk (d.kd (fr+1+i))) (g i)
  have:=hg i
  unfold gapsTo
  split<;>(push_cast;rw[Int.add_mul];omega)
theorem Ticks60 (d:Dk) (hd:d.Ok) (fr ct:Nat) (h1:1≤ct) (h2:fr+ct≤d.cnt) (g:Nat→Int) (hg:∀i,0≤g i∧g i≤2000):a0h Tryz.prog 102 false [d.v,.int .i64 fr,.int .i64 ct,.sl 1 (ct-1) (fun i=>[.int .i64 (g i)])] (·=.int .i64 (sumR (durS d.H.toNat d.S d.T) fr ct+d.gapsTo fr g (ct-1))):=by
 have hcn:=d.cnt_le hd
 have hdur:=Dk.sumR_bnd _ 1000 fr (Dk.dur_bnd hd)
 have hgs:=Dk.gapsTo_bnd hd fr g hg
 refine a0a Tryz.E_ok Tryz.func102 rfl (by kernel_rfl) ?_
 (repeat' ((conv=>whnf);first|(with_reducible first|apply spl|apply spl'|refine iJ ?_)<;>intro hc<;>try(exfalso;omega)|refine vcq ?_|refine dr 12 ?_));all_goals(try conv=>whnf);try exact trivial
 refine a0b (Places36 d hd) rfl ?_
 rintro _ rfl
 (repeat' ((conv=>whnf);first|(with_reducible first|apply spl|apply spl'|refine iJ ?_)<;>intro hc<;>try(exfalso;omega)|refine vcq ?_|refine dr 12 ?_));all_goals(try conv=>whnf);try exact trivial
 refine a0b (Switches58 d hd fr ct h1 h2) rfl ?_
 rintro _ rfl
 (repeat' ((conv=>whnf);first|(with_reducible first|apply spl|apply spl'|refine iJ ?_)<;>intro hc<;>try(exfalso;omega)|refine vcq ?_|refine dr 12 ?_));all_goals(try conv=>whnf);try exact trivial
 refine⟨Nat,fun i=>i≤ct,fun i=>ct-i,fun i=>[(12,.int .i64 ((fr+i:Nat))),(11,.int .i64 (sumR (durS d.H.toNat d.S d.T) fr i))],fun _=>[],fun _=>[],0,⟨by omega,none,?_⟩,?_⟩
 ·(repeat' ((conv=>whnf);first|(with_reducible first|apply spl|apply spl'|refine iJ ?_)<;>intro hc<;>try(exfalso;omega)|refine vcq ?_|refine dr 12 ?_));all_goals(try conv=>whnf);try exact trivial
 ·intro i hi
  have hi:i≤ct:=hi
  have e1:((fr+i:Nat):Int).toNat=fr+i:=Int.toNat_natCast _
  (repeat' ((conv=>whnf);first|(with_reducible first|apply spl|apply spl'|refine iJ ?_)<;>intro hc<;>try(exfalso;omega)|refine vcq ?_|refine dr 12 ?_));all_goals(try conv=>whnf);try exact trivial
  ·have hil:i<ct:=by omega
   have hat:=at_loc (H:=d.H.toNat) (S:=d.S) (show fr+i<d.H.toNat*d.S.sum by show fr+i<d.cnt;omega)
   obtain⟨b1,b2,b3⟩:=Dk.dur_facts hd hat.1
   have hdi:=hdur i
   have hdi1:=hdur (i+1)
   rw[e1]
   refine a0c (Sectors54 d hd _ hat.1) rfl ?_
   (repeat' ((conv=>whnf);first|(with_reducible first|apply spl|apply spl'|refine iJ ?_)<;>intro hc<;>try(exfalso;omega)|refine vcq ?_|refine dr 12 ?_));all_goals(try conv=>whnf);try exact trivial
   rw[b2]
   have e2:sumR (durS d.H.toNat d.S d.T) fr (i+1)=sumR (durS d.H.toNat d.S d.T) fr i+d.T / (d.S.getD (loc d.H.toNat d.S (fr+i)).1 0:Nat):=rfl
   (repeat' ((conv=>whnf);first|(with_reducible first|apply spl|apply spl'|refine iJ ?_)<;>intro hc<;>try(exfalso;omega)|refine vcq ?_|refine dr 12 ?_));all_goals(try conv=>whnf);try exact trivial
   refine⟨i+1,⟨by omega,by dsimp only;omega⟩,none,?_⟩
   (repeat' ((conv=>whnf);first|(with_reducible first|apply spl|apply spl'|refine iJ ?_)<;>intro hc<;>try(exfalso;omega)|refine vcq ?_|refine dr 12 ?_));all_goals(try conv=>whnf);try exact trivial
  ·obtain rfl:i=ct:=by omega
   have hds:=hdur i
   generalize hS0:sumR (durS d.H.toNat d.S d.T) fr i=S0 at *
   refine⟨Nat,fun j=>j≤i-1,fun j=>i-1-j,fun j=>[(13,.int .i64 (j:Nat)),(11,.int .i64 (S0+d.gapsTo fr g j))],fun _=>[],fun _=>[],0,⟨by omega,none,?_⟩,?_⟩
   ·(repeat' ((conv=>whnf);first|(with_reducible first|apply spl|apply spl'|refine iJ ?_)<;>intro hc<;>try(exfalso;omega)|refine vcq ?_|refine dr 12 ?_));all_goals(try conv=>whnf);try exact trivial
    refine⟨by simp[Dk.gapsTo],?_⟩
    (repeat' ((conv=>whnf);first|(with_reducible first|apply spl|apply spl'|refine iJ ?_)<;>intro hc<;>try(exfalso;omega)|refine vcq ?_|refine dr 12 ?_));all_goals(try conv=>whnf);try exact trivial
   ·intro j hj
    have hj:j≤i-1:=hj
    have htj:(j:Int).toNat=j:=Int.toNat_natCast j
    have hgj:=hg j
    have hgsj:=hgs j
    have hgsj1:=hgs (j+1)
    have e3:d.gapsTo fr g (j+1)=d.gapsTo fr g j+if 0<d.kd (fr+1+j) then d.gapOf (d.sk (d.kd (fr+1+j))) (g j) else 0:=rfl
    (repeat' ((conv=>whnf);first|(with_reducible first|apply spl|apply spl'|refine iJ ?_)<;>intro hc<;>try(exfalso;omega)|refine vcq ?_|refine dr 12 ?_));all_goals(try conv=>whnf);try exact trivial
    ·rw[htj] at *
     rw[if_pos (by omega)] at e3
     refine a0c (Gap77 d hd _ (d.kd_le _) (g j) hgj) rfl ?_
     (repeat' ((conv=>whnf);first|(with_reducible first|apply spl|apply spl'|refine iJ ?_)<;>intro hc<;>try(exfalso;omega)|refine vcq ?_|refine dr 12 ?_));all_goals(try conv=>whnf);try exact trivial
     refine⟨j+1,⟨by omega,by dsimp only;omega⟩,none,?_⟩
     (repeat' ((conv=>whnf);first|(with_reducible first|apply spl|apply spl'|refine iJ ?_)<;>intro hc<;>try(exfalso;omega)|refine vcq ?_|refine dr 12 ?_));all_goals(try conv=>whnf);try exact trivial
    ·rw[htj] at *
     rw[if_neg (by omega)] at e3
     refine⟨j+1,⟨by omega,by dsimp only;omega⟩,none,?_⟩
     (repeat' ((conv=>whnf);first|(with_reducible first|apply spl|apply spl'|refine iJ ?_)<;>intro hc<;>try(exfalso;omega)|refine vcq ?_|refine dr 12 ?_));all_goals(try conv=>whnf);try exact trivial
    ·obtain rfl:j=i-1:=by omega
     refine⟨_,rfl,?_⟩
     (repeat' ((conv=>whnf);first|(with_reducible first|apply spl|apply spl'|refine iJ ?_)<;>intro hc<;>try(exfalso;omega)|refine vcq ?_|refine dr 12 ?_));all_goals(try conv=>whnf);try exact trivial
def Dk.swB (d:Dk) (hi:Bool) (fr i:Nat):Int:=if hi then(d.sw (d.kd (fr+1+i))).2 else(d.sw (d.kd (fr+1+i))).1
theorem Dk.swB_bnd {d:Dk} (hd:d.Ok) (hi:Bool) (fr i:Nat):0≤d.swB hi fr i∧d.swB hi fr i≤2000:=by
 have h1:=hd.hs
 have h2:=hd.cs
 unfold Dk.SpanOk at *
 unfold swB sw
 cases hi<;>simp only[Bool.false_eq_true,if_true,if_false]<;>split<;>(try split)<;>(try simp)<;>omega
theorem Dk.run_eq (d:Dk) (hi:Bool) (fr ct:Nat):sumR (durS d.H.toNat d.S d.T) fr ct+d.gapsTo fr (d.swB hi fr) (ct-1)=d.run hi fr ct:=by
 have key:∀m,d.gapsTo fr (d.swB hi fr) m=sumR (fun i=>d.gapK hi (kindS d.H.toNat d.S i)) (fr+1) m:=by
  intro m
  induction m with
  |zero=>rfl
  |succ m ih=>
   unfold gapsTo sumR
   rw[ih]
   congr 1
   have hk:=d.kd_le (fr+1+m)
   have hkk:kindS d.H.toNat d.S (fr+1+m)=d.kd (fr+1+m):=rfl
   unfold swB gapK
   rw[hkk]
   generalize d.kd (fr+1+m)=k at hk
   have:k=0∨k=1∨k=2:=by omega
   rcases this with rfl|rfl|rfl
   ·rfl
   ·simp[sw,sk]
   ·simp[sw,sk]
 unfold run
 rw[key]
theorem run39 (d:Dk) (hd:d.Ok) (fr ct:Nat) (h1:1≤ct) (h2:fr+ct≤d.cnt):a0h Tryz.prog 66 false [d.v,.int .i64 fr,.int .i64 ct] (·=.agg [.int .i64 (d.run false fr ct),.int .i64 (d.run true fr ct)]):=by
 have hcn:=d.cnt_le hd
 rw[←Dk.run_eq,←Dk.run_eq]
 refine a0a Tryz.E_ok Tryz.func66 rfl (by kernel_rfl) ?_
 (repeat' ((conv=>whnf);first|(with_reducible first|apply spl|apply spl'|refine iJ ?_)<;>intro hc<;>try(exfalso;omega)|refine vcq ?_|refine dr 12 ?_));all_goals(try conv=>whnf);try exact trivial
 refine a0b (Switches58 d hd fr ct h1 h2) rfl ?_
 rintro _ rfl
 (repeat' ((conv=>whnf);first|(with_reducible first|apply spl|apply spl'|refine iJ ?_)<;>intro hc<;>try(exfalso;omega)|refine vcq ?_|refine dr 12 ?_));all_goals(try conv=>whnf);try exact trivial
 refine⟨Nat,fun i=>i≤ct-1,fun i=>ct-1-i,fun i=>[(10,.int .i64 (i:Nat)),(8,.osl 2 i),(9,.osl 3 i)],fun _=>[],fun i=>[.row 3 1 i (fun i=>[.int .i64 (d.swB false fr i)]) true,.row 3 1 i (fun i=>[.int .i64 (d.swB true fr i)]) true],0,⟨by omega,some [some 0,some 1,none,none],?_⟩,?_⟩
 ·(repeat' ((conv=>whnf);first|(with_reducible first|apply spl|apply spl'|refine iJ ?_)<;>intro hc<;>try(exfalso;omega)|refine vcq ?_|refine dr 12 ?_));all_goals(try conv=>whnf);try exact trivial
 ·intro i hi
  have hi:i≤ct-1:=hi
  have hti:(i:Int).toNat=i:=Int.toNat_natCast i
  (repeat' ((conv=>whnf);first|(with_reducible first|apply spl|apply spl'|refine iJ ?_)<;>intro hc<;>try(exfalso;omega)|refine vcq ?_|refine dr 2010 ?_));all_goals(try conv=>whnf);try exact trivial
  ·rw[hti]
   refine a0c (SwitchOf59 d _ (d.kd_le _)) rfl ?_
   (repeat' ((conv=>whnf);first|(with_reducible first|apply spl|apply spl'|refine iJ ?_)<;>intro hc<;>try(exfalso;omega)|refine vcq ?_|refine dr 7090608050704062008 ?_));all_goals(try conv=>whnf);try exact trivial
   refine⟨i+1,⟨by omega,by dsimp only;omega⟩,some [some 0,some 1,some 7,some 8],?_⟩
   (repeat' ((conv=>whnf);first|(with_reducible first|apply spl|apply spl'|refine iJ ?_)<;>intro hc<;>try(exfalso;omega)|refine vcq ?_|refine dr 12 ?_));all_goals(try conv=>whnf);try exact trivial
   refine⟨appF_one rfl,?_⟩
   (repeat' ((conv=>whnf);first|(with_reducible first|apply spl|apply spl'|refine iJ ?_)<;>intro hc<;>try(exfalso;omega)|refine vcq ?_|refine dr 12 ?_));all_goals(try conv=>whnf);try exact trivial
   refine⟨appF_one rfl,?_⟩
   (repeat' ((conv=>whnf);first|(with_reducible first|apply spl|apply spl'|refine iJ ?_)<;>intro hc<;>try(exfalso;omega)|refine vcq ?_|refine dr 12 ?_));all_goals(try conv=>whnf);try exact trivial
  ·obtain rfl:i=ct-1:=by omega
   (repeat' ((conv=>whnf);first|(with_reducible first|apply spl|apply spl'|refine iJ ?_)<;>intro hc<;>try(exfalso;omega)|refine vcq ?_|fail));all_goals(try conv=>whnf);try exact trivial
   refine pcall_view (Ticks60 d hd fr ct h1 h2 (d.swB false fr) (Dk.swB_bnd hd false fr)) ?_ ?_
   ·(repeat' ((conv=>whnf);first|(with_reducible first|apply spl|apply spl'|refine iJ ?_)<;>intro hc<;>try(exfalso;omega)|refine vcq ?_|refine dr 12 ?_));all_goals(try conv=>whnf);try exact trivial
   (repeat' ((conv=>whnf);first|(with_reducible first|apply spl|apply spl'|refine iJ ?_)<;>intro hc<;>try(exfalso;omega)|refine vcq ?_|fail));all_goals(try conv=>whnf);try exact trivial
   refine pcall_view (Ticks60 d hd fr ct h1 h2 (d.swB true fr) (Dk.swB_bnd hd true fr)) ?_ ?_
   ·(repeat' ((conv=>whnf);first|(with_reducible first|apply spl|apply spl'|refine iJ ?_)<;>intro hc<;>try(exfalso;omega)|refine vcq ?_|refine dr 12 ?_));all_goals(try conv=>whnf);try exact trivial
   (repeat' ((conv=>whnf);first|(with_reducible first|apply spl|apply spl'|refine iJ ?_)<;>intro hc<;>try(exfalso;omega)|refine vcq ?_|fail));all_goals(try conv=>whnf);try exact trivial
   refine⟨_,rfl,?_⟩
   (repeat' ((conv=>whnf);first|(with_reducible first|apply spl|apply spl'|refine iJ ?_)<;>intro hc<;>try(exfalso;omega)|refine vcq ?_|refine dr 12 ?_));all_goals(try conv=>whnf);try exact trivial
theorem Run14 (d:Dk) (hd:d.Ok) (fr ct:Nat) (h1:1≤ct) (h2:fr+ct≤d.cnt):a0h Tryz.prog 29 false [d.v,.int .i64 fr,.int .i64 ct] (·=.tup [.agg [.int .i64 (d.run false fr ct),.int .i64 (d.run true fr ct)],.int .i64 0]):=by
 have hcn:=d.cnt_le hd
 have hz:=hd.z
 have hk:=Dk.chk_of hd
 refine a0a Tryz.E_ok Tryz.func29 rfl (by kernel_rfl) ?_
 (repeat' ((conv=>whnf);first|(with_reducible first|apply spl|apply spl'|refine iJ ?_)<;>intro hc<;>try(exfalso;omega)|refine vcq ?_|refine dr 12 ?_));all_goals((try conv=>whnf);try exact trivial);(repeat' ((first|(refine a0b (Check37 d (by omega)) rfl ?_;rintro _ rfl)|(refine a0c (Check37 d (by omega)) rfl ?_)|(refine a0g (fun _=>Check37 d (by omega)) rfl ?_)|(refine a0b (IsRun38 d hd fr ct) rfl ?_;rintro _ rfl)|(refine a0c (IsRun38 d hd fr ct) rfl ?_)|(refine a0g (fun _=>IsRun38 d hd fr ct) rfl ?_)|(refine a0b (run39 d hd fr ct h1 h2) rfl ?_;rintro _ rfl)|(refine a0c (run39 d hd fr ct h1 h2) rfl ?_)|(refine a0g (fun _=>run39 d hd fr ct h1 h2) rfl ?_));(repeat' ((conv=>whnf);first|(with_reducible first|apply spl|apply spl'|refine iJ ?_)<;>intro hc<;>try(exfalso;omega)|refine vcq ?_|refine dr 12 ?_));all_goals((try conv=>whnf);try exact trivial)))
 refine⟨_,rfl,?_⟩
 (repeat' ((conv=>whnf);first|(with_reducible first|apply spl|apply spl'|refine iJ ?_)<;>intro hc<;>try(exfalso;omega)|refine vcq ?_|refine dr 12 ?_));all_goals(try conv=>whnf);try exact trivial
end Go.Proofs
