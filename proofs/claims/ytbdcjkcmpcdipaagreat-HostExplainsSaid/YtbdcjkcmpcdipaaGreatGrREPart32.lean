/- Own work: texts of the proof of a law (Gr6, Gr7, Gr8, Gr9, GrA, GrD, GrE, GrF, HrB). No condition. -/
import Derived.Test.YtbdcjkcmpcdipaaGreatGrREPart31
set_option linter.unusedVariables false
set_option linter.unusedSimpArgs false
namespace Go.Proofs
open Go Go.Sx
set_option maxRecDepth 100000
set_option maxHeartbeats 40000000
namespace Ho
theorem result51i (h:Hist) (g:h.Ok) (hl:h.l.length≤1000000) (r:RT) (gr:RG h r) (b:Int) (hb:0≤b∧b.toNat<h.nn):a0q Tryz.prog 51 false [h.w,r.v h,.int .i64 b] (·=.int .i64 (h.res r.st b.toNat)):=by
 have hK:=gr.klen g
 have hO:=gr.olen g
 have h6:=g.nn
 have e:((b.toNat:Nat):Int)=b:=by omega
 have:=result51 h hl r (gr.olt g) (by omega) b.toNat (by omega) (by omega)
 rw[e] at this
 unfold Hist.res
 rw[e]
 exact this
theorem nextR_do {h:Hist} {r:RT} (gr:RG h r) {n:Nat} (hn:n<h.l.length) (hm:MayD h r.d n) (h9:(h.at' n).k≠9) (hf:h.Fit r.st n) {L:List RT} (hL:NextR h r n L):NextR h r (n+1) (L++[r.doO h n]):=by
 have hs:StepI h r.st n (r.doO h n).st:=⟨mayD_iff.1 hm,.inl ⟨h9,hf,do_st r n⟩⟩
 refine hL.more (fun x hx=>?_) (fun t ht=>?_) (by simp)
 ·rw[a0L] at hx
  subst hx
  exact gr.step hn hs rfl
 ·rcases ht with⟨_,⟨_,_,e⟩|⟨q,_⟩⟩
  ·exact⟨_,a0L.2 rfl,by rw[e,do_st]⟩
  ·exact absurd q h9
theorem nextR_fall {h:Hist} (g:h.Ok) {r:RT} (gr:RG h r) {n:Nat} (hn:n<h.l.length) (hm:MayD h r.d n) (h9:(h.at' n).k=9) {Ms:List (Nat→Int)} (hM:ImgsR (h.cache r.O) h.nn Ms) {L:List RT} (hL:NextR h r n L):NextR h r (n+1) (L++Ms.map (r.fall h n)):=by
 obtain⟨h1,h2⟩:=falls_step g gr hm h9 hM
 refine hL.more (fun x hx=>?_) (fun t ht=>?_) (by rw[a2M];have:=hM.len;omega)
 ·obtain⟨f,hf,rfl⟩:=a1C.1 hx
  exact gr.step hn (h1 f hf) rfl
 ·obtain⟨f,hf,e⟩:=h2 t ht
  exact⟨_,a1C.2 ⟨f,hf,rfl⟩,e⟩
theorem nextR_no {h:Hist} {r:RT} {n:Nat} (hq:¬MayD h r.d n∨(h.at' n).k=10∧((h.at' n).t=-1∨h.res r.st (h.at' n).b.toNat≠(h.at' n).v)):∀t,¬StepI h r.st n t:=by
 rintro t ⟨hm,hs⟩
 rcases hq with q|⟨q,q2⟩
 ·exact q (mayD_iff.2 hm)
 ·rcases hs with⟨_,hf,_⟩|⟨h9,_⟩
  ·obtain⟨f1,f2⟩:=hf q
   rcases q2 with q2|q2
   ·exact f1 q2
   ·exact q2 f2
  ·omega
theorem next101 (h:Hist) (g:h.Ok) (hn2:h.n≤2) (hl6:h.l.length≤6) (r:RT) (gr:RG h r):a0q Tryz.prog 101 true [h.w,r.v h] (fun v=>∃L:List RT,NextR h r h.l.length L∧v=.sl 5 L.length (a0u (RT.c h) (RT.begin h) L)):=by
 have hI:=Hist.Rea.inv g gr.rea
 have hnn:=g.nn
 have hdl:=gr.dlen
 have hol:=gr.olen g
 have hsm:=g.small hn2 hl6 hI
 refine a0c Tryz.E_ok Tryz.func101 rfl (by kernel_rfl) ?_
 (repeat' ((conv=>whnf);first|(with_reducible first|apply spl|apply spl'|refine iJ ?_)<;>intro hc<;>try(exfalso;omega)|refine vcq ?_|refine dr 24 ?_|refine dr 10 ?_));all_goals(try conv=>whnf);try exact trivial
 refine⟨Nat×List RT,fun q=>q.1≤h.l.length∧NextR h r q.1 q.2,fun q=>h.l.length-q.1,fun q=>[(6,.int .i64 (q.1:Nat)),(5,.osl 2 q.2.length)],fun _=>[],fun q=>[.row 77 5 q.2.length (a0u (RT.c h) (RT.begin h) q.2) true],(0,[]),⟨⟨by dsimp only;omega,NextR.nil h r⟩,some [some 0,some 1,none],?_⟩,?_⟩
 ·(repeat' ((conv=>whnf);first|(with_reducible first|apply spl|apply spl'|refine iJ ?_)<;>intro hc<;>try(exfalso;omega)|refine vcq ?_|refine dr 24 ?_|refine dr 10 ?_));all_goals(try conv=>whnf);try exact trivial
 ·rintro⟨n,L⟩ ⟨hn,hL⟩
  dsimp only at hn hL
  have hn0:((n:Nat):Int).toNat=n:=by omega
  (repeat' ((conv=>whnf);first|(with_reducible first|apply spl|apply spl'|refine iJ ?_)<;>intro hc<;>try(exfalso;omega)|refine vcq ?_|refine dr 24 ?_|refine dr 10 ?_));all_goals(try conv=>whnf);try exact trivial
  ·have hnl:n<h.l.length:=by dsimp only at hc;omega
   have e0:h.l.getD ((n:Nat):Int).toNat c0=h.at' n:=by rw[hn0];rfl
   have hck:=g.cmd n hnl
   have hlen:=hL.len
   have hlen2:L.length≤6000000:=by
    have:600001*n≤600001*6:=a3E _ (by omega)
    omega
   have hno:=nextR_no (h:=h) (r:=r) (n:=n)
   have hdo:=fun a b c=>nextR_do gr hnl a b c hL
   have hfa:=fun a b Ms hM=>nextR_fall g gr hnl a b (Ms:=Ms) hM hL
   unfold Hist.Fit at hdo
   have hres:(h.at' n).k=10→_:=fun q=>result51i h g (by omega) r gr (h.at' n).b (by
    generalize h.at' n=c at *
    unfold Cmd.Ok at hck
    omega)
   have hrdo:=rdo52 h (by omega) r (by omega) (by omega) n hnl
   refine a0f (may50 h (by omega) r (by omega) n hnl) rfl ?_
   (repeat' ((conv=>whnf);first|(with_reducible first|apply spl|apply spl'|refine iJ ?_)<;>intro hc<;>try(exfalso;omega)|refine vcq ?_|refine dr 24 ?_|refine dr 10 ?_));all_goals(try conv=>whnf);try exact trivial
   dsimp only at *
   rw[e0]
   generalize h.at' n=c at *
   (repeat' ((conv=>whnf);first|(with_reducible first|apply spl|apply spl'|refine iJ ?_)<;>intro hc<;>try(exfalso;omega)|refine vcq ?_|refine dr 24 ?_|refine dr 10 ?_));all_goals((try conv=>whnf);try exact trivial);(repeat' ((first|(refine a0d (ropen c) rfl ?_;rintro _ rfl)|(refine a0f (ropen c) rfl ?_)|(refine a0l (fun _=>ropen c) rfl ?_));(repeat' ((conv=>whnf);first|(with_reducible first|apply spl|apply spl'|refine iJ ?_)<;>intro hc<;>try(exfalso;omega)|refine vcq ?_|refine dr 24 ?_|refine dr 10 ?_));all_goals((try conv=>whnf);try exact trivial)))
   refine a0l (fun hg=>hres hg.1.2) rfl ?_
   (repeat' ((conv=>whnf);first|(with_reducible first|apply spl|apply spl'|refine iJ ?_)<;>intro hc<;>try(exfalso;omega)|refine vcq ?_|refine dr 24 ?_|refine dr 10 ?_));all_goals(try conv=>whnf);try exact trivial
   ·have hn1:=hL.skip (hno hc)
    clear hno hdo hfa hres hrdo
    refine⟨(n+1,L),⟨⟨hnl,hn1⟩,by dsimp only;omega⟩,some [some 0,some 1,some 2],?_⟩
    (repeat' ((conv=>whnf);first|(with_reducible first|apply spl|apply spl'|refine iJ ?_)<;>intro hc<;>try(exfalso;omega)|refine vcq ?_|refine dr 24 ?_|refine dr 10 ?_));all_goals(try conv=>whnf);try exact trivial
   ·rename_i q1
    have hm:MayD h r.d n:=a1E fun q=>q1 (.inl q)
    have hn1:=hdo hm hc (fun q=>⟨fun q2=>q1 (.inr ⟨q,.inl q2⟩),a1E fun q2=>q1 (.inr ⟨q,.inr q2⟩)⟩)
    clear hno hdo hfa hres q1
    refine a0d hrdo rfl ?_
    rintro _ rfl
    (repeat' ((conv=>whnf);first|(with_reducible first|apply spl|apply spl'|refine iJ ?_)<;>intro hc<;>try(exfalso;omega)|refine vcq ?_|refine dr 24 ?_|refine dr 10 ?_));all_goals(try conv=>whnf);try exact trivial
    refine⟨(n+1,L++[r.doO h n]),⟨⟨hnl,hn1⟩,by dsimp only;omega⟩,some [some 0,some 1,some 5],?_⟩
    (repeat' ((conv=>whnf);first|(with_reducible first|apply spl|apply spl'|refine iJ ?_)<;>intro hc<;>try(exfalso;omega)|refine vcq ?_|refine dr 24 ?_|refine dr 10 ?_));all_goals(try conv=>whnf);try exact trivial
    refine⟨by dsimp only;rw[List.length_append,List.length_singleton],?_⟩
    (repeat' ((conv=>whnf);first|(with_reducible first|apply spl|apply spl'|refine iJ ?_)<;>intro hc<;>try(exfalso;omega)|refine vcq ?_|refine dr 24 ?_|refine dr 10 ?_));all_goals(try conv=>whnf);try exact trivial
    refine⟨by dsimp only;rw[List.length_append,List.length_singleton],a2d (c:=RT.c h) (a:=r.doO h n) (l:=L) rfl (fun _ _=>rfl),?_⟩
    (repeat' ((conv=>whnf);first|(with_reducible first|apply spl|apply spl'|refine iJ ?_)<;>intro hc<;>try(exfalso;omega)|refine vcq ?_|refine dr 24 ?_|refine dr 10 ?_));all_goals(try conv=>whnf);try exact trivial
   ·rename_i q1
    have h9:c.k=9:=a0T.1 hc
    have hm:MayD h r.d n:=a1E fun q=>q1 (.inl q)
    clear hno hdo hres q1 hrdo
    refine callee_new (Images60 (h.cache r.O) hsm h.nn hnn.1.symm) rfl ?_
    rintro _ _ ⟨Ms,⟨hM,_⟩,rfl,rfl⟩
    have hn1:=hfa hm h9 Ms hM
    have hMl:=hM.len
    clear hfa
    (repeat' ((conv=>whnf);first|(with_reducible first|apply spl|apply spl'|refine iJ ?_)<;>intro hc<;>try(exfalso;omega)|refine vcq ?_|refine dr 24 ?_|refine dr 10 ?_));all_goals(try conv=>whnf);try exact trivial
    refine⟨Nat×List RT,fun q=>q.1≤Ms.length∧q.2=L++(Ms.take q.1).map (r.fall h n),fun q=>Ms.length-q.1,fun q=>[(9,.int .i64 (q.1:Nat)),(5,.osl 2 q.2.length)],fun q=>[(2,.row 77 5 q.2.length (a0u (RT.c h) (RT.begin h) q.2) true)],fun _=>[],(0,L),⟨⟨a2A _,by simp⟩,some [some 0,some 1,some 2,some 3,some 4],?_⟩,?_⟩
    ·(repeat' ((conv=>whnf);first|(with_reducible first|apply spl|apply spl'|refine iJ ?_)<;>intro hc<;>try(exfalso;omega)|refine vcq ?_|refine dr 24 ?_|refine dr 10 ?_));all_goals(try conv=>whnf);try exact trivial
    ·rintro⟨j,M⟩ ⟨hj,hMM⟩
     dsimp only at hj hMM
     have hj0:((j:Nat):Int).toNat=j:=by omega
     have hMl2:M.length≤6600000:=by rw[hMM,a0F,a2M,a0V];omega
     (repeat' ((conv=>whnf);first|(with_reducible first|apply spl|apply spl'|refine iJ ?_)<;>intro hc<;>try(exfalso;omega)|refine vcq ?_|refine dr 24 ?_|refine dr 10 ?_));all_goals(try conv=>whnf);try exact trivial
     ·have hjl:j<Ms.length:=by dsimp only at *;omega
      have ej:Ms.getD ((j:Nat):Int).toNat (fun _=>0)=Ms[j]:=by rw[hj0];simp[a0A,hjl]
      have hfit:=fun b hb=>falls_fit g gr hM (f:=Ms[j]) (a1F hjl) (b:=b) hb
      have hsn:M++[r.fall h n Ms[j]]=L++(Ms.take (j+1)).map (r.fall h n):=by
       rw[a1H hjl,a1L,←a2D,hMM]
       rfl
      dsimp only
      rw[ej]
      generalize Ms[j]=f at *
      refine a0f (rfall54 h (by omega) hnn.1.symm hnn.2.2 r (gr.olt g) (by omega) (by omega) (gr.klen g) n (by omega) f hfit) rfl ?_
      (repeat' ((conv=>whnf);first|(with_reducible first|apply spl|apply spl'|refine iJ ?_)<;>intro hc<;>try(exfalso;omega)|refine vcq ?_|refine dr 24 ?_|refine dr 10 ?_));all_goals(try conv=>whnf);try exact trivial
      refine⟨(j+1,M++[r.fall h n f]),⟨⟨hjl,hsn⟩,by dsimp only;omega⟩,some [some 0,some 1,some 6,some 3,some 4],?_⟩
      (repeat' ((conv=>whnf);first|(with_reducible first|apply spl|apply spl'|refine iJ ?_)<;>intro hc<;>try(exfalso;omega)|refine vcq ?_|refine dr 24 ?_|refine dr 10 ?_));all_goals(try conv=>whnf);try exact trivial
      refine⟨by dsimp only;rw[List.length_append,List.length_singleton],?_⟩
      (repeat' ((conv=>whnf);first|(with_reducible first|apply spl|apply spl'|refine iJ ?_)<;>intro hc<;>try(exfalso;omega)|refine vcq ?_|refine dr 24 ?_|refine dr 10 ?_));all_goals(try conv=>whnf);try exact trivial
      refine⟨by dsimp only;rw[List.length_append,List.length_singleton],a2d (c:=RT.c h) (a:=r.fall h n f) (l:=M) rfl (fun _ _=>rfl),?_⟩
      (repeat' ((conv=>whnf);first|(with_reducible first|apply spl|apply spl'|refine iJ ?_)<;>intro hc<;>try(exfalso;omega)|refine vcq ?_|refine dr 24 ?_|refine dr 10 ?_));all_goals(try conv=>whnf);try exact trivial
     ·obtain rfl:j=Ms.length:=by dsimp only at *;omega
      rw[a3B] at hMM
      refine⟨(n+1,M),⟨⟨hnl,by rw[hMM];exact hn1⟩,by dsimp only;omega⟩,some [some 0,some 1,some 2],?_⟩
      (repeat' ((conv=>whnf);first|(with_reducible first|apply spl|apply spl'|refine iJ ?_)<;>intro hc<;>try(exfalso;omega)|refine vcq ?_|refine dr 24 ?_|refine dr 10 ?_));all_goals(try conv=>whnf);try exact trivial
  ·obtain rfl:n=h.l.length:=by dsimp only at hc;omega
   refine⟨_,⟨L,hL,rfl⟩,?_⟩
   (repeat' ((conv=>whnf);first|(with_reducible first|apply spl|apply spl'|refine iJ ?_)<;>intro hc<;>try(exfalso;omega)|refine vcq ?_|refine dr 24 ?_|refine dr 10 ?_));all_goals(try conv=>whnf);try exact trivial
theorem stages72 (h:Hist) (g:h.Ok) (hn2:h.n≤2) (hl6:h.l.length≤6):a0q Tryz.prog 72 true [h.w] (fun v=>∃L:List RT,SI h L L.length∧v=.sl 5 L.length (a0u (RT.c h) (RT.begin h) L)):=by
 have hnn:=g.nn
 refine a0c Tryz.E_ok Tryz.func72 rfl (by kernel_rfl) ?_
 (repeat' ((conv=>whnf);first|(with_reducible first|apply spl|apply spl'|refine iJ ?_)<;>intro hc<;>try(exfalso;omega)|refine vcq ?_|refine dr 5 ?_|refine dr 40 ?_));all_goals(try conv=>whnf);try exact trivial
 refine a0d (begin49 h g.n) rfl ?_
 rintro _ rfl
 (repeat' ((conv=>whnf);first|(with_reducible first|apply spl|apply spl'|refine iJ ?_)<;>intro hc<;>try(exfalso;omega)|refine vcq ?_|refine dr 5 ?_|refine dr 40 ?_));all_goals(try conv=>whnf);try exact trivial
 refine⟨Nat×List RT,fun q=>SI h q.2 q.1,fun q=>CAP-q.1,fun q=>[(4,.int .i64 (q.1:Nat)),(3,.osl 1 q.2.length),(11,.any)],fun q=>[(1,.row 77 5 q.2.length (a0u (RT.c h) (RT.begin h) q.2) false)],fun _=>[],(0,[RT.begin h]),⟨SI.one g,some [some 0,some 1],?_⟩,?_⟩
 ·(repeat' ((conv=>whnf);first|(with_reducible first|apply spl|apply spl'|refine iJ ?_)<;>intro hc<;>try(exfalso;omega)|refine vcq ?_|refine dr 5 ?_|refine dr 40 ?_));all_goals(try conv=>whnf);try exact trivial
  refine⟨fun j hj=>?_,?_⟩
  ·obtain rfl:j=0:=by omega
   rfl
  ·(repeat' ((conv=>whnf);first|(with_reducible first|apply spl|apply spl'|refine iJ ?_)<;>intro hc<;>try(exfalso;omega)|refine vcq ?_|refine dr 5 ?_|refine dr 40 ?_));all_goals(try conv=>whnf);try exact trivial
 ·rintro⟨i,l⟩ hs
  dsimp only at hs
  have hcap:l.length≤481890304:=hs.cap g hn2 hl6
  have hile:i≤l.length:=by have:=hs.inv.le;rwa [a2M] at this
  have hi0:((i:Nat):Int).toNat=i:=by omega
  (repeat' ((conv=>whnf);first|(with_reducible first|apply spl|apply spl'|refine iJ ?_)<;>intro hc<;>try(exfalso;omega)|refine vcq ?_|refine dr 5 ?_|refine dr 40 ?_));all_goals(try conv=>whnf);try exact trivial
  ·have hil:i<l.length:=by dsimp only at hc;omega
   have hgi:=hs.good _ (getD_memR (h:=h) hil)
   dsimp only
   rw[hi0]
   refine a0d (next101 h g hn2 hl6 (l.getD i (RT.begin h)) hgi) rfl ?_
   rintro _ ⟨N,hN,rfl⟩
   have hNl:=hN.len
   have hNl2:N.length≤6000000:=by
    have:600001*h.l.length≤600001*6:=a3E _ hl6
    omega
   (repeat' ((conv=>whnf);first|(with_reducible first|apply spl|apply spl'|refine iJ ?_)<;>intro hc<;>try(exfalso;omega)|refine vcq ?_|refine dr 5 ?_|refine dr 40 ?_));all_goals(try conv=>whnf);try exact trivial
   refine⟨Nat×List RT,fun q=>q.1≤N.length∧SJ h q.2 i N q.1∧(i<q.2.length∧q.2.getD i (RT.begin h)=l.getD i (RT.begin h)),fun q=>N.length-q.1,fun q=>[(6,.int .i64 (q.1:Nat)),(3,.osl 1 q.2.length),(13,.any),(18,.any),(19,.any),(20,.any),(21,.any),(22,.any),(23,.any)],fun q=>[(1,.row 77 5 q.2.length (a0u (RT.c h) (RT.begin h) q.2) false)],fun _=>[],(0,l),⟨⟨a2A _,SJ.begin hs N,hil,rfl⟩,some [some 0,some 1],?_⟩,?_⟩
   ·(repeat' ((conv=>whnf);first|(with_reducible first|apply spl|apply spl'|refine iJ ?_)<;>intro hc<;>try(exfalso;omega)|refine vcq ?_|refine dr 5 ?_|refine dr 40 ?_));all_goals(try conv=>whnf);try exact trivial
   ·clear hs hcap hile
    rintro⟨k,l1⟩ ⟨hk,hs,hil1,hli⟩
    dsimp only at hk hs hil1 hli
    have hcap:l1.length≤481890304:=hs.si.cap g hn2 hl6
    have hk0:((k:Nat):Int).toNat=k:=by omega
    (repeat' ((conv=>whnf);first|(with_reducible first|apply spl|apply spl'|refine iJ ?_)<;>intro hc<;>try(exfalso;omega)|refine vcq ?_|refine dr 5 ?_|refine dr 40 ?_));all_goals(try conv=>whnf);try exact trivial
    ·have hkN:k<N.length:=by dsimp only at *;omega
     have hgk:=hN.good _ (getD_memR (h:=h) hkN)
     refine⟨Nat,fun m=>m≤l1.length,fun m=>l1.length-m,fun m=>[(8,.int .i64 (m:Nat)),(7,.prop (∃q,q<m∧(l1.getD q (RT.begin h)).same (N.getD k (RT.begin h))) (Classical.propDecidable _)),(36,.any),(37,.any),(38,.any),(39,.any),(40,.any),(41,.any),(42,.any),(43,.any),(44,.any),(45,.any),(46,.any),(47,.any),(48,.any),(49,.any),(50,.any),(51,.any),(52,.any),(53,.any),(54,.any),(55,.any),(56,.any),(57,.any),(58,.any),(59,.any),(60,.any),(61,.any),(62,.any),(63,.any),(64,.any),(65,.any),(66,.any),(67,.any),(68,.any),(69,.any),(70,.any),(71,.any),(72,.any),(73,.any),(74,.any),(75,.any)],fun _=>[],fun _=>[],0,⟨a2A _,none,?_⟩,?_⟩
     ·(repeat' ((conv=>whnf);first|(with_reducible first|apply spl|apply spl'|refine iJ ?_)<;>intro hc<;>try(exfalso;omega)|refine vcq ?_|refine dr 5 ?_|refine dr 40 ?_));all_goals(try conv=>whnf);try exact trivial
     ·intro m hm
      have hm:m≤l1.length:=hm
      have hm0:((m:Nat):Int).toNat=m:=by omega
      (repeat' ((conv=>whnf);first|(with_reducible first|apply spl|apply spl'|refine iJ ?_)<;>intro hc<;>try(exfalso;omega)|refine vcq ?_|refine dr 5 ?_|refine dr 40 ?_));all_goals(try conv=>whnf);try exact trivial
      ·have hml:m<l1.length:=by dsimp only at *;omega
       have hgm:=hs.good _ (getD_memR (h:=h) hml)
       have d1:=hgm.dlen
       have d2:=hgm.olen g
       have d3:=hgm.klen g
       have e1:=hgk.dlen
       have e2:=hgk.olen g
       have e3:=hgk.klen g
       dsimp only
       rw[hm0,hk0]
       refine a0l (fun _=>same102n (l1.getD m (RT.begin h)).O (N.getD k (RT.begin h)).O (by omega) (by omega)) rfl ?_
       (repeat' ((conv=>whnf);first|(with_reducible first|apply spl|apply spl'|refine iJ ?_)<;>intro hc<;>try(exfalso;omega)|refine vcq ?_|refine dr 5 ?_|refine dr 40 ?_));all_goals(try conv=>whnf);try exact trivial
       refine a0l (fun _=>same102 (l1.getD m (RT.begin h)).K (N.getD k (RT.begin h)).K (by omega) (by omega)) rfl ?_
       (repeat' ((conv=>whnf);first|(with_reducible first|apply spl|apply spl'|refine iJ ?_)<;>intro hc<;>try(exfalso;omega)|refine vcq ?_|refine dr 5 ?_|refine dr 40 ?_));all_goals(try conv=>whnf);try exact trivial
       refine a0l (fun _=>set103 (l1.getD m (RT.begin h)).d (N.getD k (RT.begin h)).d (by omega) (by omega)) rfl ?_
       (repeat' ((conv=>whnf);first|(with_reducible first|apply spl|apply spl'|refine iJ ?_)<;>intro hc<;>try(exfalso;omega)|refine vcq ?_|refine dr 5 ?_|refine dr 40 ?_));all_goals(try conv=>whnf);try exact trivial
       refine⟨m+1,⟨by omega,by omega⟩,none,?_⟩
       (repeat' ((conv=>whnf);first|(with_reducible first|apply spl|apply spl'|refine iJ ?_)<;>intro hc<;>try(exfalso;omega)|refine vcq ?_|refine dr 5 ?_|refine dr 40 ?_));all_goals(try conv=>whnf);try exact trivial
       refine⟨exlt1.symm,?_⟩
       (repeat' ((conv=>whnf);first|(with_reducible first|apply spl|apply spl'|refine iJ ?_)<;>intro hc<;>try(exfalso;omega)|refine vcq ?_|refine dr 5 ?_|refine dr 40 ?_));all_goals(try conv=>whnf);try exact trivial
      ·have hme:m=l1.length:=by dsimp only at *;omega
       subst hme
       have hnk:¬∃r∈l1,r.same (N.getD k (RT.begin h)):=by
        rintro⟨r,hr,hrs⟩
        obtain⟨q,hq,rfl⟩:=a1G hr
        refine hc ⟨q,hq,?_⟩
        rwa [a0A,a0D hq]
       have hs1:=hs.new g hkN hN.good hnk
       dsimp only at *
       rw[hk0]
       refine⟨(k+1,l1++[N.getD k (RT.begin h)]),⟨⟨hkN,hs1,by dsimp only;rw[List.length_append];omega,?_⟩,by dsimp only;omega⟩,some [some 0,some 3],?_⟩
       ·dsimp only
        rw[←hli,a0A,a0A,a0E hil1]
        exact(a0A ..).symm
       ·(repeat' ((conv=>whnf);first|(with_reducible first|apply spl|apply spl'|refine iJ ?_)<;>intro hc<;>try(exfalso;omega)|refine vcq ?_|refine dr 5 ?_|refine dr 40 ?_));all_goals(try conv=>whnf);try exact trivial
        refine⟨by rw[a0F,a1A],?_⟩
        (repeat' ((conv=>whnf);first|(with_reducible first|apply spl|apply spl'|refine iJ ?_)<;>intro hc<;>try(exfalso;omega)|refine vcq ?_|refine dr 5 ?_|refine dr 40 ?_));all_goals(try conv=>whnf);try exact trivial
        refine⟨by rw[a0F,a1A],a2d (c:=RT.c h) (a:=N.getD k (RT.begin h)) (l:=l1) rfl (fun _ _=>rfl),?_⟩
        (repeat' ((conv=>whnf);first|(with_reducible first|apply spl|apply spl'|refine iJ ?_)<;>intro hc<;>try(exfalso;omega)|refine vcq ?_|refine dr 5 ?_|refine dr 40 ?_));all_goals(try conv=>whnf);try exact trivial
      ·have hme:m=l1.length:=by dsimp only at *;omega
       subst hme
       obtain⟨q,hq,hqs⟩:=a0T.1 hc
       have hs1:=hs.old g hkN hN.good ⟨_,getD_memR hq,hqs⟩
       refine⟨(k+1,l1),⟨⟨hkN,hs1,hil1,hli⟩,by dsimp only;omega⟩,some [some 0,some 1],?_⟩
       (repeat' ((conv=>whnf);first|(with_reducible first|apply spl|apply spl'|refine iJ ?_)<;>intro hc<;>try(exfalso;omega)|refine vcq ?_|refine dr 5 ?_|refine dr 40 ?_));all_goals(try conv=>whnf);try exact trivial
    ·have hke:k=N.length:=by dsimp only at *;omega
     subst hke
     have hs1:=hs.done g hil1 (by rw[hli];exact hN)
     refine⟨(i+1,l1),⟨hs1,by dsimp only;have:CAP=481890304:=rfl;omega⟩,some [some 0,some 1],?_⟩
     (repeat' ((conv=>whnf);first|(with_reducible first|apply spl|apply spl'|refine iJ ?_)<;>intro hc<;>try(exfalso;omega)|refine vcq ?_|refine dr 5 ?_|refine dr 40 ?_));all_goals(try conv=>whnf);try exact trivial
  ·have hie:i=l.length:=by dsimp only at hc;omega
   subst hie
   refine⟨_,⟨l,hs,rfl⟩,?_⟩
   (repeat' ((conv=>whnf);first|(with_reducible first|apply spl|apply spl'|refine iJ ?_)<;>intro hc<;>try(exfalso;omega)|refine vcq ?_|refine dr 5 ?_|refine dr 40 ?_));all_goals(try conv=>whnf);try exact trivial
theorem rends45 (h:Hist) (g:h.Ok) (hn2:h.n≤2) (hl6:h.l.length≤6):a0q Tryz.prog 45 true [h.w] (fun v=>∃L:List RT,EndR h L∧v=.sl 5 L.length (a0u (RT.c h) (RT.begin h) L)):=by
 have hnn:=g.nn
 refine a0c Tryz.E_ok Tryz.func45 rfl (by kernel_rfl) ?_
 refine x14 ?_
 refine a0d (stages72 h g hn2 hl6) rfl ?_
 rintro _ ⟨l,hs,rfl⟩
 have hcap:l.length≤481890304:=hs.cap g hn2 hl6
 refine x14 ?_
 refine⟨Nat,fun i=>i≤l.length,fun i=>l.length-i,fun i=>[(5,.int .i64 (i:Nat)),(3,.osl 1 (outR h (l.take i)).length)],fun _=>[],fun i=>[.row 77 5 (outR h (l.take i)).length (a0u (RT.c h) (RT.begin h) (outR h (l.take i))) true],0,⟨a2A _,some [some 0,none],?_⟩,?_⟩
 ·exact xc6
 ·intro i hi
  have hi:i≤l.length:=hi
  have hi0:((i:Nat):Int).toNat=i:=by omega
  have hol:=outR_len (h:=h) (l.take i)
  rw[a0V] at hol
  refine x15 (fun hc=>?_) (fun hc=>?_)
  ·have hil:i<l.length:=by omega
   have hgi:=hs.good _ (getD_memR (h:=h) hil)
   have hdl:=hgi.dlen
   have htk:l.take (i+1)=l.take i++[l.getD i (RT.begin h)]:=by
    rw[a1H hil]
    congr 1
    simp[a0A,hil]
   rw[hi0]
   refine a0f (whole55 h (by omega) (l.getD i (RT.begin h)).d (by omega)) rfl ?_
   refine x15 (fun hc=>?_) (fun hc=>?_)
   ·have hw:WholeD h (l.getD i (RT.begin h)).d:=by assumption
    have e:=outR_yes (L:=l.take i) hw
    rw[←htk] at e
    rw[hi0]
    refine⟨i+1,⟨by omega,by dsimp only;omega⟩,some [some 0,some 3],?_⟩
    dsimp only
    rw[e]
    refine x14 ?_
    refine⟨by rw[a0F,a1A],?_⟩
    refine x14 ?_
    refine⟨by rw[a0F,a1A],a2d (c:=RT.c h) (a:=l.getD i (RT.begin h)) (l:=outR h (l.take i)) rfl (fun _ _=>rfl),?_⟩
    exact xc6
   ·have hw:¬WholeD h (l.getD i (RT.begin h)).d:=by assumption
    have e:=outR_no (L:=l.take i) hw
    rw[←htk] at e
    refine⟨i+1,⟨by omega,by dsimp only;omega⟩,some [some 0,some 1],?_⟩
    dsimp only
    rw[e]
    exact xc6
  ·have hie:i=l.length:=by omega
   subst hie
   rw[a3B]
   refine⟨_,⟨outR h l,hs.out g hn2 hl6,rfl⟩,?_⟩
   exact xc6
open Hist (cut)
end Ho
end Go.Proofs
namespace Go.Proofs
open Go Go.Sx
set_option maxRecDepth 100000
set_option maxHeartbeats 40000000
namespace Ho
theorem rlegal17 (h:Hist) (hf:h.Near):a0q Tryz.prog 17 false [h.w] (·=.tup [.prop (h.Ok∧h.Legal) (Classical.propDecidable _),.int .i64 h.chk]):=by
 have h40:=hf.1
 refine a0c Tryz.E_ok Tryz.func17 rfl (by kernel_rfl) ?_
 refine x1 ?_
 refine a0d (rcheck h (by omega)) rfl ?_
 rintro _ rfl
 refine x7 (fun hc=>?_) (fun hc=>?_)
 ·have hn:¬h.Ok:=fun g=>hc (by rw[Hist.chk_of g])
  have e:h.chk=170:=if_neg hn
  refine⟨_,rfl,?_⟩
  rw[e]
  refine x1 ?_
  exact⟨fun q=>hn q.1,rfl,trivial⟩
 ·have g:h.Ok:=Hist.chk_ok (a0T.1 hc)
  obtain⟨h2,h6⟩:=hf.2 g
  refine a0d (rends45 h g h2 h6) rfl ?_
  rintro _ ⟨L,hL,rfl⟩
  have hl:=hL.len
  have hg:=hL.legal
  clear hc hf
  refine x1 ?_
  refine⟨_,rfl,?_⟩
  rw[Hist.chk_of g]
  refine x1 ?_
  refine⟨by rw[hg];exact⟨fun q=>⟨g,by omega⟩,fun q=>by omega⟩,?_⟩
  exact xc3
theorem EndR.rd {h:Hist} {L:List RT} (e:EndR h L) (b:Nat) (v:Int):v∈L.map (fun r=>h.res r.st b)↔h.rd b v:=by
 rw[a1C]
 constructor
 ·rintro⟨r,hr,rfl⟩
  exact⟨r.st,(e.ends _).2 ⟨r,hr,rfl⟩,rfl⟩
 ·rintro⟨s,hs,rfl⟩
  obtain⟨r,hr,rfl⟩:=(e.ends s).1 hs
  exact⟨r,hr,rfl⟩
structure FI (h:Hist) (L:List RT) (b:Nat) (C:List Int) (i k:Nat) (Ms:List (Nat→Int)):Prop where
 sound:∀v∈C,h.fl b v
 old:∀j,j<i→∀im,h.Img (L.getD j (RT.begin h)).O im→h.keep1 ((L.getD j (RT.begin h)).K.getD b 0) (im.getD b 0)∈C
 cur:∀q,q<k→(L.getD i (RT.begin h)).kf h (Ms.getD q fun _=>0) b∈C
 len:C.length≤81*i+k
namespace FI
variable {h:Hist} {L:List RT} {b:Nat} {C:List Int} {i k:Nat} {Ms:List (Nat→Int)}
theorem other (f:FI h L b C i 0 Ms) (Ns:List (Nat→Int)):FI h L b C i 0 Ns:=⟨f.sound,f.old,fun j hj=>(Nat.not_lt_zero j hj).elim,f.len⟩
theorem step (f:FI h L b C i k Ms) {v:Int} (hv:v=(L.getD i (RT.begin h)).kf h (Ms.getD k fun _=>0) b) (hfl:h.fl b v):FI h L b (C++[v]) i (k+1) Ms:=by
 refine⟨fun u hu=>?_,fun j hj im hi=>a1I _ (f.old j hj im hi),fun q hq=>?_,?_⟩
 ·rcases a0M.1 hu with q|q
  ·exact f.sound u q
  ·rw[a0L] at q
   subst q
   exact hfl
 ·rcases a0J (show q≤k by omega) with r|rfl
  ·exact a1I _ (f.cur q r)
  ·exact List.mem_append_right _ (by rw[a0L,hv])
 ·rw[a0F,a1A]
  have:=f.len
  omega
end FI
theorem kf_fl {h:Hist} (g:h.Ok) {L:List RT} (e:EndR h L) {r:RT} (hr:r∈L) {Ms:List (Nat→Int)} (hM:ImgsR (h.cache r.O) h.nn Ms) {b:Nat} (hb:b<h.nn) :
  (∀f∈Ms,h.fl b (r.kf h f b))∧∀im,h.Img r.O im→∃f∈Ms,r.kf h f b=h.keep1 (r.K.getD b 0) (im.getD b 0):=by
 have gr:=e.good r hr
 constructor
 ·intro f hf
  obtain⟨c,hp,hfit⟩:=hM.sound f hf
  refine⟨r.st,(List.range h.nn).map (fun b=>num r.O (f b)),(e.ends _).2 ⟨r,hr,rfl⟩,⟨by simp,c,hp,fun b hb=>?_⟩,?_⟩
  ·simp[a0A,hb,hfit b hb]
   rfl
  ·rw[kf_keep r (falls_fit g gr hM hf hb).1]
   congr 1
   simp[a0A,hb]
 ·rintro im ⟨_,c,hp,hall⟩
  obtain⟨f,hf,hfit⟩:=hM.cov c hp
  refine⟨f,hf,?_⟩
  rw[kf_keep r (falls_fit g gr hM hf hb).1,hall b hb,hfit b hb]
theorem FI.next {h:Hist} (g:h.Ok) {L:List RT} (e:EndR h L) {b:Nat} (hb:b<h.nn) {C:List Int} {i:Nat} (hi:i<L.length) {Ms:List (Nat→Int)} (hM:ImgsR (h.cache (L.getD i (RT.begin h)).O) h.nn Ms) (hl:Ms.length≤81) (f:FI h L b C i Ms.length Ms):FI h L b C (i+1) 0 []:=by
 refine⟨f.sound,fun j hj im him=>?_,fun j hj=>(Nat.not_lt_zero j hj).elim,by have:=f.len;omega⟩
 rcases a0J (show j≤i by omega) with q|rfl
 ·exact f.old j q im him
 ·obtain⟨m,hm,e2⟩:=(kf_fl g e (getD_memR hi) hM hb).2 im him
  obtain⟨q,hq,rfl⟩:=a1G hm
  have:=f.cur q hq
  rw[a0A (l:=Ms),a0D hq] at this
  rw[←e2]
  exact this
end Ho
end Go.Proofs
namespace Go.Proofs
open Go Go.Sx
set_option maxRecDepth 100000
set_option maxHeartbeats 4000000
namespace Ho
variable {h:Hist}
def OG (h:Hist) (i:Nat):Prop:=(h.at' i).k=10∧(h.at' i).t=-1
structure RW (h:Hist) (r:RT):Prop where
 ex:∃r':RT,RG h r'∧(r'.O=r.O∧r'.K=r.K)∧∀i,i∈r'.d↔i∈r.d∧¬OG h i
 nd:r.d.Nodup
 lt:∀i∈r.d,i<h.l.length
def FitX (h:Hist) (r:RT) (n:Nat):Prop:=(h.at' n).k=10→(h.at' n).t≠-1→h.res r.st (h.at' n).b.toNat=(h.at' n).v
namespace RW
theorem begin (h:Hist):RW h (RT.begin h):=⟨⟨_,RG.begin h,⟨rfl,rfl⟩,fun _=>⟨fun q=>(List.not_mem_nil q).elim,fun q=>(List.not_mem_nil q.1).elim⟩⟩,List.nodup_nil,fun _ hi=>(List.not_mem_nil hi).elim⟩
theorem dlen {r:RT} (g:RW h r):r.d.length≤h.l.length:=by
 have:=a1O g.nd (l₂:=List.range h.l.length) (fun i hi=>a1D.2 (g.lt i hi))
 rwa [List.length_range] at this
theorem olen (gh:h.Ok) {r:RT} (g:RW h r):r.O.length≤h.l.length:=by
 obtain⟨r',g',⟨e,_⟩,_⟩:=g.ex
 rw[←e];exact g'.olen gh
theorem klen (gh:h.Ok) {r:RT} (g:RW h r):r.K.length=h.nn:=by
 obtain⟨r',g',⟨_,e⟩,_⟩:=g.ex
 rw[←e];exact g'.klen gh
theorem olt (gh:h.Ok) {r:RT} (g:RW h r):∀i∈r.O,i<h.l.length:=by
 obtain⟨r',g',⟨e,_⟩,_⟩:=g.ex
 rw[←e];exact g'.olt gh
theorem ond (gh:h.Ok) {r:RT} (g:RW h r):r.O.Nodup:=by
 obtain⟨r',g',⟨e,_⟩,_⟩:=g.ex
 rw[←e];exact(Hist.Rea.inv gh g'.rea).nd
theorem cache (gh:h.Ok) {r:RT} (g:RW h r):(h.cache r.O).Ok:=by
 obtain⟨r',g',⟨e,_⟩,_⟩:=g.ex
 rw[←e];exact gh.cache (Hist.Rea.inv gh g'.rea)
theorem small (gh:h.Ok) (hn:h.n≤2) (hl:h.l.length≤6) {r:RT} (g:RW h r):(h.cache r.O).Small:=by
 obtain⟨r',g',⟨e,_⟩,_⟩:=g.ex
 rw[←e];exact gh.small hn hl (Hist.Rea.inv gh g'.rea)
theorem may {r r':RT} (hd:∀i,i∈r'.d↔i∈r.d∧¬OG h i) {n:Nat} (hm:MayD h r.d n):MayD h r'.d n:=by
 refine⟨fun q=>hm.1 ((hd n).1 q).1,fun j hj=>⟨fun q ht=>?_,fun q=>(hm.2 j hj).2 ((hd j).1 q).1⟩⟩
 exact(hm.2 j hj).1 (fun q2=>q ((hd j).2 ⟨q2,fun og=>ht og.2⟩)) ht
theorem doO {r:RT} (g:RW h r) {n:Nat} (hn:n<h.l.length) (hm:MayD h r.d n) (h9:(h.at' n).k≠9) (hf:FitX h r n):RW h (r.doO h n):=by
 obtain⟨r',g',⟨eO,eK⟩,hd⟩:=g.ex
 have hm':=may hd hm
 refine⟨?_,?_,fun i hi=>?_⟩
 ·by_cases og:OG h n
  ·have e:(h.at' n).isO=false:=by unfold Cmd.isO;simp[og.1]
   refine⟨r',g',⟨?_,eK⟩,fun i=>?_⟩
   ·unfold RT.doO;rw[e];exact eO
   ·rw[hd]
    unfold RT.doO
    rw[a0M,a0L]
    constructor
    ·exact fun q=>⟨.inl q.1,q.2⟩
    ·rintro⟨q|rfl,q2⟩
     ·exact⟨q,q2⟩
     ·exact absurd og q2
  ·have est:r'.st.O=r.st.O∧r'.st.K=r.st.K:=⟨eO,eK⟩
   have hres:∀b,h.res r'.st b=h.res r.st b:=fun b=>by unfold Hist.res;rw[est.1,est.2]
   have hs:StepI h r'.st n (r'.doO h n).st:=⟨mayD_iff.1 hm',.inl ⟨h9,fun k10=>⟨fun t=>og ⟨k10,t⟩,by rw[hres];exact hf k10 fun t=>og ⟨k10,t⟩⟩,do_st r' n⟩⟩
   refine⟨r'.doO h n,g'.step hn hs rfl,⟨?_,eK⟩,fun i=>?_⟩
   ·unfold RT.doO;rw[eO]
   ·unfold RT.doO
    rw[a0M,a0L,a0M,a0L,hd]
    constructor
    ·rintro(q|rfl)
     ·exact⟨.inl q.1,q.2⟩
     ·exact⟨.inr rfl,og⟩
    ·rintro⟨q|rfl,q2⟩
     ·exact .inl ⟨q,q2⟩
     ·exact .inr rfl
 ·unfold RT.doO
  rw[a2N]
  refine⟨g.nd,by simp,?_⟩
  rintro x hx y hy rfl
  rw[a0L] at hy
  subst hy
  exact hm.1 hx
 ·unfold RT.doO at hi
  rw[a0M,a0L] at hi
  rcases hi with hi|rfl
  ·exact g.lt i hi
  ·exact hn
end RW
theorem fall_one (gh:h.Ok) {r:RT} (g:RG h r) {i:Nat} (hm:MayD h r.d i) (hk:(h.at' i).k=9) {f:Nat→Int} {c:C6} (hp:PosI (h.cache r.O) c) (hfit:Fits h.nn f c):StepI h r.st i (r.fall h i f).st:=by
 have hI:=Hist.Rea.inv gh g.rea
 have hc:=gh.cache hI
 have h6:=gh.nn
 have lo:∀b,b<h.nn→-2≤f b:=by
  intro b hb
  rw[hfit b hb]
  rcases hp.holds hc (show b<6 by omega) with q|q|⟨q,_,q,_⟩<;>omega
 refine⟨mayD_iff.1 hm,.inr ⟨hk,_,⟨by simp,c,hp,fun b hb=>?_⟩,fall_st r i lo⟩⟩
 simp[a0A,hb,hfit b hb]
 rfl
theorem RW.fall (gh:h.Ok) {r:RT} (g:RW h r) {n:Nat} (hn:n<h.l.length) (hm:MayD h r.d n) (h9:(h.at' n).k=9) {f:Nat→Int} {c:C6} (hp:PosI (h.cache r.O) c) (hfit:Fits h.nn f c):RW h (r.fall h n f):=by
 obtain⟨r',g',⟨eO,eK⟩,hd⟩:=g.ex
 have hm':=RW.may hd hm
 refine⟨⟨r'.fall h n f,g'.step hn (fall_one gh g' hm' h9 (by rw[eO];exact hp) hfit) rfl,⟨rfl,?_⟩,fun i=>?_⟩,?_,fun i hi=>?_⟩
 ·unfold RT.fall RT.kf
  rw[eO,eK]
 ·unfold RT.fall
  rw[a0M,a0L,a0M,a0L,hd]
  constructor
  ·rintro(q|rfl)
   ·exact⟨.inl q.1,q.2⟩
   ·exact⟨.inr rfl,fun og=>by have:=og.1;omega⟩
  ·rintro⟨q|rfl,q2⟩
   ·exact .inl ⟨q,q2⟩
   ·exact .inr rfl
 ·unfold RT.fall
  rw[a2N]
  refine⟨g.nd,by simp,?_⟩
  rintro x hx y hy rfl
  rw[a0L] at hy
  subst hy
  exact hm.1 hx
 ·unfold RT.fall at hi
  rw[a0M,a0L] at hi
  rcases hi with hi|rfl
  ·exact g.lt i hi
  ·exact hn
def pos1 (O:List Nat) (n:Int) (k:Nat):List Int:=((List.range k).filter fun q=>decide (((O.getD q 0:Nat):Int)=n)).map Int.ofNat
theorem pos1_yes {O:List Nat} {n:Int} {k:Nat} (h:((O.getD k 0:Nat):Int)=n):pos1 O n (k+1)=pos1 O n k++[(k:Int)]:=by
 unfold pos1
 rw[List.range_succ,a2J,a1L,List.filter_cons,if_pos (decide_eq_true h)]
 rfl
theorem pos1_no {O:List Nat} {n:Int} {k:Nat} (h:¬((O.getD k 0:Nat):Int)=n):pos1 O n (k+1)=pos1 O n k:=by
 unfold pos1
 rw[List.range_succ,a2J,a1L,List.filter_cons,if_neg (fun q=>h (of_decide_eq_true q)),List.filter_nil,a3G,List.append_nil]
theorem pos1_len (O:List Nat) (n:Int) (k:Nat):(pos1 O n k).length≤k:=by
 unfold pos1
 rw[a2M]
 refine a2X (List.length_filter_le ..) ?_
 simp
def part (O:List Nat) (n:Int):List Int:=pos1 O n O.length++if n=-1∨n=-2 then [n] else []
theorem part_len (O:List Nat) (n:Int):(part O n).length≤O.length+1:=by
 unfold part
 have:=pos1_len O n O.length
 rw[a0F]
 split<;>simp<;>omega
def idxL (O:List Nat) (im:List Int) (b:Nat):List Int:=(List.range b).flatMap fun c=>part O (im.getD c 0)
theorem idxL_succ (O:List Nat) (im:List Int) (b:Nat):idxL O im (b+1)=idxL O im b++part O (im.getD b 0):=by
 unfold idxL
 rw[List.range_succ,List.flatMap_append]
 simp
theorem idxL_len (O:List Nat) (im:List Int):∀b,(idxL O im b).length≤b*(O.length+1)
 |0=>by simp[idxL]
 |b+1=>by
  rw[idxL_succ,a0F,a0Q]
  have:=idxL_len O im b
  have:=part_len O (im.getD b 0)
  omega
def PossX (h:Hist) (r:RT) (im:List Int):Prop:=(im.length:Int)=h.n∧IsImg (h.cache r.O) (idxL r.O im h.nn)∧IsPos (h.cache r.O) (idxL r.O im h.nn)
def fX (h:Hist) (r:RT) (im:List Int):Nat→Int:=fun b=>(idxL r.O im h.nn).getD b 0
theorem PossX.pos (gh:h.Ok) {r:RT} {im:List Int} (p:PossX h r im):(idxL r.O im h.nn).length=h.nn∧∃c,PosI (h.cache r.O) c∧Fits h.nn (fX h r im) c:=by
 obtain⟨_,⟨h1,_⟩,c,hp,he⟩:=p
 have hn:=gh.nn
 have h1:((idxL r.O im h.nn).length:Int)=h.n:=h1
 have hl:(idxL r.O im h.nn).length=h.nn:=by omega
 exact⟨hl,c,hp,fun b hb=>(he b (by omega)).symm⟩
def isx (h:Hist):RT→List Int→List (List Int)→Prop
 |r,[],ims=>WholeD h r.d∧ims=[]
 |r,x :: o,ims=>(0≤x∧x≤h.l.length-1)∧MayD h r.d x.toNat∧FitX h r x.toNat∧(((h.at' x.toNat).k≠9∧isx h (r.doO h x.toNat) o ims)∨((h.at' x.toNat).k=9∧∃im ims',ims=im :: ims'∧PossX h r im∧isx h (r.fall h x.toNat (fX h r im)) o ims'))
end Ho
end Go.Proofs
