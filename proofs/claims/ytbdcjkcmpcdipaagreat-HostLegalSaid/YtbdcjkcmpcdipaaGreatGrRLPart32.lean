/- Own work: texts of the proof of a law (Gr6, Gr7, Gr8, Gr9, GrA, GrB, GrC). No condition. -/
import Derived.Test.YtbdcjkcmpcdipaaGreatGrRLPart31
set_option linter.unusedVariables false
set_option linter.unusedSimpArgs false
namespace Go.Proofs
open Go Go.Sx
set_option maxRecDepth 100000
set_option maxHeartbeats 40000000
namespace Ho
theorem result51i (h:Hist) (g:h.Ok) (hl:h.l.length≤1000000) (r:RT) (gr:RG h r) (b:Int) (hb:0≤b∧b.toNat<h.nn):a0o Tryz.prog 51 false [h.w,r.v h,.int .i64 b] (·=.int .i64 (h.res r.st b.toNat)):=by
 have hK:=gr.klen g
 have hO:=gr.olen g
 have h6:=g.nn
 have e:((b.toNat:Nat):Int)=b:=by omega
 have:=result51 h hl r (gr.olt g) (by omega) b.toNat (by omega) (by omega)
 rw[e] at this
 unfold Hist.res
 rw[e]
 exact this
theorem nextR_do {h:Hist} {r:RT} (gr:RG h r) {n:Nat} (hn:n<h.l.length) (hm:MayD h r.d n) (h9:(h.at' n).k≠9) (hf:h.Fit r.st n) {L:List RT} (hL:NextR h r n L):NextR h r (n+1) (L++[r.doO h n]):=by
 have hs:StepI h r.st n (r.doO h n).st:=⟨mayD_iff.1 hm,.inl ⟨h9,hf,do_st r n⟩⟩
 refine hL.more (fun x hx=>?_) (fun t ht=>?_) (by simp)
 ·rw[List.mem_singleton] at hx
  subst hx
  exact gr.step hn hs rfl
 ·rcases ht with⟨_,⟨_,_,e⟩|⟨q,_⟩⟩
  ·exact⟨_,List.mem_singleton.2 rfl,by rw[e,do_st]⟩
  ·exact absurd q h9
theorem nextR_fall {h:Hist} (g:h.Ok) {r:RT} (gr:RG h r) {n:Nat} (hn:n<h.l.length) (hm:MayD h r.d n) (h9:(h.at' n).k=9) {Ms:List (Nat→Int)} (hM:ImgsR (h.cache r.O) h.nn Ms) {L:List RT} (hL:NextR h r n L):NextR h r (n+1) (L++Ms.map (r.fall h n)):=by
 obtain⟨h1,h2⟩:=falls_step g gr hm h9 hM
 refine hL.more (fun x hx=>?_) (fun t ht=>?_) (by rw[List.length_map];have:=hM.len;omega)
 ·obtain⟨f,hf,rfl⟩:=List.mem_map.1 hx
  exact gr.step hn (h1 f hf) rfl
 ·obtain⟨f,hf,e⟩:=h2 t ht
  exact⟨_,List.mem_map.2 ⟨f,hf,rfl⟩,e⟩
theorem nextR_no {h:Hist} {r:RT} {n:Nat} (hq:¬MayD h r.d n∨(h.at' n).k=10∧((h.at' n).t=-1∨h.res r.st (h.at' n).b.toNat≠(h.at' n).v)):∀t,¬StepI h r.st n t:=by
 rintro t ⟨hm,hs⟩
 rcases hq with q|⟨q,q2⟩
 ·exact q (mayD_iff.2 hm)
 ·rcases hs with⟨_,hf,_⟩|⟨h9,_⟩
  ·obtain⟨f1,f2⟩:=hf q
   rcases q2 with q2|q2
   ·exact f1 q2
   ·exact q2 f2
  ·omega
theorem next101 (h:Hist) (g:h.Ok) (hn2:h.n≤2) (hl6:h.l.length≤6) (r:RT) (gr:RG h r):a0o Tryz.prog 101 true [h.w,r.v h] (fun v=>∃L:List RT,NextR h r h.l.length L∧v=.sl 5 L.length (a0u (RT.c h) (RT.begin h) L)):=by
 have hI:=Hist.Rea.inv g gr.rea
 have hnn:=g.nn
 have hdl:=gr.dlen
 have hol:=gr.olen g
 have hsm:=g.small hn2 hl6 hI
 refine a0b Tryz.E_ok Tryz.func101 rfl (by kernel_rfl) ?_
 (repeat' ((conv=>whnf);first|(with_reducible first|apply spl|apply spl'|refine iJ ?_)<;>intro hc<;>try(exfalso;omega)|refine vcq ?_|refine dr 24 ?_|refine dr 10 ?_));all_goals(try conv=>whnf);try exact trivial
 refine⟨Nat×List RT,fun q=>q.1≤h.l.length∧NextR h r q.1 q.2,fun q=>h.l.length-q.1,fun q=>[(6,.int .i64 (q.1:Nat)),(5,.osl 2 q.2.length)],fun _=>[],fun q=>[.row 77 5 q.2.length (a0u (RT.c h) (RT.begin h) q.2) true],(0,[]),⟨⟨by dsimp only;omega,NextR.nil h r⟩,some [some 0,some 1,none],?_⟩,?_⟩
 ·(repeat' ((conv=>whnf);first|(with_reducible first|apply spl|apply spl'|refine iJ ?_)<;>intro hc<;>try(exfalso;omega)|refine vcq ?_|refine dr 24 ?_|refine dr 10 ?_));all_goals(try conv=>whnf);try exact trivial
 ·rintro⟨n,L⟩ ⟨hn,hL⟩
  dsimp only at hn hL
  have hn0:((n:Nat):Int).toNat=n:=by omega
  (repeat' ((conv=>whnf);first|(with_reducible first|apply spl|apply spl'|refine iJ ?_)<;>intro hc<;>try(exfalso;omega)|refine vcq ?_|refine dr 24 ?_|refine dr 10 ?_));all_goals(try conv=>whnf);try exact trivial
  ·have hnl:n<h.l.length:=by dsimp only at hc;omega
   have e0:h.l.getD ((n:Nat):Int).toNat c0=h.at' n:=by rw[hn0];rfl
   have hck:=g.cmd n hnl
   have hlen:=hL.len
   have hlen2:L.length≤6000000:=by
    have:600001*n≤600001*6:=Nat.mul_le_mul_left _ (by omega)
    omega
   have hno:=nextR_no (h:=h) (r:=r) (n:=n)
   have hdo:=fun a b c=>nextR_do gr hnl a b c hL
   have hfa:=fun a b Ms hM=>nextR_fall g gr hnl a b (Ms:=Ms) hM hL
   unfold Hist.Fit at hdo
   have hres:(h.at' n).k=10→_:=fun q=>result51i h g (by omega) r gr (h.at' n).b (by
    generalize h.at' n=c at *
    unfold Cmd.Ok at hck
    omega)
   have hrdo:=rdo52 h (by omega) r (by omega) (by omega) n hnl
   refine a0f (may50 h (by omega) r (by omega) n hnl) rfl ?_
   (repeat' ((conv=>whnf);first|(with_reducible first|apply spl|apply spl'|refine iJ ?_)<;>intro hc<;>try(exfalso;omega)|refine vcq ?_|refine dr 24 ?_|refine dr 10 ?_));all_goals(try conv=>whnf);try exact trivial
   dsimp only at *
   rw[e0]
   generalize h.at' n=c at *
   (repeat' ((conv=>whnf);first|(with_reducible first|apply spl|apply spl'|refine iJ ?_)<;>intro hc<;>try(exfalso;omega)|refine vcq ?_|refine dr 24 ?_|refine dr 10 ?_));all_goals((try conv=>whnf);try exact trivial);(repeat' ((first|(refine a0d (ropen c) rfl ?_;rintro _ rfl)|(refine a0f (ropen c) rfl ?_)|(refine a0l (fun _=>ropen c) rfl ?_));(repeat' ((conv=>whnf);first|(with_reducible first|apply spl|apply spl'|refine iJ ?_)<;>intro hc<;>try(exfalso;omega)|refine vcq ?_|refine dr 24 ?_|refine dr 10 ?_));all_goals((try conv=>whnf);try exact trivial)))
   refine a0l (fun hg=>hres hg.1.2) rfl ?_
   (repeat' ((conv=>whnf);first|(with_reducible first|apply spl|apply spl'|refine iJ ?_)<;>intro hc<;>try(exfalso;omega)|refine vcq ?_|refine dr 24 ?_|refine dr 10 ?_));all_goals(try conv=>whnf);try exact trivial
   ·have hn1:=hL.skip (hno hc)
    clear hno hdo hfa hres hrdo
    refine⟨(n+1,L),⟨⟨hnl,hn1⟩,by dsimp only;omega⟩,some [some 0,some 1,some 2],?_⟩
    (repeat' ((conv=>whnf);first|(with_reducible first|apply spl|apply spl'|refine iJ ?_)<;>intro hc<;>try(exfalso;omega)|refine vcq ?_|refine dr 24 ?_|refine dr 10 ?_));all_goals(try conv=>whnf);try exact trivial
   ·rename_i q1
    have hm:MayD h r.d n:=Classical.byContradiction fun q=>q1 (.inl q)
    have hn1:=hdo hm hc (fun q=>⟨fun q2=>q1 (.inr ⟨q,.inl q2⟩),Classical.byContradiction fun q2=>q1 (.inr ⟨q,.inr q2⟩)⟩)
    clear hno hdo hfa hres q1
    refine a0d hrdo rfl ?_
    rintro _ rfl
    (repeat' ((conv=>whnf);first|(with_reducible first|apply spl|apply spl'|refine iJ ?_)<;>intro hc<;>try(exfalso;omega)|refine vcq ?_|refine dr 24 ?_|refine dr 10 ?_));all_goals(try conv=>whnf);try exact trivial
    refine⟨(n+1,L++[r.doO h n]),⟨⟨hnl,hn1⟩,by dsimp only;omega⟩,some [some 0,some 1,some 5],?_⟩
    (repeat' ((conv=>whnf);first|(with_reducible first|apply spl|apply spl'|refine iJ ?_)<;>intro hc<;>try(exfalso;omega)|refine vcq ?_|refine dr 24 ?_|refine dr 10 ?_));all_goals(try conv=>whnf);try exact trivial
    refine⟨by dsimp only;rw[List.length_append,List.length_singleton],?_⟩
    (repeat' ((conv=>whnf);first|(with_reducible first|apply spl|apply spl'|refine iJ ?_)<;>intro hc<;>try(exfalso;omega)|refine vcq ?_|refine dr 24 ?_|refine dr 10 ?_));all_goals(try conv=>whnf);try exact trivial
    refine⟨by dsimp only;rw[List.length_append,List.length_singleton],a1r (c:=RT.c h) (a:=r.doO h n) (l:=L) rfl (fun _ _=>rfl),?_⟩
    (repeat' ((conv=>whnf);first|(with_reducible first|apply spl|apply spl'|refine iJ ?_)<;>intro hc<;>try(exfalso;omega)|refine vcq ?_|refine dr 24 ?_|refine dr 10 ?_));all_goals(try conv=>whnf);try exact trivial
   ·rename_i q1
    have h9:c.k=9:=Classical.not_not.1 hc
    have hm:MayD h r.d n:=Classical.byContradiction fun q=>q1 (.inl q)
    clear hno hdo hres q1 hrdo
    refine callee_new (Images60 (h.cache r.O) hsm h.nn hnn.1.symm) rfl ?_
    rintro _ _ ⟨Ms,⟨hM,_⟩,rfl,rfl⟩
    have hn1:=hfa hm h9 Ms hM
    have hMl:=hM.len
    clear hfa
    (repeat' ((conv=>whnf);first|(with_reducible first|apply spl|apply spl'|refine iJ ?_)<;>intro hc<;>try(exfalso;omega)|refine vcq ?_|refine dr 24 ?_|refine dr 10 ?_));all_goals(try conv=>whnf);try exact trivial
    refine⟨Nat×List RT,fun q=>q.1≤Ms.length∧q.2=L++(Ms.take q.1).map (r.fall h n),fun q=>Ms.length-q.1,fun q=>[(9,.int .i64 (q.1:Nat)),(5,.osl 2 q.2.length)],fun q=>[(2,.row 77 5 q.2.length (a0u (RT.c h) (RT.begin h) q.2) true)],fun _=>[],(0,L),⟨⟨Nat.zero_le _,by simp⟩,some [some 0,some 1,some 2,some 3,some 4],?_⟩,?_⟩
    ·(repeat' ((conv=>whnf);first|(with_reducible first|apply spl|apply spl'|refine iJ ?_)<;>intro hc<;>try(exfalso;omega)|refine vcq ?_|refine dr 24 ?_|refine dr 10 ?_));all_goals(try conv=>whnf);try exact trivial
    ·rintro⟨j,M⟩ ⟨hj,hMM⟩
     dsimp only at hj hMM
     have hj0:((j:Nat):Int).toNat=j:=by omega
     have hMl2:M.length≤6600000:=by rw[hMM,List.length_append,List.length_map,List.length_take];omega
     (repeat' ((conv=>whnf);first|(with_reducible first|apply spl|apply spl'|refine iJ ?_)<;>intro hc<;>try(exfalso;omega)|refine vcq ?_|refine dr 24 ?_|refine dr 10 ?_));all_goals(try conv=>whnf);try exact trivial
     ·have hjl:j<Ms.length:=by dsimp only at *;omega
      have ej:Ms.getD ((j:Nat):Int).toNat (fun _=>0)=Ms[j]:=by rw[hj0];simp[List.getD_eq_getElem?_getD,hjl]
      have hfit:=fun b hb=>falls_fit g gr hM (f:=Ms[j]) (List.getElem_mem hjl) (b:=b) hb
      have hsn:M++[r.fall h n Ms[j]]=L++(Ms.take (j+1)).map (r.fall h n):=by
       rw[List.take_succ_eq_append_getElem hjl,List.map_append,←List.append_assoc,hMM]
       rfl
      dsimp only
      rw[ej]
      generalize Ms[j]=f at *
      refine a0f (rfall54 h (by omega) hnn.1.symm hnn.2.2 r (gr.olt g) (by omega) (by omega) (gr.klen g) n (by omega) f hfit) rfl ?_
      (repeat' ((conv=>whnf);first|(with_reducible first|apply spl|apply spl'|refine iJ ?_)<;>intro hc<;>try(exfalso;omega)|refine vcq ?_|refine dr 24 ?_|refine dr 10 ?_));all_goals(try conv=>whnf);try exact trivial
      refine⟨(j+1,M++[r.fall h n f]),⟨⟨hjl,hsn⟩,by dsimp only;omega⟩,some [some 0,some 1,some 6,some 3,some 4],?_⟩
      (repeat' ((conv=>whnf);first|(with_reducible first|apply spl|apply spl'|refine iJ ?_)<;>intro hc<;>try(exfalso;omega)|refine vcq ?_|refine dr 24 ?_|refine dr 10 ?_));all_goals(try conv=>whnf);try exact trivial
      refine⟨by dsimp only;rw[List.length_append,List.length_singleton],?_⟩
      (repeat' ((conv=>whnf);first|(with_reducible first|apply spl|apply spl'|refine iJ ?_)<;>intro hc<;>try(exfalso;omega)|refine vcq ?_|refine dr 24 ?_|refine dr 10 ?_));all_goals(try conv=>whnf);try exact trivial
      refine⟨by dsimp only;rw[List.length_append,List.length_singleton],a1r (c:=RT.c h) (a:=r.fall h n f) (l:=M) rfl (fun _ _=>rfl),?_⟩
      (repeat' ((conv=>whnf);first|(with_reducible first|apply spl|apply spl'|refine iJ ?_)<;>intro hc<;>try(exfalso;omega)|refine vcq ?_|refine dr 24 ?_|refine dr 10 ?_));all_goals(try conv=>whnf);try exact trivial
     ·obtain rfl:j=Ms.length:=by dsimp only at *;omega
      rw[List.take_length] at hMM
      refine⟨(n+1,M),⟨⟨hnl,by rw[hMM];exact hn1⟩,by dsimp only;omega⟩,some [some 0,some 1,some 2],?_⟩
      (repeat' ((conv=>whnf);first|(with_reducible first|apply spl|apply spl'|refine iJ ?_)<;>intro hc<;>try(exfalso;omega)|refine vcq ?_|refine dr 24 ?_|refine dr 10 ?_));all_goals(try conv=>whnf);try exact trivial
  ·obtain rfl:n=h.l.length:=by dsimp only at hc;omega
   refine⟨_,⟨L,hL,rfl⟩,?_⟩
   (repeat' ((conv=>whnf);first|(with_reducible first|apply spl|apply spl'|refine iJ ?_)<;>intro hc<;>try(exfalso;omega)|refine vcq ?_|refine dr 24 ?_|refine dr 10 ?_));all_goals(try conv=>whnf);try exact trivial
end Ho
namespace Ho
theorem stages72 (h:Hist) (g:h.Ok) (hn2:h.n≤2) (hl6:h.l.length≤6):a0o Tryz.prog 72 true [h.w] (fun v=>∃L:List RT,SI h L L.length∧v=.sl 5 L.length (a0u (RT.c h) (RT.begin h) L)):=by
 have hnn:=g.nn
 refine a0b Tryz.E_ok Tryz.func72 rfl (by kernel_rfl) ?_
 (repeat' ((conv=>whnf);first|(with_reducible first|apply spl|apply spl'|refine iJ ?_)<;>intro hc<;>try(exfalso;omega)|refine vcq ?_|refine dr 5 ?_|refine dr 40 ?_));all_goals(try conv=>whnf);try exact trivial
 refine a0d (begin49 h g.n) rfl ?_
 rintro _ rfl
 (repeat' ((conv=>whnf);first|(with_reducible first|apply spl|apply spl'|refine iJ ?_)<;>intro hc<;>try(exfalso;omega)|refine vcq ?_|refine dr 5 ?_|refine dr 40 ?_));all_goals(try conv=>whnf);try exact trivial
 refine⟨Nat×List RT,fun q=>SI h q.2 q.1,fun q=>CAP-q.1,fun q=>[(4,.int .i64 (q.1:Nat)),(3,.osl 1 q.2.length),(11,.any)],fun q=>[(1,.row 77 5 q.2.length (a0u (RT.c h) (RT.begin h) q.2) false)],fun _=>[],(0,[RT.begin h]),⟨SI.one g,some [some 0,some 1],?_⟩,?_⟩
 ·(repeat' ((conv=>whnf);first|(with_reducible first|apply spl|apply spl'|refine iJ ?_)<;>intro hc<;>try(exfalso;omega)|refine vcq ?_|refine dr 5 ?_|refine dr 40 ?_));all_goals(try conv=>whnf);try exact trivial
  refine⟨fun j hj=>?_,?_⟩
  ·obtain rfl:j=0:=by omega
   rfl
  ·(repeat' ((conv=>whnf);first|(with_reducible first|apply spl|apply spl'|refine iJ ?_)<;>intro hc<;>try(exfalso;omega)|refine vcq ?_|refine dr 5 ?_|refine dr 40 ?_));all_goals(try conv=>whnf);try exact trivial
 ·rintro⟨i,l⟩ hs
  dsimp only at hs
  have hcap:l.length≤481890304:=hs.cap g hn2 hl6
  have hile:i≤l.length:=by have:=hs.inv.le;rwa [List.length_map] at this
  have hi0:((i:Nat):Int).toNat=i:=by omega
  (repeat' ((conv=>whnf);first|(with_reducible first|apply spl|apply spl'|refine iJ ?_)<;>intro hc<;>try(exfalso;omega)|refine vcq ?_|refine dr 5 ?_|refine dr 40 ?_));all_goals(try conv=>whnf);try exact trivial
  ·have hil:i<l.length:=by dsimp only at hc;omega
   have hgi:=hs.good _ (getD_memR (h:=h) hil)
   dsimp only
   rw[hi0]
   refine a0d (next101 h g hn2 hl6 (l.getD i (RT.begin h)) hgi) rfl ?_
   rintro _ ⟨N,hN,rfl⟩
   have hNl:=hN.len
   have hNl2:N.length≤6000000:=by
    have:600001*h.l.length≤600001*6:=Nat.mul_le_mul_left _ hl6
    omega
   (repeat' ((conv=>whnf);first|(with_reducible first|apply spl|apply spl'|refine iJ ?_)<;>intro hc<;>try(exfalso;omega)|refine vcq ?_|refine dr 5 ?_|refine dr 40 ?_));all_goals(try conv=>whnf);try exact trivial
   refine⟨Nat×List RT,fun q=>q.1≤N.length∧SJ h q.2 i N q.1∧(i<q.2.length∧q.2.getD i (RT.begin h)=l.getD i (RT.begin h)),fun q=>N.length-q.1,fun q=>[(6,.int .i64 (q.1:Nat)),(3,.osl 1 q.2.length),(13,.any),(18,.any),(19,.any),(20,.any),(21,.any),(22,.any),(23,.any)],fun q=>[(1,.row 77 5 q.2.length (a0u (RT.c h) (RT.begin h) q.2) false)],fun _=>[],(0,l),⟨⟨Nat.zero_le _,SJ.begin hs N,hil,rfl⟩,some [some 0,some 1],?_⟩,?_⟩
   ·(repeat' ((conv=>whnf);first|(with_reducible first|apply spl|apply spl'|refine iJ ?_)<;>intro hc<;>try(exfalso;omega)|refine vcq ?_|refine dr 5 ?_|refine dr 40 ?_));all_goals(try conv=>whnf);try exact trivial
   ·clear hs hcap hile
    rintro⟨k,l1⟩ ⟨hk,hs,hil1,hli⟩
    dsimp only at hk hs hil1 hli
    have hcap:l1.length≤481890304:=hs.si.cap g hn2 hl6
    have hk0:((k:Nat):Int).toNat=k:=by omega
    (repeat' ((conv=>whnf);first|(with_reducible first|apply spl|apply spl'|refine iJ ?_)<;>intro hc<;>try(exfalso;omega)|refine vcq ?_|refine dr 5 ?_|refine dr 40 ?_));all_goals(try conv=>whnf);try exact trivial
    ·have hkN:k<N.length:=by dsimp only at *;omega
     have hgk:=hN.good _ (getD_memR (h:=h) hkN)
     refine⟨Nat,fun m=>m≤l1.length,fun m=>l1.length-m,fun m=>[(8,.int .i64 (m:Nat)),(7,.prop (∃q,q<m∧(l1.getD q (RT.begin h)).same (N.getD k (RT.begin h))) (Classical.propDecidable _)),(36,.any),(37,.any),(38,.any),(39,.any),(40,.any),(41,.any),(42,.any),(43,.any),(44,.any),(45,.any),(46,.any),(47,.any),(48,.any),(49,.any),(50,.any),(51,.any),(52,.any),(53,.any),(54,.any),(55,.any),(56,.any),(57,.any),(58,.any),(59,.any),(60,.any),(61,.any),(62,.any),(63,.any),(64,.any),(65,.any),(66,.any),(67,.any),(68,.any),(69,.any),(70,.any),(71,.any),(72,.any),(73,.any),(74,.any),(75,.any)],fun _=>[],fun _=>[],0,⟨Nat.zero_le _,none,?_⟩,?_⟩
     ·(repeat' ((conv=>whnf);first|(with_reducible first|apply spl|apply spl'|refine iJ ?_)<;>intro hc<;>try(exfalso;omega)|refine vcq ?_|refine dr 5 ?_|refine dr 40 ?_));all_goals(try conv=>whnf);try exact trivial
     ·intro m hm
      have hm:m≤l1.length:=hm
      have hm0:((m:Nat):Int).toNat=m:=by omega
      (repeat' ((conv=>whnf);first|(with_reducible first|apply spl|apply spl'|refine iJ ?_)<;>intro hc<;>try(exfalso;omega)|refine vcq ?_|refine dr 5 ?_|refine dr 40 ?_));all_goals(try conv=>whnf);try exact trivial
      ·have hml:m<l1.length:=by dsimp only at *;omega
       have hgm:=hs.good _ (getD_memR (h:=h) hml)
       have d1:=hgm.dlen
       have d2:=hgm.olen g
       have d3:=hgm.klen g
       have e1:=hgk.dlen
       have e2:=hgk.olen g
       have e3:=hgk.klen g
       dsimp only
       rw[hm0,hk0]
       refine a0l (fun _=>same102n (l1.getD m (RT.begin h)).O (N.getD k (RT.begin h)).O (by omega) (by omega)) rfl ?_
       (repeat' ((conv=>whnf);first|(with_reducible first|apply spl|apply spl'|refine iJ ?_)<;>intro hc<;>try(exfalso;omega)|refine vcq ?_|refine dr 5 ?_|refine dr 40 ?_));all_goals(try conv=>whnf);try exact trivial
       refine a0l (fun _=>same102 (l1.getD m (RT.begin h)).K (N.getD k (RT.begin h)).K (by omega) (by omega)) rfl ?_
       (repeat' ((conv=>whnf);first|(with_reducible first|apply spl|apply spl'|refine iJ ?_)<;>intro hc<;>try(exfalso;omega)|refine vcq ?_|refine dr 5 ?_|refine dr 40 ?_));all_goals(try conv=>whnf);try exact trivial
       refine a0l (fun _=>set103 (l1.getD m (RT.begin h)).d (N.getD k (RT.begin h)).d (by omega) (by omega)) rfl ?_
       (repeat' ((conv=>whnf);first|(with_reducible first|apply spl|apply spl'|refine iJ ?_)<;>intro hc<;>try(exfalso;omega)|refine vcq ?_|refine dr 5 ?_|refine dr 40 ?_));all_goals(try conv=>whnf);try exact trivial
       refine⟨m+1,⟨by omega,by omega⟩,none,?_⟩
       (repeat' ((conv=>whnf);first|(with_reducible first|apply spl|apply spl'|refine iJ ?_)<;>intro hc<;>try(exfalso;omega)|refine vcq ?_|refine dr 5 ?_|refine dr 40 ?_));all_goals(try conv=>whnf);try exact trivial
       refine⟨exlt1.symm,?_⟩
       (repeat' ((conv=>whnf);first|(with_reducible first|apply spl|apply spl'|refine iJ ?_)<;>intro hc<;>try(exfalso;omega)|refine vcq ?_|refine dr 5 ?_|refine dr 40 ?_));all_goals(try conv=>whnf);try exact trivial
      ·have hme:m=l1.length:=by dsimp only at *;omega
       subst hme
       have hnk:¬∃r∈l1,r.same (N.getD k (RT.begin h)):=by
        rintro⟨r,hr,hrs⟩
        obtain⟨q,hq,rfl⟩:=List.getElem_of_mem hr
        refine hc ⟨q,hq,?_⟩
        rwa [List.getD_eq_getElem?_getD,List.getElem?_eq_getElem hq]
       have hs1:=hs.new g hkN hN.good hnk
       dsimp only at *
       rw[hk0]
       refine⟨(k+1,l1++[N.getD k (RT.begin h)]),⟨⟨hkN,hs1,by dsimp only;rw[List.length_append];omega,?_⟩,by dsimp only;omega⟩,some [some 0,some 3],?_⟩
       ·dsimp only
        rw[←hli,List.getD_eq_getElem?_getD,List.getD_eq_getElem?_getD,List.getElem?_append_left hil1]
        exact(List.getD_eq_getElem?_getD ..).symm
       ·(repeat' ((conv=>whnf);first|(with_reducible first|apply spl|apply spl'|refine iJ ?_)<;>intro hc<;>try(exfalso;omega)|refine vcq ?_|refine dr 5 ?_|refine dr 40 ?_));all_goals(try conv=>whnf);try exact trivial
        refine⟨by rw[List.length_append,List.length_singleton],?_⟩
        (repeat' ((conv=>whnf);first|(with_reducible first|apply spl|apply spl'|refine iJ ?_)<;>intro hc<;>try(exfalso;omega)|refine vcq ?_|refine dr 5 ?_|refine dr 40 ?_));all_goals(try conv=>whnf);try exact trivial
        refine⟨by rw[List.length_append,List.length_singleton],a1r (c:=RT.c h) (a:=N.getD k (RT.begin h)) (l:=l1) rfl (fun _ _=>rfl),?_⟩
        (repeat' ((conv=>whnf);first|(with_reducible first|apply spl|apply spl'|refine iJ ?_)<;>intro hc<;>try(exfalso;omega)|refine vcq ?_|refine dr 5 ?_|refine dr 40 ?_));all_goals(try conv=>whnf);try exact trivial
      ·have hme:m=l1.length:=by dsimp only at *;omega
       subst hme
       obtain⟨q,hq,hqs⟩:=Classical.not_not.1 hc
       have hs1:=hs.old g hkN hN.good ⟨_,getD_memR hq,hqs⟩
       refine⟨(k+1,l1),⟨⟨hkN,hs1,hil1,hli⟩,by dsimp only;omega⟩,some [some 0,some 1],?_⟩
       (repeat' ((conv=>whnf);first|(with_reducible first|apply spl|apply spl'|refine iJ ?_)<;>intro hc<;>try(exfalso;omega)|refine vcq ?_|refine dr 5 ?_|refine dr 40 ?_));all_goals(try conv=>whnf);try exact trivial
    ·have hke:k=N.length:=by dsimp only at *;omega
     subst hke
     have hs1:=hs.done g hil1 (by rw[hli];exact hN)
     refine⟨(i+1,l1),⟨hs1,by dsimp only;have:CAP=481890304:=rfl;omega⟩,some [some 0,some 1],?_⟩
     (repeat' ((conv=>whnf);first|(with_reducible first|apply spl|apply spl'|refine iJ ?_)<;>intro hc<;>try(exfalso;omega)|refine vcq ?_|refine dr 5 ?_|refine dr 40 ?_));all_goals(try conv=>whnf);try exact trivial
  ·have hie:i=l.length:=by dsimp only at hc;omega
   subst hie
   refine⟨_,⟨l,hs,rfl⟩,?_⟩
   (repeat' ((conv=>whnf);first|(with_reducible first|apply spl|apply spl'|refine iJ ?_)<;>intro hc<;>try(exfalso;omega)|refine vcq ?_|refine dr 5 ?_|refine dr 40 ?_));all_goals(try conv=>whnf);try exact trivial
end Ho
namespace Ho
theorem rends45 (h:Hist) (g:h.Ok) (hn2:h.n≤2) (hl6:h.l.length≤6):a0o Tryz.prog 45 true [h.w] (fun v=>∃L:List RT,EndR h L∧v=.sl 5 L.length (a0u (RT.c h) (RT.begin h) L)):=by
 have hnn:=g.nn
 refine a0b Tryz.E_ok Tryz.func45 rfl (by kernel_rfl) ?_
 refine x14 ?_
 refine a0d (stages72 h g hn2 hl6) rfl ?_
 rintro _ ⟨l,hs,rfl⟩
 have hcap:l.length≤481890304:=hs.cap g hn2 hl6
 refine x14 ?_
 refine⟨Nat,fun i=>i≤l.length,fun i=>l.length-i,fun i=>[(5,.int .i64 (i:Nat)),(3,.osl 1 (outR h (l.take i)).length)],fun _=>[],fun i=>[.row 77 5 (outR h (l.take i)).length (a0u (RT.c h) (RT.begin h) (outR h (l.take i))) true],0,⟨Nat.zero_le _,some [some 0,none],?_⟩,?_⟩
 ·exact xc6
 ·intro i hi
  have hi:i≤l.length:=hi
  have hi0:((i:Nat):Int).toNat=i:=by omega
  have hol:=outR_len (h:=h) (l.take i)
  rw[List.length_take] at hol
  refine x15 (fun hc=>?_) (fun hc=>?_)
  ·have hil:i<l.length:=by omega
   have hgi:=hs.good _ (getD_memR (h:=h) hil)
   have hdl:=hgi.dlen
   have htk:l.take (i+1)=l.take i++[l.getD i (RT.begin h)]:=by
    rw[List.take_succ_eq_append_getElem hil]
    congr 1
    simp[List.getD_eq_getElem?_getD,hil]
   rw[hi0]
   refine a0f (whole55 h (by omega) (l.getD i (RT.begin h)).d (by omega)) rfl ?_
   refine x15 (fun hc=>?_) (fun hc=>?_)
   ·have hw:WholeD h (l.getD i (RT.begin h)).d:=by assumption
    have e:=outR_yes (L:=l.take i) hw
    rw[←htk] at e
    rw[hi0]
    refine⟨i+1,⟨by omega,by dsimp only;omega⟩,some [some 0,some 3],?_⟩
    dsimp only
    rw[e]
    refine x14 ?_
    refine⟨by rw[List.length_append,List.length_singleton],?_⟩
    refine x14 ?_
    refine⟨by rw[List.length_append,List.length_singleton],a1r (c:=RT.c h) (a:=l.getD i (RT.begin h)) (l:=outR h (l.take i)) rfl (fun _ _=>rfl),?_⟩
    exact xc6
   ·have hw:¬WholeD h (l.getD i (RT.begin h)).d:=by assumption
    have e:=outR_no (L:=l.take i) hw
    rw[←htk] at e
    refine⟨i+1,⟨by omega,by dsimp only;omega⟩,some [some 0,some 1],?_⟩
    dsimp only
    rw[e]
    exact xc6
  ·have hie:i=l.length:=by omega
   subst hie
   rw[List.take_length]
   refine⟨_,⟨outR h l,hs.out g hn2 hl6,rfl⟩,?_⟩
   exact xc6
end Ho
namespace Ho
open Hist (cut)
def utk (h:Hist) (time:Int) (i:Nat):List Cmd:=((h.l.take i).filter fun c=>decide (c.f≤time)).map (cut time)
theorem utk_len (h:Hist) (time:Int) (i:Nat):(utk h time i).length≤h.l.length:=by
 unfold utk
 rw[List.length_map]
 refine Nat.le_trans (List.length_filter_le ..) ?_
 rw[List.length_take]
 omega
theorem utk_yes {h:Hist} {time:Int} {i:Nat} (hi:i<h.l.length) (hf:¬time<(h.l.getD i c0).f):utk h time (i+1)=utk h time i++[cut time (h.at' i)]:=by
 have e:h.l.getD i c0=h.l[i]:=by simp[List.getD_eq_getElem?_getD,hi]
 unfold utk Hist.at'
 rw[e] at hf ⊢
 rw[List.take_succ_eq_append_getElem hi,List.filter_append,List.map_append]
 simp[show h.l[i].f≤time by omega]
theorem utk_no {h:Hist} {time:Int} {i:Nat} (hi:i<h.l.length) (hf:time<(h.l.getD i c0).f):utk h time (i+1)=utk h time i:=by
 have e:h.l.getD i c0=h.l[i]:=by simp[List.getD_eq_getElem?_getD,hi]
 unfold utk
 rw[e] at hf
 rw[List.take_succ_eq_append_getElem hi,List.filter_append,List.map_append]
 simp[show ¬h.l[i].f≤time by omega]
theorem runtil43 (h:Hist) (hl:h.l.length≤1000000) (time:Int):a0o Tryz.prog 43 false [h.w,.int .i64 time] (·=(h.upto time).w):=by
 refine a0b Tryz.E_ok Tryz.func43 rfl (by kernel_rfl) ?_
 refine x0 ?_
 refine⟨Nat,fun i=>i≤h.l.length,fun i=>h.l.length-i,fun i=>[(6,.int .i64 (i:Nat))],fun i=>[(2,.cells 24 [.int .i64 h.n,.osl 3 (utk h time i).length])],fun i=>[.row 48 5 (utk h time i).length (a0u Cmd.c c0 (utk h time i)) true],0,⟨Nat.zero_le _,some [some 0,some 1,some 2,none],?_⟩,?_⟩
 ·exact xc2
 ·intro i hi
  have hi:i≤h.l.length:=hi
  have hti:((i:Nat):Int).toNat=i:=by omega
  have hlq:=utk_len h time i
  (repeat' ((conv=>whnf);first|(with_reducible first|apply spl|apply spl'|refine iJ ?_)<;>intro hc<;>try(exfalso;omega)|refine vcq ?_|fail));all_goals(try conv=>whnf);try exact trivial
  all_goals try rw[hti] at *
  ·have hil:i<h.l.length:=by omega
   have e:=utk_no hil (by assumption)
   refine⟨i+1,⟨by omega,by dsimp only;omega⟩,some [some 0,some 1,some 2,some 3],?_⟩
   dsimp only
   rw[e]
   exact xc2
  iterate 3
   ·have hil:i<h.l.length:=by omega
    have hf:¬time<(h.l.getD i c0).f:=by assumption
    have e:=utk_yes hil hf
    have hlt:(utk h time (i+1)).length=(utk h time i).length+1:=by rw[e];simp
    have hcell:(cut time (h.at' i)).c=[.int .i64 (h.l.getD i c0).k,.int .i64 (h.l.getD i c0).b,.int .i64 (if time<(h.l.getD i c0).t∧(h.l.getD i c0).k=10 then 0 else(h.l.getD i c0).v),.int .i64 (h.l.getD i c0).f,.int .i64 (if time<(h.l.getD i c0).t then -1 else(h.l.getD i c0).t)]:=by
     change (cut time (h.l.getD i c0)).c=_
     unfold Hist.cut
     by_cases q1:time<(h.l.getD i c0).t
     ·by_cases q2:(h.l.getD i c0).k=10
      ·simp only[if_pos q1,if_pos q2,if_pos (And.intro q1 q2)];rfl
      ·simp only[if_pos q1,if_neg q2,if_neg (fun q:_∧_=>q2 q.2)];rfl
     ·simp only[if_neg q1,if_neg (fun q:_∧_=>q1 q.1)];rfl
    refine⟨i+1,⟨by omega,by dsimp only;omega⟩,some [some 0,some 1,some 2,some 6],?_⟩
    refine x0 ?_
    refine⟨fun k hk=>?_,?_⟩
    ·rw[e]
     refine Eq.trans ?_ (a1r (c:=Cmd.c) rfl (fun _ _=>rfl) k (by omega))
     rw[hcell]
     simp only[*,if_true,if_false,and_self,and_false,false_and]
    ·exact xc2
  ·have hie:i=h.l.length:=by omega
   subst hie
   refine⟨_,rfl,?_⟩
   have e:(h.upto time).l=utk h time h.l.length:=by unfold utk;rw[List.take_length];rfl
   unfold Hist.w
   rw[e]
   exact xc2
end Ho
end Go.Proofs
namespace Go.Proofs
open Go Go.Sx
set_option maxRecDepth 100000
set_option maxHeartbeats 40000000
namespace Ho
theorem rUntil15 (h:Hist) (hl:h.l.length≤1000000) (time:Int):a0o Tryz.prog 15 true [h.w,.int .i64 time]
  (fun r=>(h.Ok→0≤time∧time≤999→r=.tup [(h.upto time).w,.int .i64 0])∧(h.Ok→¬(0≤time∧time≤999)→r=.tup [zeroH,.int .i64 1])∧(¬h.Ok→r=.tup [zeroH,.int .i64 170])):=by
 refine a0b Tryz.E_ok Tryz.func15 rfl (by kernel_rfl) ?_
 refine x0 ?_
 refine a0d (rcheck h hl) rfl ?_
 rintro _ rfl
 refine x7 (fun hc=>?_) (fun hc=>?_)
 ·have hn:¬h.Ok:=fun g=>hc (by rw[Hist.chk_of g])
  refine⟨_,⟨fun g=>absurd g hn,fun g=>absurd g hn,fun _=>rfl⟩,?_⟩
  exact xc2
 ·have hok:h.Ok:=Hist.chk_ok (Classical.not_not.1 hc)
  refine a0d (rwithin _ _ _) rfl ?_
  rintro _ rfl
  refine x7 (fun hc=>?_) (fun hc=>?_)
  ·refine⟨_,⟨fun _ g=>absurd g (by first|exact hc|omega),fun _ _=>rfl,fun g=>absurd hok g⟩,?_⟩
   exact xc2
  ·have ht:0≤time∧time≤999:=by omega
   refine a0d (runtil43 h hl time) rfl ?_
   rintro _ rfl
   refine x0 ?_
   refine⟨_,⟨fun _ _=>rfl,fun _ g=>absurd ht g,fun g=>absurd hok g⟩,?_⟩
   exact xc2
theorem rlegal17 (h:Hist) (hf:h.Near):a0o Tryz.prog 17 false [h.w] (·=.tup [.prop (h.Ok∧h.Legal) (Classical.propDecidable _),.int .i64 h.chk]):=by
 have h40:=hf.1
 refine a0b Tryz.E_ok Tryz.func17 rfl (by kernel_rfl) ?_
 refine x0 ?_
 refine a0d (rcheck h (by omega)) rfl ?_
 rintro _ rfl
 refine x7 (fun hc=>?_) (fun hc=>?_)
 ·have hn:¬h.Ok:=fun g=>hc (by rw[Hist.chk_of g])
  have e:h.chk=170:=if_neg hn
  refine⟨_,rfl,?_⟩
  rw[e]
  refine x0 ?_
  exact⟨fun q=>hn q.1,rfl,trivial⟩
 ·have g:h.Ok:=Hist.chk_ok (Classical.not_not.1 hc)
  obtain⟨h2,h6⟩:=hf.2 g
  refine a0d (rends45 h g h2 h6) rfl ?_
  rintro _ ⟨L,hL,rfl⟩
  have hl:=hL.len
  have hg:=hL.legal
  clear hc hf
  refine x0 ?_
  refine⟨_,rfl,?_⟩
  rw[Hist.chk_of g]
  refine x0 ?_
  refine⟨by rw[hg];exact⟨fun q=>⟨g,by omega⟩,fun q=>by omega⟩,?_⟩
  exact xc2
theorem rlieOf48 (p:Prop) (d:Decidable p):a0o Tryz.prog 48 false [.prop p d] (·=.int .i64 (if p then -1 else 0)):=by
 refine a0b Tryz.E_ok Tryz.func48 rfl (by kernel_rfl) ?_
 refine x7 (fun hc=>?_) (fun hc=>?_)
 ·refine⟨_,rfl,?_⟩
  rw[if_pos (by assumption)]
  exact xc2
 ·refine⟨_,rfl,?_⟩
  rw[if_neg (by assumption)]
  exact xc2
theorem lie_stop {h:Hist} {i t:Nat} (hi:i<h.l.length) (ht:(h.at' i).t=t) (hno:¬(h.upto t).Legal) (hnl:¬h.Legal) (hlow:∀j,j<h.l.length→∀s:Nat,s<t→(h.at' j).t=s→(h.upto s).Legal) (g:h.Ok):h.isLie i:=by
 refine .inr ⟨hnl,i,hi,rfl,by omega,by rw[ht];exact hno,fun j hj h1 h2=>?_⟩
 have:=g.ended hj h1
 have e:(h.at' j).t=((h.at' j).t.toNat:Nat):=by omega
 rw[e]
 exact hlow j hj _ (by omega) e
theorem lie_end {h:Hist} (hnl:¬h.Legal) (hall:∀j,j<h.l.length→∀s:Nat,s<1000→(h.at' j).t=s→(h.upto s).Legal) (g:h.Ok):False:=by
 refine hnl (g.legal_of_ends fun i hi ht=>?_)
 have:=g.ended hi ht
 have e:(h.at' i).t=((h.at' i).t.toNat:Nat):=by omega
 rw[e]
 exact hall i hi _ (by omega) e
theorem upto_near6 {h:Hist} (g:h.Ok) (h2:h.n≤2) (h6:h.l.length≤6) (t:Int):(h.upto t).Ok∧(h.upto t).n≤2∧(h.upto t).l.length≤6:=by
 refine⟨g.upto t,h2,?_⟩
 have:=utk_len h t h.l.length
 unfold utk at this
 rw[List.take_length] at this
 exact Nat.le_trans this h6
theorem rlie19 (h:Hist) (hf:h.Near):a0o Tryz.prog 19 false [h.w] (·=.tup [.int .i64 (if h.chk=0 then h.lie else 0),.int .i64 h.chk]):=by
 have h40:=hf.1
 refine a0b Tryz.E_ok Tryz.func19 rfl (by kernel_rfl) ?_
 refine x0 ?_
 refine a0d (rlegal17 h hf) rfl ?_
 rintro _ rfl
 refine x7 (fun hc=>?_) (fun hc=>?_)
 ·refine a0d (rlieOf48 _ _) rfl ?_
  rintro _ rfl
  refine x0 ?_
  refine⟨_,rfl,?_⟩
  have e:(@ite Int (h.Ok∧h.Legal) (Classical.propDecidable _) (-1) 0)=if h.chk=0 then h.lie else 0:=by
   by_cases g:h.Ok
   ·have hL:h.Legal:=hc.elim (fun q=>absurd (Hist.chk_of g) q) (fun q=>q.2)
    rw[if_pos ⟨g,hL⟩,if_pos (Hist.chk_of g)]
    exact g.lie_eq (.inl ⟨hL,rfl⟩)
   ·rw[if_neg (fun q=>g q.1),if_neg (fun q=>g (Hist.chk_ok q))]
  exact⟨e,rfl,trivial⟩
 ·have hk:h.chk=0:=Classical.byContradiction fun q=>hc (.inl q)
  have g:h.Ok:=Hist.chk_ok hk
  have hnl:¬h.Legal:=fun q=>hc (.inr ⟨g,q⟩)
  obtain⟨h2,h6⟩:=hf.2 g
  rw[hk]
  clear hc hf
  refine⟨Nat,fun t=>t≤1000∧∀j,j<h.l.length→∀s:Nat,s<t→(h.at' j).t=s→(h.upto s).Legal,fun t=>1000-t,fun t=>[(6,.int .i64 (t:Nat)),(16,.any)],fun _=>[],fun _=>[],0,⟨⟨by omega,fun j hj s hs=>by omega⟩,some [some 0],?_⟩,?_⟩
  ·exact xc2
  ·rintro t ⟨ht,hI⟩
   refine x7 (fun hc=>?_) (fun hc=>?_)
   ·refine⟨Nat,fun i=>i≤h.l.length∧∀j,j<i→(h.at' j).t=t→(h.upto t).Legal,fun i=>h.l.length-i,fun i=>[(7,.int .i64 (i:Nat))],fun _=>[],fun _=>[],0,⟨⟨by omega,fun j hj=>by omega⟩,some [some 0],?_⟩,?_⟩
    ·exact xc2
    ·rintro i ⟨hi,hJ⟩
     have hti:((i:Nat):Int).toNat=i:=by omega
     have e0:h.l.getD ((i:Nat):Int).toNat c0=h.at' i:=by rw[hti];rfl
     refine x24 (fun hc hc=>?_) (fun hc hc=>?_) (fun hc=>?_)
     all_goals try rw[e0] at hc
     ·have hil:i<h.l.length:=by omega
      obtain⟨u1,u2,u3⟩:=upto_near6 g h2 h6 (t:Int)
      refine a0d (runtil43 h (by omega) t) rfl ?_
      rintro _ rfl
      refine x0 ?_
      refine a0d (rends45 (h.upto t) u1 u2 u3) rfl ?_
      rintro _ ⟨L,hL,rfl⟩
      have hl:=hL.len
      have hg:=hL.legal
      refine x7 (fun hc=>?_) (fun hc=>?_)
      ·have hno:¬(h.upto t).Legal:=fun q=>by have:=hg.1 q;omega
       have e:=g.lie_eq (lie_stop hil (by assumption) hno hnl (fun j hj s hs=>hI j hj s hs) g)
       refine⟨_,rfl,?_⟩
       exact⟨by rw[if_pos rfl];exact e,rfl,trivial⟩
      ·have hyes:(h.upto t).Legal:=hg.2 (by omega)
       refine⟨i+1,⟨⟨by omega,fun j hj hjt=>hyes⟩,by dsimp only;omega⟩,some [some 0],?_⟩
       exact xc2
     ·refine⟨i+1,⟨⟨by omega,fun j hj hjt=>?_⟩,by dsimp only;omega⟩,some [some 0],?_⟩
      ·rcases Nat.lt_or_eq_of_le (show j≤i by omega) with q|rfl
       ·exact hJ j q hjt
       ·exact absurd hjt hc
      ·exact xc2
     ·have hie:i=h.l.length:=by omega
      subst hie
      refine⟨t+1,⟨⟨by omega,fun j hj s hs hjs=>?_⟩,by dsimp only;omega⟩,some [some 0],?_⟩
      ·rcases Nat.lt_or_eq_of_le (show s≤t by omega) with q|rfl
       ·exact hI j hj s q hjs
       ·exact hJ j hj hjs
      ·exact xc2
   ·exfalso
    exact lie_end hnl (fun j hj s hs=>hI j hj s (by omega)) g
end Ho
namespace Ho
theorem utk_len' (h:Hist) (t:Int):(h.upto t).l.length≤h.l.length:=by
 have:=utk_len h t h.l.length
 unfold utk at this
 rwa [List.take_length] at this
theorem copyP (h:Hist) (hl:h.l.length≤1000000):a0o Tryz.prog 11 false [h.w] (·=h.w):=by
 refine a0b Tryz.E_ok Tryz.func11 rfl (by kernel_rfl) ?_
 (repeat' ((conv=>whnf);first|(with_reducible first|apply spl|apply spl'|refine iJ ?_)<;>intro hc<;>try(exfalso;omega)|refine vcq ?_|refine dr 2005 ?_|refine dr 11 ?_));all_goals(try conv=>whnf);try exact trivial
 refine⟨_,rfl,?_⟩
 (repeat' ((conv=>whnf);first|(with_reducible first|apply spl|apply spl'|refine iJ ?_)<;>intro hc<;>try(exfalso;omega)|refine vcq ?_|refine dr 2005 ?_|refine dr 11 ?_));all_goals(try conv=>whnf);try exact trivial
theorem same20 (h:Hist) (hl:h.l.length≤1000000):a0o Tryz.prog 20 false [h.w,h.w] (·=.kb true):=by
 refine a0b Tryz.E_ok Tryz.func20 rfl (by kernel_rfl) ?_
 (repeat' ((conv=>whnf);first|(with_reducible first|apply spl|apply spl'|refine iJ ?_)<;>intro hc<;>try(exfalso;omega)|refine vcq ?_|refine dr 2005 ?_|refine dr 11 ?_));all_goals(try conv=>whnf);try exact trivial
 ·clear hc
  refine⟨Nat,fun i=>i≤h.l.length,fun i=>h.l.length-i,fun i=>[(5,.int .i64 (i:Nat)),(12,.any),(13,.any),(14,.any),(15,.any),(16,.any),(17,.any),(18,.any),(19,.any)],fun _=>[],fun _=>[],0,⟨Nat.zero_le _,some [some 0,some 1],?_⟩,?_⟩
  ·(repeat' ((conv=>whnf);first|(with_reducible first|apply spl|apply spl'|refine iJ ?_)<;>intro hc<;>try(exfalso;omega)|refine vcq ?_|refine dr 2005 ?_|refine dr 11 ?_));all_goals(try conv=>whnf);try exact trivial
  ·intro i hi
   have hi:i≤h.l.length:=hi
   (repeat' ((conv=>whnf);first|(with_reducible first|apply spl|apply spl'|refine iJ ?_)<;>intro hc<;>try(exfalso;omega)|refine vcq ?_|refine dr 2005 ?_|refine dr 11 ?_));all_goals(try conv=>whnf);try exact trivial
   ·refine⟨i+1,⟨by omega,by dsimp only;omega⟩,some [some 0,some 1],?_⟩
    (repeat' ((conv=>whnf);first|(with_reducible first|apply spl|apply spl'|refine iJ ?_)<;>intro hc<;>try(exfalso;omega)|refine vcq ?_|refine dr 2005 ?_|refine dr 11 ?_));all_goals(try conv=>whnf);try exact trivial
   ·refine⟨_,rfl,?_⟩
    (repeat' ((conv=>whnf);first|(with_reducible first|apply spl|apply spl'|refine iJ ?_)<;>intro hc<;>try(exfalso;omega)|refine vcq ?_|refine dr 2005 ?_|refine dr 11 ?_));all_goals(try conv=>whnf);try exact trivial
theorem pureWk {P:Program} {g:FuncId} {keep:Bool} {args:List V} {R R':V→Prop} (h:a0o P g keep args R) (hr:∀r,R r→∃r',R' r'∧∀I w v,Den I [] w r v→Den I [] w r' v):a0o P g keep args R':=
 ⟨h.1,fun I w vals hI hd=>(h.2 I w vals hI hd).mono fun _ _ ⟨_,v,h1,h2,h3,h4⟩=>let⟨r',g1,g2⟩:=hr _ h2;⟨r',v,h1,g1,g2 _ _ _ h3,h4⟩⟩
theorem den_zero {I:Nat→Prop} {w:World} {v:Value} {e:Int} (h:Den I [] w (.tup [zeroH,.int .i64 e]) v):Den I [] w (.tup [Hist.w ⟨0,[]⟩,.int .i64 e]) v:=by
 obtain⟨vs,rfl,v1,r1,rfl,h1,h2⟩:=h
 obtain⟨us,rfl,h3,u1,r2,rfl,h4,u2,r3,rfl,h5,h6⟩:=h1
 exact⟨_,rfl,_,r1,rfl,⟨_,rfl,h3,u1,_,rfl,h4,u2,r3,rfl,.inl ⟨rfl,none,0,h5⟩,h6⟩,h2⟩
open Classical in
noncomputable def untH (h:Hist) (t:Int):Hist:=if h.Ok∧0≤t∧t≤999 then h.upto t else⟨0,[]⟩
open Classical in
noncomputable def untE (h:Hist) (t:Int):Int:=if h.Ok then if 0≤t∧t≤999 then 0 else 1 else 170
theorem untH_len (h:Hist) (t:Int):(untH h t).l.length≤h.l.length:=by
 unfold untH
 split
 ·exact utk_len' h t
 ·exact Nat.zero_le _
theorem unt_w {h:Hist} {t:Int} {g:FuncId} {keep:Bool} {args:List V} (c:a0o Tryz.prog g keep args (fun r=>(h.Ok→0≤t∧t≤999→r=.tup [(h.upto t).w,.int .i64 0])∧(h.Ok→¬(0≤t∧t≤999)→r=.tup [zeroH,.int .i64 1])∧(¬h.Ok→r=.tup [zeroH,.int .i64 170]))) :
  a0o Tryz.prog g keep args (·=.tup [(untH h t).w,.int .i64 (untE h t)]):=by
 refine pureWk c fun r hr=>⟨_,rfl,fun I w v hd=>?_⟩
 unfold untH untE
 by_cases g:h.Ok
 ·by_cases ht:0≤t∧t≤999
  ·rw[if_pos ⟨g,ht⟩,if_pos g,if_pos ht]
   rwa [hr.1 g ht] at hd
  ·rw[if_neg (fun q=>ht q.2),if_pos g,if_neg ht]
   rw[hr.2.1 g ht] at hd
   exact den_zero hd
 ·rw[if_neg (fun q=>g q.1),if_neg g]
  rw[hr.2.2 g] at hd
  exact den_zero hd
end Ho
namespace Ho
theorem legal3 (h:Hist) (hl:h.l.length≤9223372036854775807) (time:Int):a0o Tryz.prog 3 false [h.w,.int .i64 time] (·=.prop True inferInstance):=by
 refine a0b Tryz.E_ok Tryz.func3 rfl (by kernel_rfl) ?_
 refine x30 ?_
 refine a0d (far20 h hl) rfl ?_
 rintro _ rfl
 (repeat' ((conv=>whnf);first|(with_reducible first|apply spl|apply spl'|refine iJ ?_)<;>intro hc<;>try(exfalso;omega)|refine vcq ?_|refine dr 5 ?_));all_goals((try conv=>whnf);try exact trivial);(repeat' ((first|(refine a0d (works8) rfl ?_;rintro _ rfl)|(refine a0f (works8) rfl ?_)|(refine a0l (fun _=>works8) rfl ?_));refine x30 ?_))
 ·refine⟨_,rfl,?_⟩
  exact⟨Iff.rfl,trivial⟩
 ·have hn:h.Near:=Classical.not_not.1 hc
  have h40:=hn.1
  clear hc
  have hul:=untH_len h time
  have u1:=unt_w (Until11 h (by omega) time)
  have u2:=unt_w (rUntil15 h (by omega) time)
  have s1:=same20 (untH h time) (by omega)
  generalize untH h time=u at *
  generalize untE h time=e at *
  refine a0d (copyP h (by omega)) rfl ?_
  rintro _ rfl
  refine x30 ?_
  refine a0f (Check22 h (by omega)) rfl ?_
  refine x30 ?_
  refine a0f (rcheck h (by omega)) rfl ?_
  refine x30 (fun hc=>?_)
  refine a0d u1 rfl ?_
  rintro _ rfl
  refine x30 ?_
  refine a0d u2 rfl ?_
  rintro _ rfl
  refine x30 ?_
  refine a0d (legal9 h hn) rfl ?_
  rintro _ rfl
  refine x30 ?_
  refine a0d (rlegal17 h hn) rfl ?_
  rintro _ rfl
  refine x30 ?_
  refine a0d (lie10v h hn) rfl ?_
  rintro _ rfl
  refine x30 ?_
  refine a0d (rlie19 h hn) rfl ?_
  rintro _ rfl
  refine x30 ?_
  refine a0d s1 rfl ?_
  rintro _ rfl
  (repeat' ((conv=>whnf);first|(with_reducible first|apply spl|apply spl'|refine iJ ?_)<;>intro hc<;>try(exfalso;omega)|refine vcq ?_|refine dr 5 ?_));all_goals(try conv=>whnf);try exact trivial
  refine a0d (same20 h (by omega)) rfl ?_
  rintro _ rfl
  (repeat' ((conv=>whnf);first|(with_reducible first|apply spl|apply spl'|refine iJ ?_)<;>intro hc<;>try(exfalso;omega)|refine vcq ?_|refine dr 5 ?_));all_goals(try conv=>whnf);try exact trivial
  refine a0d works8 rfl ?_
  rintro _ rfl
  (repeat' ((conv=>whnf);first|(with_reducible first|apply spl|apply spl'|refine iJ ?_)<;>intro hc<;>try(exfalso;omega)|refine vcq ?_|refine dr 5 ?_));all_goals(try conv=>whnf);try exact trivial
  ·refine⟨_,rfl,?_⟩
   exact⟨Iff.rfl,trivial⟩
  ·exact absurd ⟨⟨⟨⟨rfl,Iff.rfl⟩,rfl⟩,rfl⟩,rfl⟩ hc
end Ho
end Go.Proofs
