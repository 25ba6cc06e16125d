/- Own work: texts of the proof of a law (Gr6, Gr7, Gr8, Gr9, GrA, GrD, GrE, GrF, GrB, GrG). No condition. -/
import Derived.Test.YtbdcjkcmpcdipaaGreatGrRRPart31
set_option linter.unusedVariables false
set_option linter.unusedSimpArgs false
namespace Go.Proofs
open Go Go.Sx
set_option maxRecDepth 100000
set_option maxHeartbeats 40000000
namespace Ho
theorem result51i (h:Hist) (g:h.Ok) (hl:h.l.length≤1000000) (r:RT) (gr:RG h r) (b:Int) (hb:0≤b∧b.toNat<h.nn):a0o Tryz.prog 51 false [h.w,r.v h,.int .i64 b] (·=.int .i64 (h.res r.st b.toNat)):=by
 have hK:=gr.klen g
 have hO:=gr.olen g
 have h6:=g.nn
 have e:((b.toNat:Nat):Int)=b:=by omega
 have:=result51 h hl r (gr.olt g) (by omega) b.toNat (by omega) (by omega)
 rw[e] at this
 unfold Hist.res
 rw[e]
 exact this
theorem nextR_do {h:Hist} {r:RT} (gr:RG h r) {n:Nat} (hn:n<h.l.length) (hm:MayD h r.d n) (h9:(h.at' n).k≠9) (hf:h.Fit r.st n) {L:List RT} (hL:NextR h r n L):NextR h r (n+1) (L++[r.doO h n]):=by
 have hs:StepI h r.st n (r.doO h n).st:=⟨mayD_iff.1 hm,.inl ⟨h9,hf,do_st r n⟩⟩
 refine hL.more (fun x hx=>?_) (fun t ht=>?_) (by simp)
 ·rw[List.mem_singleton] at hx
  subst hx
  exact gr.step hn hs rfl
 ·rcases ht with⟨_,⟨_,_,e⟩|⟨q,_⟩⟩
  ·exact⟨_,List.mem_singleton.2 rfl,by rw[e,do_st]⟩
  ·exact absurd q h9
theorem nextR_fall {h:Hist} (g:h.Ok) {r:RT} (gr:RG h r) {n:Nat} (hn:n<h.l.length) (hm:MayD h r.d n) (h9:(h.at' n).k=9) {Ms:List (Nat→Int)} (hM:ImgsR (h.cache r.O) h.nn Ms) {L:List RT} (hL:NextR h r n L):NextR h r (n+1) (L++Ms.map (r.fall h n)):=by
 obtain⟨h1,h2⟩:=falls_step g gr hm h9 hM
 refine hL.more (fun x hx=>?_) (fun t ht=>?_) (by rw[List.length_map];have:=hM.len;omega)
 ·obtain⟨f,hf,rfl⟩:=List.mem_map.1 hx
  exact gr.step hn (h1 f hf) rfl
 ·obtain⟨f,hf,e⟩:=h2 t ht
  exact⟨_,List.mem_map.2 ⟨f,hf,rfl⟩,e⟩
theorem nextR_no {h:Hist} {r:RT} {n:Nat} (hq:¬MayD h r.d n∨(h.at' n).k=10∧((h.at' n).t=-1∨h.res r.st (h.at' n).b.toNat≠(h.at' n).v)):∀t,¬StepI h r.st n t:=by
 rintro t ⟨hm,hs⟩
 rcases hq with q|⟨q,q2⟩
 ·exact q (mayD_iff.2 hm)
 ·rcases hs with⟨_,hf,_⟩|⟨h9,_⟩
  ·obtain⟨f1,f2⟩:=hf q
   rcases q2 with q2|q2
   ·exact f1 q2
   ·exact q2 f2
  ·omega
theorem next101 (h:Hist) (g:h.Ok) (hn2:h.n≤2) (hl6:h.l.length≤6) (r:RT) (gr:RG h r):a0o Tryz.prog 101 true [h.w,r.v h] (fun v=>∃L:List RT,NextR h r h.l.length L∧v=.sl 5 L.length (a0u (RT.c h) (RT.begin h) L)):=by
 have hI:=Hist.Rea.inv g gr.rea
 have hnn:=g.nn
 have hdl:=gr.dlen
 have hol:=gr.olen g
 have hsm:=g.small hn2 hl6 hI
 refine a0b Tryz.E_ok Tryz.func101 rfl (by kernel_rfl) ?_
 (repeat' ((conv=>whnf);first|(with_reducible first|apply spl|apply spl'|refine iJ ?_)<;>intro hc<;>try(exfalso;omega)|refine vcq ?_|refine dr 24 ?_|refine dr 10 ?_));all_goals(try conv=>whnf);try exact trivial
 refine⟨Nat×List RT,fun q=>q.1≤h.l.length∧NextR h r q.1 q.2,fun q=>h.l.length-q.1,fun q=>[(6,.int .i64 (q.1:Nat)),(5,.osl 2 q.2.length)],fun _=>[],fun q=>[.row 77 5 q.2.length (a0u (RT.c h) (RT.begin h) q.2) true],(0,[]),⟨⟨by dsimp only;omega,NextR.nil h r⟩,some [some 0,some 1,none],?_⟩,?_⟩
 ·(repeat' ((conv=>whnf);first|(with_reducible first|apply spl|apply spl'|refine iJ ?_)<;>intro hc<;>try(exfalso;omega)|refine vcq ?_|refine dr 24 ?_|refine dr 10 ?_));all_goals(try conv=>whnf);try exact trivial
 ·rintro⟨n,L⟩ ⟨hn,hL⟩
  dsimp only at hn hL
  have hn0:((n:Nat):Int).toNat=n:=by omega
  (repeat' ((conv=>whnf);first|(with_reducible first|apply spl|apply spl'|refine iJ ?_)<;>intro hc<;>try(exfalso;omega)|refine vcq ?_|refine dr 24 ?_|refine dr 10 ?_));all_goals(try conv=>whnf);try exact trivial
  ·have hnl:n<h.l.length:=by dsimp only at hc;omega
   have e0:h.l.getD ((n:Nat):Int).toNat c0=h.at' n:=by rw[hn0];rfl
   have hck:=g.cmd n hnl
   have hlen:=hL.len
   have hlen2:L.length≤6000000:=by
    have:600001*n≤600001*6:=Nat.mul_le_mul_left _ (by omega)
    omega
   have hno:=nextR_no (h:=h) (r:=r) (n:=n)
   have hdo:=fun a b c=>nextR_do gr hnl a b c hL
   have hfa:=fun a b Ms hM=>nextR_fall g gr hnl a b (Ms:=Ms) hM hL
   unfold Hist.Fit at hdo
   have hres:(h.at' n).k=10→_:=fun q=>result51i h g (by omega) r gr (h.at' n).b (by
    generalize h.at' n=c at *
    unfold Cmd.Ok at hck
    omega)
   have hrdo:=rdo52 h (by omega) r (by omega) (by omega) n hnl
   refine a0f (may50 h (by omega) r (by omega) n hnl) rfl ?_
   (repeat' ((conv=>whnf);first|(with_reducible first|apply spl|apply spl'|refine iJ ?_)<;>intro hc<;>try(exfalso;omega)|refine vcq ?_|refine dr 24 ?_|refine dr 10 ?_));all_goals(try conv=>whnf);try exact trivial
   dsimp only at *
   rw[e0]
   generalize h.at' n=c at *
   (repeat' ((conv=>whnf);first|(with_reducible first|apply spl|apply spl'|refine iJ ?_)<;>intro hc<;>try(exfalso;omega)|refine vcq ?_|refine dr 24 ?_|refine dr 10 ?_));all_goals((try conv=>whnf);try exact trivial);(repeat' ((first|(refine a0d (ropen c) rfl ?_;rintro _ rfl)|(refine a0f (ropen c) rfl ?_)|(refine a0l (fun _=>ropen c) rfl ?_));(repeat' ((conv=>whnf);first|(with_reducible first|apply spl|apply spl'|refine iJ ?_)<;>intro hc<;>try(exfalso;omega)|refine vcq ?_|refine dr 24 ?_|refine dr 10 ?_));all_goals((try conv=>whnf);try exact trivial)))
   refine a0l (fun hg=>hres hg.1.2) rfl ?_
   (repeat' ((conv=>whnf);first|(with_reducible first|apply spl|apply spl'|refine iJ ?_)<;>intro hc<;>try(exfalso;omega)|refine vcq ?_|refine dr 24 ?_|refine dr 10 ?_));all_goals(try conv=>whnf);try exact trivial
   ·have hn1:=hL.skip (hno hc)
    clear hno hdo hfa hres hrdo
    refine⟨(n+1,L),⟨⟨hnl,hn1⟩,by dsimp only;omega⟩,some [some 0,some 1,some 2],?_⟩
    (repeat' ((conv=>whnf);first|(with_reducible first|apply spl|apply spl'|refine iJ ?_)<;>intro hc<;>try(exfalso;omega)|refine vcq ?_|refine dr 24 ?_|refine dr 10 ?_));all_goals(try conv=>whnf);try exact trivial
   ·rename_i q1
    have hm:MayD h r.d n:=Classical.byContradiction fun q=>q1 (.inl q)
    have hn1:=hdo hm hc (fun q=>⟨fun q2=>q1 (.inr ⟨q,.inl q2⟩),Classical.byContradiction fun q2=>q1 (.inr ⟨q,.inr q2⟩)⟩)
    clear hno hdo hfa hres q1
    refine a0d hrdo rfl ?_
    rintro _ rfl
    (repeat' ((conv=>whnf);first|(with_reducible first|apply spl|apply spl'|refine iJ ?_)<;>intro hc<;>try(exfalso;omega)|refine vcq ?_|refine dr 24 ?_|refine dr 10 ?_));all_goals(try conv=>whnf);try exact trivial
    refine⟨(n+1,L++[r.doO h n]),⟨⟨hnl,hn1⟩,by dsimp only;omega⟩,some [some 0,some 1,some 5],?_⟩
    (repeat' ((conv=>whnf);first|(with_reducible first|apply spl|apply spl'|refine iJ ?_)<;>intro hc<;>try(exfalso;omega)|refine vcq ?_|refine dr 24 ?_|refine dr 10 ?_));all_goals(try conv=>whnf);try exact trivial
    refine⟨by dsimp only;rw[List.length_append,List.length_singleton],?_⟩
    (repeat' ((conv=>whnf);first|(with_reducible first|apply spl|apply spl'|refine iJ ?_)<;>intro hc<;>try(exfalso;omega)|refine vcq ?_|refine dr 24 ?_|refine dr 10 ?_));all_goals(try conv=>whnf);try exact trivial
    refine⟨by dsimp only;rw[List.length_append,List.length_singleton],a1r (c:=RT.c h) (a:=r.doO h n) (l:=L) rfl (fun _ _=>rfl),?_⟩
    (repeat' ((conv=>whnf);first|(with_reducible first|apply spl|apply spl'|refine iJ ?_)<;>intro hc<;>try(exfalso;omega)|refine vcq ?_|refine dr 24 ?_|refine dr 10 ?_));all_goals(try conv=>whnf);try exact trivial
   ·rename_i q1
    have h9:c.k=9:=Classical.not_not.1 hc
    have hm:MayD h r.d n:=Classical.byContradiction fun q=>q1 (.inl q)
    clear hno hdo hres q1 hrdo
    refine callee_new (Images60 (h.cache r.O) hsm h.nn hnn.1.symm) rfl ?_
    rintro _ _ ⟨Ms,⟨hM,_⟩,rfl,rfl⟩
    have hn1:=hfa hm h9 Ms hM
    have hMl:=hM.len
    clear hfa
    (repeat' ((conv=>whnf);first|(with_reducible first|apply spl|apply spl'|refine iJ ?_)<;>intro hc<;>try(exfalso;omega)|refine vcq ?_|refine dr 24 ?_|refine dr 10 ?_));all_goals(try conv=>whnf);try exact trivial
    refine⟨Nat×List RT,fun q=>q.1≤Ms.length∧q.2=L++(Ms.take q.1).map (r.fall h n),fun q=>Ms.length-q.1,fun q=>[(9,.int .i64 (q.1:Nat)),(5,.osl 2 q.2.length)],fun q=>[(2,.row 77 5 q.2.length (a0u (RT.c h) (RT.begin h) q.2) true)],fun _=>[],(0,L),⟨⟨Nat.zero_le _,by simp⟩,some [some 0,some 1,some 2,some 3,some 4],?_⟩,?_⟩
    ·(repeat' ((conv=>whnf);first|(with_reducible first|apply spl|apply spl'|refine iJ ?_)<;>intro hc<;>try(exfalso;omega)|refine vcq ?_|refine dr 24 ?_|refine dr 10 ?_));all_goals(try conv=>whnf);try exact trivial
    ·rintro⟨j,M⟩ ⟨hj,hMM⟩
     dsimp only at hj hMM
     have hj0:((j:Nat):Int).toNat=j:=by omega
     have hMl2:M.length≤6600000:=by rw[hMM,List.length_append,List.length_map,List.length_take];omega
     (repeat' ((conv=>whnf);first|(with_reducible first|apply spl|apply spl'|refine iJ ?_)<;>intro hc<;>try(exfalso;omega)|refine vcq ?_|refine dr 24 ?_|refine dr 10 ?_));all_goals(try conv=>whnf);try exact trivial
     ·have hjl:j<Ms.length:=by dsimp only at *;omega
      have ej:Ms.getD ((j:Nat):Int).toNat (fun _=>0)=Ms[j]:=by rw[hj0];simp[List.getD_eq_getElem?_getD,hjl]
      have hfit:=fun b hb=>falls_fit g gr hM (f:=Ms[j]) (List.getElem_mem hjl) (b:=b) hb
      have hsn:M++[r.fall h n Ms[j]]=L++(Ms.take (j+1)).map (r.fall h n):=by
       rw[List.take_succ_eq_append_getElem hjl,List.map_append,←List.append_assoc,hMM]
       rfl
      dsimp only
      rw[ej]
      generalize Ms[j]=f at *
      refine a0f (rfall54 h (by omega) hnn.1.symm hnn.2.2 r (gr.olt g) (by omega) (by omega) (gr.klen g) n (by omega) f hfit) rfl ?_
      (repeat' ((conv=>whnf);first|(with_reducible first|apply spl|apply spl'|refine iJ ?_)<;>intro hc<;>try(exfalso;omega)|refine vcq ?_|refine dr 24 ?_|refine dr 10 ?_));all_goals(try conv=>whnf);try exact trivial
      refine⟨(j+1,M++[r.fall h n f]),⟨⟨hjl,hsn⟩,by dsimp only;omega⟩,some [some 0,some 1,some 6,some 3,some 4],?_⟩
      (repeat' ((conv=>whnf);first|(with_reducible first|apply spl|apply spl'|refine iJ ?_)<;>intro hc<;>try(exfalso;omega)|refine vcq ?_|refine dr 24 ?_|refine dr 10 ?_));all_goals(try conv=>whnf);try exact trivial
      refine⟨by dsimp only;rw[List.length_append,List.length_singleton],?_⟩
      (repeat' ((conv=>whnf);first|(with_reducible first|apply spl|apply spl'|refine iJ ?_)<;>intro hc<;>try(exfalso;omega)|refine vcq ?_|refine dr 24 ?_|refine dr 10 ?_));all_goals(try conv=>whnf);try exact trivial
      refine⟨by dsimp only;rw[List.length_append,List.length_singleton],a1r (c:=RT.c h) (a:=r.fall h n f) (l:=M) rfl (fun _ _=>rfl),?_⟩
      (repeat' ((conv=>whnf);first|(with_reducible first|apply spl|apply spl'|refine iJ ?_)<;>intro hc<;>try(exfalso;omega)|refine vcq ?_|refine dr 24 ?_|refine dr 10 ?_));all_goals(try conv=>whnf);try exact trivial
     ·obtain rfl:j=Ms.length:=by dsimp only at *;omega
      rw[List.take_length] at hMM
      refine⟨(n+1,M),⟨⟨hnl,by rw[hMM];exact hn1⟩,by dsimp only;omega⟩,some [some 0,some 1,some 2],?_⟩
      (repeat' ((conv=>whnf);first|(with_reducible first|apply spl|apply spl'|refine iJ ?_)<;>intro hc<;>try(exfalso;omega)|refine vcq ?_|refine dr 24 ?_|refine dr 10 ?_));all_goals(try conv=>whnf);try exact trivial
  ·obtain rfl:n=h.l.length:=by dsimp only at hc;omega
   refine⟨_,⟨L,hL,rfl⟩,?_⟩
   (repeat' ((conv=>whnf);first|(with_reducible first|apply spl|apply spl'|refine iJ ?_)<;>intro hc<;>try(exfalso;omega)|refine vcq ?_|refine dr 24 ?_|refine dr 10 ?_));all_goals(try conv=>whnf);try exact trivial
end Ho
namespace Ho
theorem stages72 (h:Hist) (g:h.Ok) (hn2:h.n≤2) (hl6:h.l.length≤6):a0o Tryz.prog 72 true [h.w] (fun v=>∃L:List RT,SI h L L.length∧v=.sl 5 L.length (a0u (RT.c h) (RT.begin h) L)):=by
 have hnn:=g.nn
 refine a0b Tryz.E_ok Tryz.func72 rfl (by kernel_rfl) ?_
 (repeat' ((conv=>whnf);first|(with_reducible first|apply spl|apply spl'|refine iJ ?_)<;>intro hc<;>try(exfalso;omega)|refine vcq ?_|refine dr 5 ?_|refine dr 40 ?_));all_goals(try conv=>whnf);try exact trivial
 refine a0d (begin49 h g.n) rfl ?_
 rintro _ rfl
 (repeat' ((conv=>whnf);first|(with_reducible first|apply spl|apply spl'|refine iJ ?_)<;>intro hc<;>try(exfalso;omega)|refine vcq ?_|refine dr 5 ?_|refine dr 40 ?_));all_goals(try conv=>whnf);try exact trivial
 refine⟨Nat×List RT,fun q=>SI h q.2 q.1,fun q=>CAP-q.1,fun q=>[(4,.int .i64 (q.1:Nat)),(3,.osl 1 q.2.length),(11,.any)],fun q=>[(1,.row 77 5 q.2.length (a0u (RT.c h) (RT.begin h) q.2) false)],fun _=>[],(0,[RT.begin h]),⟨SI.one g,some [some 0,some 1],?_⟩,?_⟩
 ·(repeat' ((conv=>whnf);first|(with_reducible first|apply spl|apply spl'|refine iJ ?_)<;>intro hc<;>try(exfalso;omega)|refine vcq ?_|refine dr 5 ?_|refine dr 40 ?_));all_goals(try conv=>whnf);try exact trivial
  refine⟨fun j hj=>?_,?_⟩
  ·obtain rfl:j=0:=by omega
   rfl
  ·(repeat' ((conv=>whnf);first|(with_reducible first|apply spl|apply spl'|refine iJ ?_)<;>intro hc<;>try(exfalso;omega)|refine vcq ?_|refine dr 5 ?_|refine dr 40 ?_));all_goals(try conv=>whnf);try exact trivial
 ·rintro⟨i,l⟩ hs
  dsimp only at hs
  have hcap:l.length≤481890304:=hs.cap g hn2 hl6
  have hile:i≤l.length:=by have:=hs.inv.le;rwa [List.length_map] at this
  have hi0:((i:Nat):Int).toNat=i:=by omega
  (repeat' ((conv=>whnf);first|(with_reducible first|apply spl|apply spl'|refine iJ ?_)<;>intro hc<;>try(exfalso;omega)|refine vcq ?_|refine dr 5 ?_|refine dr 40 ?_));all_goals(try conv=>whnf);try exact trivial
  ·have hil:i<l.length:=by dsimp only at hc;omega
   have hgi:=hs.good _ (getD_memR (h:=h) hil)
   dsimp only
   rw[hi0]
   refine a0d (next101 h g hn2 hl6 (l.getD i (RT.begin h)) hgi) rfl ?_
   rintro _ ⟨N,hN,rfl⟩
   have hNl:=hN.len
   have hNl2:N.length≤6000000:=by
    have:600001*h.l.length≤600001*6:=Nat.mul_le_mul_left _ hl6
    omega
   (repeat' ((conv=>whnf);first|(with_reducible first|apply spl|apply spl'|refine iJ ?_)<;>intro hc<;>try(exfalso;omega)|refine vcq ?_|refine dr 5 ?_|refine dr 40 ?_));all_goals(try conv=>whnf);try exact trivial
   refine⟨Nat×List RT,fun q=>q.1≤N.length∧SJ h q.2 i N q.1∧(i<q.2.length∧q.2.getD i (RT.begin h)=l.getD i (RT.begin h)),fun q=>N.length-q.1,fun q=>[(6,.int .i64 (q.1:Nat)),(3,.osl 1 q.2.length),(13,.any),(18,.any),(19,.any),(20,.any),(21,.any),(22,.any),(23,.any)],fun q=>[(1,.row 77 5 q.2.length (a0u (RT.c h) (RT.begin h) q.2) false)],fun _=>[],(0,l),⟨⟨Nat.zero_le _,SJ.begin hs N,hil,rfl⟩,some [some 0,some 1],?_⟩,?_⟩
   ·(repeat' ((conv=>whnf);first|(with_reducible first|apply spl|apply spl'|refine iJ ?_)<;>intro hc<;>try(exfalso;omega)|refine vcq ?_|refine dr 5 ?_|refine dr 40 ?_));all_goals(try conv=>whnf);try exact trivial
   ·clear hs hcap hile
    rintro⟨k,l1⟩ ⟨hk,hs,hil1,hli⟩
    dsimp only at hk hs hil1 hli
    have hcap:l1.length≤481890304:=hs.si.cap g hn2 hl6
    have hk0:((k:Nat):Int).toNat=k:=by omega
    (repeat' ((conv=>whnf);first|(with_reducible first|apply spl|apply spl'|refine iJ ?_)<;>intro hc<;>try(exfalso;omega)|refine vcq ?_|refine dr 5 ?_|refine dr 40 ?_));all_goals(try conv=>whnf);try exact trivial
    ·have hkN:k<N.length:=by dsimp only at *;omega
     have hgk:=hN.good _ (getD_memR (h:=h) hkN)
     refine⟨Nat,fun m=>m≤l1.length,fun m=>l1.length-m,fun m=>[(8,.int .i64 (m:Nat)),(7,.prop (∃q,q<m∧(l1.getD q (RT.begin h)).same (N.getD k (RT.begin h))) (Classical.propDecidable _)),(36,.any),(37,.any),(38,.any),(39,.any),(40,.any),(41,.any),(42,.any),(43,.any),(44,.any),(45,.any),(46,.any),(47,.any),(48,.any),(49,.any),(50,.any),(51,.any),(52,.any),(53,.any),(54,.any),(55,.any),(56,.any),(57,.any),(58,.any),(59,.any),(60,.any),(61,.any),(62,.any),(63,.any),(64,.any),(65,.any),(66,.any),(67,.any),(68,.any),(69,.any),(70,.any),(71,.any),(72,.any),(73,.any),(74,.any),(75,.any)],fun _=>[],fun _=>[],0,⟨Nat.zero_le _,none,?_⟩,?_⟩
     ·(repeat' ((conv=>whnf);first|(with_reducible first|apply spl|apply spl'|refine iJ ?_)<;>intro hc<;>try(exfalso;omega)|refine vcq ?_|refine dr 5 ?_|refine dr 40 ?_));all_goals(try conv=>whnf);try exact trivial
     ·intro m hm
      have hm:m≤l1.length:=hm
      have hm0:((m:Nat):Int).toNat=m:=by omega
      (repeat' ((conv=>whnf);first|(with_reducible first|apply spl|apply spl'|refine iJ ?_)<;>intro hc<;>try(exfalso;omega)|refine vcq ?_|refine dr 5 ?_|refine dr 40 ?_));all_goals(try conv=>whnf);try exact trivial
      ·have hml:m<l1.length:=by dsimp only at *;omega
       have hgm:=hs.good _ (getD_memR (h:=h) hml)
       have d1:=hgm.dlen
       have d2:=hgm.olen g
       have d3:=hgm.klen g
       have e1:=hgk.dlen
       have e2:=hgk.olen g
       have e3:=hgk.klen g
       dsimp only
       rw[hm0,hk0]
       refine a0l (fun _=>same102n (l1.getD m (RT.begin h)).O (N.getD k (RT.begin h)).O (by omega) (by omega)) rfl ?_
       (repeat' ((conv=>whnf);first|(with_reducible first|apply spl|apply spl'|refine iJ ?_)<;>intro hc<;>try(exfalso;omega)|refine vcq ?_|refine dr 5 ?_|refine dr 40 ?_));all_goals(try conv=>whnf);try exact trivial
       refine a0l (fun _=>same102 (l1.getD m (RT.begin h)).K (N.getD k (RT.begin h)).K (by omega) (by omega)) rfl ?_
       (repeat' ((conv=>whnf);first|(with_reducible first|apply spl|apply spl'|refine iJ ?_)<;>intro hc<;>try(exfalso;omega)|refine vcq ?_|refine dr 5 ?_|refine dr 40 ?_));all_goals(try conv=>whnf);try exact trivial
       refine a0l (fun _=>set103 (l1.getD m (RT.begin h)).d (N.getD k (RT.begin h)).d (by omega) (by omega)) rfl ?_
       (repeat' ((conv=>whnf);first|(with_reducible first|apply spl|apply spl'|refine iJ ?_)<;>intro hc<;>try(exfalso;omega)|refine vcq ?_|refine dr 5 ?_|refine dr 40 ?_));all_goals(try conv=>whnf);try exact trivial
       refine⟨m+1,⟨by omega,by omega⟩,none,?_⟩
       (repeat' ((conv=>whnf);first|(with_reducible first|apply spl|apply spl'|refine iJ ?_)<;>intro hc<;>try(exfalso;omega)|refine vcq ?_|refine dr 5 ?_|refine dr 40 ?_));all_goals(try conv=>whnf);try exact trivial
       refine⟨exlt1.symm,?_⟩
       (repeat' ((conv=>whnf);first|(with_reducible first|apply spl|apply spl'|refine iJ ?_)<;>intro hc<;>try(exfalso;omega)|refine vcq ?_|refine dr 5 ?_|refine dr 40 ?_));all_goals(try conv=>whnf);try exact trivial
      ·have hme:m=l1.length:=by dsimp only at *;omega
       subst hme
       have hnk:¬∃r∈l1,r.same (N.getD k (RT.begin h)):=by
        rintro⟨r,hr,hrs⟩
        obtain⟨q,hq,rfl⟩:=List.getElem_of_mem hr
        refine hc ⟨q,hq,?_⟩
        rwa [List.getD_eq_getElem?_getD,List.getElem?_eq_getElem hq]
       have hs1:=hs.new g hkN hN.good hnk
       dsimp only at *
       rw[hk0]
       refine⟨(k+1,l1++[N.getD k (RT.begin h)]),⟨⟨hkN,hs1,by dsimp only;rw[List.length_append];omega,?_⟩,by dsimp only;omega⟩,some [some 0,some 3],?_⟩
       ·dsimp only
        rw[←hli,List.getD_eq_getElem?_getD,List.getD_eq_getElem?_getD,List.getElem?_append_left hil1]
        exact(List.getD_eq_getElem?_getD ..).symm
       ·(repeat' ((conv=>whnf);first|(with_reducible first|apply spl|apply spl'|refine iJ ?_)<;>intro hc<;>try(exfalso;omega)|refine vcq ?_|refine dr 5 ?_|refine dr 40 ?_));all_goals(try conv=>whnf);try exact trivial
        refine⟨by rw[List.length_append,List.length_singleton],?_⟩
        (repeat' ((conv=>whnf);first|(with_reducible first|apply spl|apply spl'|refine iJ ?_)<;>intro hc<;>try(exfalso;omega)|refine vcq ?_|refine dr 5 ?_|refine dr 40 ?_));all_goals(try conv=>whnf);try exact trivial
        refine⟨by rw[List.length_append,List.length_singleton],a1r (c:=RT.c h) (a:=N.getD k (RT.begin h)) (l:=l1) rfl (fun _ _=>rfl),?_⟩
        (repeat' ((conv=>whnf);first|(with_reducible first|apply spl|apply spl'|refine iJ ?_)<;>intro hc<;>try(exfalso;omega)|refine vcq ?_|refine dr 5 ?_|refine dr 40 ?_));all_goals(try conv=>whnf);try exact trivial
      ·have hme:m=l1.length:=by dsimp only at *;omega
       subst hme
       obtain⟨q,hq,hqs⟩:=Classical.not_not.1 hc
       have hs1:=hs.old g hkN hN.good ⟨_,getD_memR hq,hqs⟩
       refine⟨(k+1,l1),⟨⟨hkN,hs1,hil1,hli⟩,by dsimp only;omega⟩,some [some 0,some 1],?_⟩
       (repeat' ((conv=>whnf);first|(with_reducible first|apply spl|apply spl'|refine iJ ?_)<;>intro hc<;>try(exfalso;omega)|refine vcq ?_|refine dr 5 ?_|refine dr 40 ?_));all_goals(try conv=>whnf);try exact trivial
    ·have hke:k=N.length:=by dsimp only at *;omega
     subst hke
     have hs1:=hs.done g hil1 (by rw[hli];exact hN)
     refine⟨(i+1,l1),⟨hs1,by dsimp only;have:CAP=481890304:=rfl;omega⟩,some [some 0,some 1],?_⟩
     (repeat' ((conv=>whnf);first|(with_reducible first|apply spl|apply spl'|refine iJ ?_)<;>intro hc<;>try(exfalso;omega)|refine vcq ?_|refine dr 5 ?_|refine dr 40 ?_));all_goals(try conv=>whnf);try exact trivial
  ·have hie:i=l.length:=by dsimp only at hc;omega
   subst hie
   refine⟨_,⟨l,hs,rfl⟩,?_⟩
   (repeat' ((conv=>whnf);first|(with_reducible first|apply spl|apply spl'|refine iJ ?_)<;>intro hc<;>try(exfalso;omega)|refine vcq ?_|refine dr 5 ?_|refine dr 40 ?_));all_goals(try conv=>whnf);try exact trivial
end Ho
namespace Ho
theorem rends45 (h:Hist) (g:h.Ok) (hn2:h.n≤2) (hl6:h.l.length≤6):a0o Tryz.prog 45 true [h.w] (fun v=>∃L:List RT,EndR h L∧v=.sl 5 L.length (a0u (RT.c h) (RT.begin h) L)):=by
 have hnn:=g.nn
 refine a0b Tryz.E_ok Tryz.func45 rfl (by kernel_rfl) ?_
 refine x14 ?_
 refine a0d (stages72 h g hn2 hl6) rfl ?_
 rintro _ ⟨l,hs,rfl⟩
 have hcap:l.length≤481890304:=hs.cap g hn2 hl6
 refine x14 ?_
 refine⟨Nat,fun i=>i≤l.length,fun i=>l.length-i,fun i=>[(5,.int .i64 (i:Nat)),(3,.osl 1 (outR h (l.take i)).length)],fun _=>[],fun i=>[.row 77 5 (outR h (l.take i)).length (a0u (RT.c h) (RT.begin h) (outR h (l.take i))) true],0,⟨Nat.zero_le _,some [some 0,none],?_⟩,?_⟩
 ·exact xc6
 ·intro i hi
  have hi:i≤l.length:=hi
  have hi0:((i:Nat):Int).toNat=i:=by omega
  have hol:=outR_len (h:=h) (l.take i)
  rw[List.length_take] at hol
  refine x15 (fun hc=>?_) (fun hc=>?_)
  ·have hil:i<l.length:=by omega
   have hgi:=hs.good _ (getD_memR (h:=h) hil)
   have hdl:=hgi.dlen
   have htk:l.take (i+1)=l.take i++[l.getD i (RT.begin h)]:=by
    rw[List.take_succ_eq_append_getElem hil]
    congr 1
    simp[List.getD_eq_getElem?_getD,hil]
   rw[hi0]
   refine a0f (whole55 h (by omega) (l.getD i (RT.begin h)).d (by omega)) rfl ?_
   refine x15 (fun hc=>?_) (fun hc=>?_)
   ·have hw:WholeD h (l.getD i (RT.begin h)).d:=by assumption
    have e:=outR_yes (L:=l.take i) hw
    rw[←htk] at e
    rw[hi0]
    refine⟨i+1,⟨by omega,by dsimp only;omega⟩,some [some 0,some 3],?_⟩
    dsimp only
    rw[e]
    refine x14 ?_
    refine⟨by rw[List.length_append,List.length_singleton],?_⟩
    refine x14 ?_
    refine⟨by rw[List.length_append,List.length_singleton],a1r (c:=RT.c h) (a:=l.getD i (RT.begin h)) (l:=outR h (l.take i)) rfl (fun _ _=>rfl),?_⟩
    exact xc6
   ·have hw:¬WholeD h (l.getD i (RT.begin h)).d:=by assumption
    have e:=outR_no (L:=l.take i) hw
    rw[←htk] at e
    refine⟨i+1,⟨by omega,by dsimp only;omega⟩,some [some 0,some 1],?_⟩
    dsimp only
    rw[e]
    exact xc6
  ·have hie:i=l.length:=by omega
   subst hie
   rw[List.take_length]
   refine⟨_,⟨outR h l,hs.out g hn2 hl6,rfl⟩,?_⟩
   exact xc6
end Ho
namespace Ho
open Hist (cut)
end Ho
end Go.Proofs
namespace Go.Proofs
open Go Go.Sx
set_option maxRecDepth 100000
set_option maxHeartbeats 40000000
namespace Ho
end Ho
namespace Ho
theorem rblock62 (h:Hist) (hl:h.l.length≤1000000) (b:Int):a0o Tryz.prog 62 false [h.w,.int .i64 b] (·=.int .i64 (h.errB b)):=by
 refine a0b Tryz.E_ok Tryz.func62 rfl (by kernel_rfl) ?_
 refine x0 ?_
 refine a0d (rcheck h hl) rfl ?_
 rintro _ rfl
 by_cases g:h.Ok
 ·have hn:=g.n
  rw[Hist.chk_of g]
  refine x0 (fun hc=>?_)
  refine a0d (rwithin b 0 (h.n-1)) rfl ?_
  rintro _ rfl
  refine x7 (fun hc=>?_) (fun hc=>?_)
  ·refine⟨_,rfl,?_⟩
   rw[Hist.errB_arg g hc]
   exact xc2
  ·refine⟨_,rfl,?_⟩
   rw[Hist.errB_ok g (Classical.not_not.1 hc)]
   exact xc2
 ·have e:h.chk=170:=if_neg g
  rw[e]
  refine x0 (fun hc=>?_)
  refine⟨_,rfl,?_⟩
  rw[Hist.errB_no g]
  exact xc2
open Classical in
noncomputable def lstK (P:Int→Prop) (i:Nat):List Int:=((List.range i).map fun(k:Nat)=>((k:Nat):Int)-1).filter fun v=>decide (P v)
theorem lstK_all (P:Int→Prop):lstK P 101=lstOf P:=by
 unfold lstK lstOf
 congr 1
theorem lstK_yes {P:Int→Prop} {i:Nat} (h:P ((i:Int)-1)):lstK P (i+1)=lstK P i++[(i:Int)-1]:=by
 unfold lstK
 rw[List.range_succ,List.map_append,List.filter_append]
 simp[h]
theorem lstK_no {P:Int→Prop} {i:Nat} (h:¬P ((i:Int)-1)):lstK P (i+1)=lstK P i:=by
 unfold lstK
 rw[List.range_succ,List.map_append,List.filter_append]
 simp[h]
theorem lstK_len (P:Int→Prop) (i:Nat):(lstK P i).length≤i:=by
 unfold lstK
 refine Nat.le_trans (List.length_filter_le ..) ?_
 simp
theorem rlisted63 (L:List Int) (hL:L.length≤100000000000):a0o Tryz.prog 63 false [.sl 1 L.length (a0u intC 0 L)] (·=.tup [.sl 1 (lstOf (·∈L)).length (a0u intC 0 (lstOf (·∈L))),.int .i64 (if lstOf (·∈L)=[] then 3 else 0)]):=by
 rw[←lstK_all]
 refine a0b Tryz.E_ok Tryz.func63 rfl (by kernel_rfl) ?_
 refine x0 ?_
 refine⟨Nat,fun i=>i≤101,fun i=>101-i,fun i=>[(5,.int .i64 ((i:Nat)-1)),(4,.osl 0 (lstK (·∈L) i).length)],fun _=>[],fun i=>[.row 3 1 (lstK (·∈L) i).length (a0u intC 0 (lstK (·∈L) i)) true],0,⟨Nat.zero_le _,some [none],?_⟩,?_⟩
 ·exact xc2
 ·intro i hi
  have hi:i≤101:=hi
  have hln:=lstK_len (·∈L) i
  refine x24 (fun hc=>?_) (fun hc hc=>?_) (fun hc hc=>?_)
  ·refine a0d (in75i L ((i:Nat)-1) hL) rfl ?_
   rintro _ rfl
   refine x7 (fun hc=>?_) (fun hc=>?_)
   ·have e:=lstK_yes (P:=(·∈L)) (i:=i) hc
    refine⟨i+1,⟨by omega,by dsimp only;omega⟩,some [some 2],?_⟩
    dsimp only
    rw[e]
    refine x0 ?_
    refine⟨by rw[List.length_append,List.length_singleton],?_⟩
    refine x0 ?_
    refine⟨by rw[List.length_append,List.length_singleton],a1r (c:=intC) (a:=(i:Int)-1) (l:=lstK (·∈L) i) rfl (fun _ _=>rfl),?_⟩
    exact xc2
   ·have e:=lstK_no (P:=(·∈L)) (i:=i) hc
    refine⟨i+1,⟨by omega,by dsimp only;omega⟩,some [some 0],?_⟩
    dsimp only
    rw[e]
    exact xc2
  ·obtain rfl:i=101:=by omega
   have he:(lstK (·∈L) 101)=[]:=List.eq_nil_of_length_eq_zero (by omega)
   refine⟨_,rfl,?_⟩
   rw[he]
   exact xc2
  ·obtain rfl:i=101:=by omega
   have he:(lstK (·∈L) 101)≠[]:=fun q=>hc (by rw[q];rfl)
   refine⟨_,rfl,?_⟩
   rw[if_neg he]
   exact xc2
end Ho
namespace Ho
theorem EndR.rd {h:Hist} {L:List RT} (e:EndR h L) (b:Nat) (v:Int):v∈L.map (fun r=>h.res r.st b)↔h.rd b v:=by
 rw[List.mem_map]
 constructor
 ·rintro⟨r,hr,rfl⟩
  exact⟨r.st,(e.ends _).2 ⟨r,hr,rfl⟩,rfl⟩
 ·rintro⟨s,hs,rfl⟩
  obtain⟨r,hr,rfl⟩:=(e.ends s).1 hs
  exact⟨r,hr,rfl⟩
theorem rreads27 (h:Hist) (hf:h.Near) (b:Int):a0o Tryz.prog 27 true [h.w,.int .i64 b] (·=.tup [.sl 1 (h.ifB b (h.rd b.toNat)).length (a0u intC 0 (h.ifB b (h.rd b.toNat))),.int .i64 (h.errR b (h.rd b.toNat))]):=by
 have h40:=hf.1
 refine a0b Tryz.E_ok Tryz.func27 rfl (by kernel_rfl) ?_
 (repeat' ((conv=>whnf);first|(with_reducible first|apply spl|apply spl'|refine iJ ?_)<;>intro hc<;>try(exfalso;omega)|refine vcq ?_|refine dr 9 ?_));all_goals(try conv=>whnf);try exact trivial
 refine a0d (rblock62 h (by omega) b) rfl ?_
 rintro _ rfl
 unfold Hist.ifB Hist.errR
 by_cases e0:h.errB b=0
 ·have gb:h.Ok∧0≤b∧b≤h.n-1:=by
   unfold Hist.errB at e0
   split at e0
   ·split at e0
    ·exact⟨by assumption,by assumption⟩
    ·cases e0
   ·cases e0
  obtain⟨g,hb⟩:=gb
  have hnn:=g.nn
  obtain⟨h2,h6⟩:=hf.2 g
  rw[if_pos e0,if_pos e0,e0]
  (repeat' ((conv=>whnf);first|(with_reducible first|apply spl|apply spl'|refine iJ ?_)<;>intro hc<;>try(exfalso;omega)|refine vcq ?_|refine dr 9 ?_));all_goals(try conv=>whnf);try exact trivial
  refine a0d (rends45 h g h2 h6) rfl ?_
  rintro _ ⟨L,hL,rfl⟩
  have hl:=hL.len
  (repeat' ((conv=>whnf);first|(with_reducible first|apply spl|apply spl'|refine iJ ?_)<;>intro hc<;>try(exfalso;omega)|refine vcq ?_|refine dr 9 ?_));all_goals(try conv=>whnf);try exact trivial
  refine⟨Nat,fun i=>i≤L.length,fun i=>L.length-i,fun i=>[(9,.int .i64 (i:Nat)),(8,.osl 1 ((L.take i).map (fun r=>h.res r.st b.toNat)).length)],fun _=>[],fun i=>[.row 3 1 ((L.take i).map (fun r=>h.res r.st b.toNat)).length (a0u intC 0 ((L.take i).map (fun r=>h.res r.st b.toNat))) true],0,⟨Nat.zero_le _,some [some 0,none],?_⟩,?_⟩
  ·(repeat' ((conv=>whnf);first|(with_reducible first|apply spl|apply spl'|refine iJ ?_)<;>intro hc<;>try(exfalso;omega)|refine vcq ?_|refine dr 9 ?_));all_goals(try conv=>whnf);try exact trivial
  ·intro i hi
   have hi:i≤L.length:=hi
   have hi0:((i:Nat):Int).toNat=i:=by omega
   have hln:((L.take i).map (fun r=>h.res r.st b.toNat)).length=i:=by rw[List.length_map,List.length_take];omega
   (repeat' ((conv=>whnf);first|(with_reducible first|apply spl|apply spl'|refine iJ ?_)<;>intro hc<;>try(exfalso;omega)|refine vcq ?_|refine dr 9 ?_));all_goals(try conv=>whnf);try exact trivial
   ·have hil:i<L.length:=by omega
    have hgi:=hL.good _ (getD_memR (h:=h) hil)
    have htk:(L.take (i+1)).map (fun r=>h.res r.st b.toNat)=(L.take i).map (fun r=>h.res r.st b.toNat)++[h.res (L.getD i (RT.begin h)).st b.toNat]:=by
     rw[List.take_succ_eq_append_getElem hil,List.map_append]
     congr 1
     simp[List.getD_eq_getElem?_getD,hil]
    rw[hi0]
    refine a0f (result51i h g (by omega) (L.getD i (RT.begin h)) hgi b ⟨hb.1,by omega⟩) rfl ?_
    (repeat' ((conv=>whnf);first|(with_reducible first|apply spl|apply spl'|refine iJ ?_)<;>intro hc<;>try(exfalso;omega)|refine vcq ?_|refine dr 9 ?_));all_goals(try conv=>whnf);try exact trivial
    refine⟨i+1,⟨by omega,by dsimp only;omega⟩,some [some 0,some 3],?_⟩
    dsimp only
    rw[htk]
    generalize (L.take i).map (fun r=>h.res r.st b.toNat)=C at *
    (repeat' ((conv=>whnf);first|(with_reducible first|apply spl|apply spl'|refine iJ ?_)<;>intro hc<;>try(exfalso;omega)|refine vcq ?_|refine dr 9 ?_));all_goals(try conv=>whnf);try exact trivial
    refine⟨by rw[List.length_append,List.length_singleton],?_⟩
    (repeat' ((conv=>whnf);first|(with_reducible first|apply spl|apply spl'|refine iJ ?_)<;>intro hc<;>try(exfalso;omega)|refine vcq ?_|refine dr 9 ?_));all_goals(try conv=>whnf);try exact trivial
    refine⟨by rw[List.length_append,List.length_singleton],a1r (c:=intC) (a:=h.res (L.getD i (RT.begin h)).st b.toNat) (l:=C) rfl (fun _ _=>rfl),?_⟩
    (repeat' ((conv=>whnf);first|(with_reducible first|apply spl|apply spl'|refine iJ ?_)<;>intro hc<;>try(exfalso;omega)|refine vcq ?_|refine dr 9 ?_));all_goals(try conv=>whnf);try exact trivial
   ·have hie:i=L.length:=by omega
    subst hie
    rw[List.take_length] at *
    have hC:=lstOf_congr (fun v=>hL.rd b.toNat v)
    generalize L.map (fun r=>h.res r.st b.toNat)=C at *
    refine callee_view (rlisted63 C (by omega)) ?_
    (repeat' ((conv=>whnf);first|(with_reducible first|apply spl|apply spl'|refine iJ ?_)<;>intro hc<;>try(exfalso;omega)|refine vcq ?_|refine dr 9 ?_));all_goals(try conv=>whnf);try exact trivial
    rintro _ rfl
    rw[hC]
    (repeat' ((conv=>whnf);first|(with_reducible first|apply spl|apply spl'|refine iJ ?_)<;>intro hc<;>try(exfalso;omega)|refine vcq ?_|refine dr 9 ?_));all_goals(try conv=>whnf);try exact trivial
    refine⟨_,rfl,?_⟩
    (repeat' ((conv=>whnf);first|(with_reducible first|apply spl|apply spl'|refine iJ ?_)<;>intro hc<;>try(exfalso;omega)|refine vcq ?_|refine dr 9 ?_));all_goals(try conv=>whnf);try exact trivial
 ·rw[if_neg e0,if_neg e0]
  (repeat' ((conv=>whnf);first|(with_reducible first|apply spl|apply spl'|refine iJ ?_)<;>intro hc<;>try(exfalso;omega)|refine vcq ?_|refine dr 9 ?_));all_goals(try conv=>whnf);try exact trivial
  ·refine⟨_,rfl,?_⟩
   (repeat' ((conv=>whnf);first|(with_reducible first|apply spl|apply spl'|refine iJ ?_)<;>intro hc<;>try(exfalso;omega)|refine vcq ?_|refine dr 9 ?_));all_goals(try conv=>whnf);try exact trivial
end Ho
namespace Ho
structure FI (h:Hist) (L:List RT) (b:Nat) (C:List Int) (i k:Nat) (Ms:List (Nat→Int)):Prop where
 sound:∀v∈C,h.fl b v
 old:∀j,j<i→∀im,h.Img (L.getD j (RT.begin h)).O im→h.keep1 ((L.getD j (RT.begin h)).K.getD b 0) (im.getD b 0)∈C
 cur:∀q,q<k→(L.getD i (RT.begin h)).kf h (Ms.getD q fun _=>0) b∈C
 len:C.length≤81*i+k
namespace FI
variable {h:Hist} {L:List RT} {b:Nat} {C:List Int} {i k:Nat} {Ms:List (Nat→Int)}
theorem start (h:Hist) (L:List RT) (b:Nat) (Ms:List (Nat→Int)):FI h L b [] 0 0 Ms:=⟨fun _ hv=>(List.not_mem_nil hv).elim,fun j hj=>(Nat.not_lt_zero j hj).elim,fun j hj=>(Nat.not_lt_zero j hj).elim,Nat.zero_le _⟩
theorem other (f:FI h L b C i 0 Ms) (Ns:List (Nat→Int)):FI h L b C i 0 Ns:=⟨f.sound,f.old,fun j hj=>(Nat.not_lt_zero j hj).elim,f.len⟩
theorem step (f:FI h L b C i k Ms) {v:Int} (hv:v=(L.getD i (RT.begin h)).kf h (Ms.getD k fun _=>0) b) (hfl:h.fl b v):FI h L b (C++[v]) i (k+1) Ms:=by
 refine⟨fun u hu=>?_,fun j hj im hi=>List.mem_append_left _ (f.old j hj im hi),fun q hq=>?_,?_⟩
 ·rcases List.mem_append.1 hu with q|q
  ·exact f.sound u q
  ·rw[List.mem_singleton] at q
   subst q
   exact hfl
 ·rcases Nat.lt_or_eq_of_le (show q≤k by omega) with r|rfl
  ·exact List.mem_append_left _ (f.cur q r)
  ·exact List.mem_append_right _ (by rw[List.mem_singleton,hv])
 ·rw[List.length_append,List.length_singleton]
  have:=f.len
  omega
end FI
theorem kf_fl {h:Hist} (g:h.Ok) {L:List RT} (e:EndR h L) {r:RT} (hr:r∈L) {Ms:List (Nat→Int)} (hM:ImgsR (h.cache r.O) h.nn Ms) {b:Nat} (hb:b<h.nn) :
  (∀f∈Ms,h.fl b (r.kf h f b))∧∀im,h.Img r.O im→∃f∈Ms,r.kf h f b=h.keep1 (r.K.getD b 0) (im.getD b 0):=by
 have gr:=e.good r hr
 constructor
 ·intro f hf
  obtain⟨c,hp,hfit⟩:=hM.sound f hf
  refine⟨r.st,(List.range h.nn).map (fun b=>num r.O (f b)),(e.ends _).2 ⟨r,hr,rfl⟩,⟨by simp,c,hp,fun b hb=>?_⟩,?_⟩
  ·simp[List.getD_eq_getElem?_getD,hb,hfit b hb]
   rfl
  ·rw[kf_keep r (falls_fit g gr hM hf hb).1]
   congr 1
   simp[List.getD_eq_getElem?_getD,hb]
 ·rintro im ⟨_,c,hp,hall⟩
  obtain⟨f,hf,hfit⟩:=hM.cov c hp
  refine⟨f,hf,?_⟩
  rw[kf_keep r (falls_fit g gr hM hf hb).1,hall b hb,hfit b hb]
theorem FI.next {h:Hist} (g:h.Ok) {L:List RT} (e:EndR h L) {b:Nat} (hb:b<h.nn) {C:List Int} {i:Nat} (hi:i<L.length) {Ms:List (Nat→Int)} (hM:ImgsR (h.cache (L.getD i (RT.begin h)).O) h.nn Ms) (hl:Ms.length≤81) (f:FI h L b C i Ms.length Ms):FI h L b C (i+1) 0 []:=by
 refine⟨f.sound,fun j hj im him=>?_,fun j hj=>(Nat.not_lt_zero j hj).elim,by have:=f.len;omega⟩
 rcases Nat.lt_or_eq_of_le (show j≤i by omega) with q|rfl
 ·exact f.old j q im him
 ·obtain⟨m,hm,e2⟩:=(kf_fl g e (getD_memR hi) hM hb).2 im him
  obtain⟨q,hq,rfl⟩:=List.getElem_of_mem hm
  have:=f.cur q hq
  rw[List.getD_eq_getElem?_getD (l:=Ms),List.getElem?_eq_getElem hq] at this
  rw[←e2]
  exact this
theorem FI.fin {h:Hist} {L:List RT} (e:EndR h L) {b:Nat} {C:List Int} {Ms:List (Nat→Int)} (f:FI h L b C L.length 0 Ms) (v:Int):v∈C↔h.fl b v:=by
 refine⟨f.sound v,?_⟩
 rintro⟨s,im,hs,him,rfl⟩
 obtain⟨r,hr,rfl⟩:=(e.ends s).1 hs
 obtain⟨j,hj,rfl⟩:=List.getElem_of_mem hr
 have:=f.old j hj im (by rw[List.getD_eq_getElem?_getD,List.getElem?_eq_getElem hj];exact him)
 rw[List.getD_eq_getElem?_getD (l:=L),List.getElem?_eq_getElem hj] at this
 exact this
theorem rfalls28 (h:Hist) (hf:h.Near) (b:Int):a0o Tryz.prog 28 true [h.w,.int .i64 b] (·=.tup [.sl 1 (h.ifB b (h.fl b.toNat)).length (a0u intC 0 (h.ifB b (h.fl b.toNat))),.int .i64 (h.errR b (h.fl b.toNat))]):=by
 have h40:=hf.1
 refine a0b Tryz.E_ok Tryz.func28 rfl (by kernel_rfl) ?_
 (repeat' ((conv=>whnf);first|(with_reducible first|apply spl|apply spl'|refine iJ ?_)<;>intro hc<;>try(exfalso;omega)|refine vcq ?_|refine dr 16 ?_));all_goals(try conv=>whnf);try exact trivial
 refine a0d (rblock62 h (by omega) b) rfl ?_
 rintro _ rfl
 unfold Hist.ifB Hist.errR
 by_cases e0:h.errB b=0
 ·have gb:h.Ok∧0≤b∧b≤h.n-1:=by
   unfold Hist.errB at e0
   split at e0
   ·split at e0
    ·exact⟨by assumption,by assumption⟩
    ·cases e0
   ·cases e0
  obtain⟨g,hb⟩:=gb
  have hnn:=g.nn
  obtain⟨h2,h6⟩:=hf.2 g
  rw[if_pos e0,if_pos e0,e0]
  have hbn:b.toNat<h.nn:=by omega
  (repeat' ((conv=>whnf);first|(with_reducible first|apply spl|apply spl'|refine iJ ?_)<;>intro hc<;>try(exfalso;omega)|refine vcq ?_|refine dr 16 ?_));all_goals(try conv=>whnf);try exact trivial
  refine a0d (rends45 h g h2 h6) rfl ?_
  rintro _ ⟨L,hL,rfl⟩
  have hl:=hL.len
  (repeat' ((conv=>whnf);first|(with_reducible first|apply spl|apply spl'|refine iJ ?_)<;>intro hc<;>try(exfalso;omega)|refine vcq ?_|refine dr 16 ?_));all_goals(try conv=>whnf);try exact trivial
  refine⟨Nat×List Int,fun q=>q.1≤L.length∧FI h L b.toNat q.2 q.1 0 [],fun q=>L.length-q.1,fun q=>[(9,.int .i64 (q.1:Nat)),(8,.osl 1 q.2.length)],fun _=>[],fun q=>[.row 3 1 q.2.length (a0u intC 0 q.2) true],(0,[]),⟨⟨Nat.zero_le _,FI.start ..⟩,some [some 0,none],?_⟩,?_⟩
  ·(repeat' ((conv=>whnf);first|(with_reducible first|apply spl|apply spl'|refine iJ ?_)<;>intro hc<;>try(exfalso;omega)|refine vcq ?_|refine dr 16 ?_));all_goals(try conv=>whnf);try exact trivial
  ·rintro⟨i,C⟩ ⟨hi,hC⟩
   dsimp only at hi hC
   have hi0:((i:Nat):Int).toNat=i:=by omega
   have hCl:=hC.len
   (repeat' ((conv=>whnf);first|(with_reducible first|apply spl|apply spl'|refine iJ ?_)<;>intro hc<;>try(exfalso;omega)|refine vcq ?_|refine dr 16 ?_));all_goals(try conv=>whnf);try exact trivial
   ·have hil:i<L.length:=by dsimp only at *;omega
    have hr:=getD_memR (h:=h) hil
    have gr:=hL.good _ hr
    have hI:=Hist.Rea.inv g gr.rea
    have hsm:=g.small h2 h6 hI
    have hol:=gr.olen g
    have hdl:=gr.dlen
    have hkl:=gr.klen g
    have hgl:=gr.olt g
    dsimp only
    rw[hi0]
    refine callee_new (Images60 (h.cache (L.getD i (RT.begin h)).O) hsm h.nn hnn.1.symm) rfl ?_
    rintro _ _ ⟨Ms,⟨hM,hd⟩,rfl,rfl⟩
    have hfit:=fun f hf b hb=>falls_fit g gr hM (f:=f) hf (b:=b) hb
    have hMl:Ms.length≤81:=hd.len (by omega) (fun f hf b hb=>by have:=hfit f hf b hb;omega)
    have hC0:=hC.other Ms
    (repeat' ((conv=>whnf);first|(with_reducible first|apply spl|apply spl'|refine iJ ?_)<;>intro hc<;>try(exfalso;omega)|refine vcq ?_|refine dr 16 ?_));all_goals(try conv=>whnf);try exact trivial
    refine⟨Nat×List Int,fun q=>q.1≤Ms.length∧FI h L b.toNat q.2 i q.1 Ms,fun q=>Ms.length-q.1,fun q=>[(11,.int .i64 (q.1:Nat)),(8,.osl 1 q.2.length)],fun q=>[(1,.row 3 1 q.2.length (a0u intC 0 q.2) true)],fun _=>[],(0,C),⟨⟨Nat.zero_le _,hC0⟩,some [some 0,some 1,some 2],?_⟩,?_⟩
    ·(repeat' ((conv=>whnf);first|(with_reducible first|apply spl|apply spl'|refine iJ ?_)<;>intro hc<;>try(exfalso;omega)|refine vcq ?_|refine dr 16 ?_));all_goals(try conv=>whnf);try exact trivial
    ·clear hC hCl hC0
     rintro⟨k,D⟩ ⟨hk,hD⟩
     dsimp only at hk hD
     have hk0:((k:Nat):Int).toNat=k:=by omega
     have hDl:=hD.len
     (repeat' ((conv=>whnf);first|(with_reducible first|apply spl|apply spl'|refine iJ ?_)<;>intro hc<;>try(exfalso;omega)|refine vcq ?_|refine dr 16 ?_));all_goals(try conv=>whnf);try exact trivial
     ·have hkl2:k<Ms.length:=by dsimp only at *;omega
      have hmem:Ms.getD k (fun _=>0)∈Ms:=by simp[List.getD_eq_getElem?_getD,hkl2]
      have hst:=fun v hv=>hD.step (v:=v) hv
      have hfl:=(kf_fl g hL hr hM hbn).1 _ hmem
      dsimp only
      rw[hi0,hk0]
      refine a0f (rfall54 h (by omega) hnn.1.symm hnn.2.2 (L.getD i (RT.begin h)) hgl (by omega) (by omega) hkl 0 (by omega) (Ms.getD k fun _=>0) (fun b hb=>hfit _ hmem b hb)) rfl ?_
      have hKl:((L.getD i (RT.begin h)).fall h 0 (Ms.getD k fun _=>0)).K.length=h.nn:=by simp[RT.fall]
      have hKv:((L.getD i (RT.begin h)).fall h 0 (Ms.getD k fun _=>0)).K.getD b.toNat 0=(L.getD i (RT.begin h)).kf h (Ms.getD k fun _=>0) b.toNat:=by
       unfold RT.fall
       simp[List.getD_eq_getElem?_getD,hbn]
      have hD1:=hst _ hKv (by rw[hKv];exact hfl)
      generalize (L.getD i (RT.begin h)).fall h 0 (Ms.getD k fun _=>0)=rf at *
      clear hst hfl
      (repeat' ((conv=>whnf);first|(with_reducible first|apply spl|apply spl'|refine iJ ?_)<;>intro hc<;>try(exfalso;omega)|refine vcq ?_|refine dr 16 ?_));all_goals(try conv=>whnf);try exact trivial
      refine⟨(k+1,D++[rf.K.getD b.toNat 0]),⟨⟨by dsimp only;omega,hD1⟩,by dsimp only;omega⟩,some [some 0,some 4,some 2],?_⟩
      (repeat' ((conv=>whnf);first|(with_reducible first|apply spl|apply spl'|refine iJ ?_)<;>intro hc<;>try(exfalso;omega)|refine vcq ?_|refine dr 16 ?_));all_goals(try conv=>whnf);try exact trivial
      refine⟨by dsimp only;rw[List.length_append,List.length_singleton],?_⟩
      (repeat' ((conv=>whnf);first|(with_reducible first|apply spl|apply spl'|refine iJ ?_)<;>intro hc<;>try(exfalso;omega)|refine vcq ?_|refine dr 16 ?_));all_goals(try conv=>whnf);try exact trivial
      refine⟨by dsimp only;rw[List.length_append,List.length_singleton],a1r (c:=intC) (a:=rf.K.getD b.toNat 0) (l:=D) rfl (fun _ _=>rfl),?_⟩
      (repeat' ((conv=>whnf);first|(with_reducible first|apply spl|apply spl'|refine iJ ?_)<;>intro hc<;>try(exfalso;omega)|refine vcq ?_|refine dr 16 ?_));all_goals(try conv=>whnf);try exact trivial
     ·have hke:k=Ms.length:=by dsimp only at *;omega
      subst hke
      have hD1:=FI.next g hL hbn hil hM hMl hD
      refine⟨(i+1,D),⟨⟨by dsimp only;omega,hD1⟩,by dsimp only;omega⟩,some [some 0,some 1],?_⟩
      (repeat' ((conv=>whnf);first|(with_reducible first|apply spl|apply spl'|refine iJ ?_)<;>intro hc<;>try(exfalso;omega)|refine vcq ?_|refine dr 16 ?_));all_goals(try conv=>whnf);try exact trivial
   ·have hie:i=L.length:=by dsimp only at *;omega
    subst hie
    have hP:=lstOf_congr (fun v=>hC.fin hL v)
    refine callee_view (rlisted63 C (by omega)) ?_
    (repeat' ((conv=>whnf);first|(with_reducible first|apply spl|apply spl'|refine iJ ?_)<;>intro hc<;>try(exfalso;omega)|refine vcq ?_|refine dr 16 ?_));all_goals(try conv=>whnf);try exact trivial
    rintro _ rfl
    rw[hP]
    (repeat' ((conv=>whnf);first|(with_reducible first|apply spl|apply spl'|refine iJ ?_)<;>intro hc<;>try(exfalso;omega)|refine vcq ?_|refine dr 16 ?_));all_goals(try conv=>whnf);try exact trivial
    refine⟨_,rfl,?_⟩
    (repeat' ((conv=>whnf);first|(with_reducible first|apply spl|apply spl'|refine iJ ?_)<;>intro hc<;>try(exfalso;omega)|refine vcq ?_|refine dr 16 ?_));all_goals(try conv=>whnf);try exact trivial
 ·rw[if_neg e0,if_neg e0]
  (repeat' ((conv=>whnf);first|(with_reducible first|apply spl|apply spl'|refine iJ ?_)<;>intro hc<;>try(exfalso;omega)|refine vcq ?_|refine dr 16 ?_));all_goals(try conv=>whnf);try exact trivial
  ·refine⟨_,rfl,?_⟩
   (repeat' ((conv=>whnf);first|(with_reducible first|apply spl|apply spl'|refine iJ ?_)<;>intro hc<;>try(exfalso;omega)|refine vcq ?_|refine dr 16 ?_));all_goals(try conv=>whnf);try exact trivial
end Ho
end Go.Proofs
namespace Go.Proofs
open Go Go.Sx
set_option maxRecDepth 100000
set_option maxHeartbeats 40000000
namespace Ho
theorem copyP (h:Hist) (hl:h.l.length≤1000000):a0o Tryz.prog 11 false [h.w] (·=h.w):=by
 refine a0b Tryz.E_ok Tryz.func11 rfl (by kernel_rfl) ?_
 (repeat' ((conv=>whnf);first|(with_reducible first|apply spl|apply spl'|refine iJ ?_)<;>intro hc<;>try(exfalso;omega)|refine vcq ?_|refine dr 2005 ?_|refine dr 11 ?_));all_goals(try conv=>whnf);try exact trivial
 refine⟨_,rfl,?_⟩
 (repeat' ((conv=>whnf);first|(with_reducible first|apply spl|apply spl'|refine iJ ?_)<;>intro hc<;>try(exfalso;omega)|refine vcq ?_|refine dr 2005 ?_|refine dr 11 ?_));all_goals(try conv=>whnf);try exact trivial
theorem pureWk {P:Program} {g:FuncId} {keep:Bool} {args:List V} {R R':V→Prop} (h:a0o P g keep args R) (hr:∀r,R r→∃r',R' r'∧∀I w v,Den I [] w r v→Den I [] w r' v):a0o P g keep args R':=
 ⟨h.1,fun I w vals hI hd=>(h.2 I w vals hI hd).mono fun _ _ ⟨_,v,h1,h2,h3,h4⟩=>let⟨r',g1,g2⟩:=hr _ h2;⟨r',v,h1,g1,g2 _ _ _ h3,h4⟩⟩
end Ho
namespace Ho
theorem same17k (a:List Int) (hl:a.length≤137438953472):a0o Tryz.prog 29 false [.sl 1 a.length (a0u intC 0 a),.sl 1 a.length (a0u intC 0 a)] (·=.kb true):=
 pureWk (same17 a a hl hl) fun _ e=>⟨_,rfl,fun I w v hd=>by subst e;simpa [Den] using hd⟩
theorem lstOf_len (P:Int→Prop):(lstOf P).length≤101:=by
 unfold lstOf
 refine Nat.le_trans (List.length_filter_le ..) ?_
 simp
theorem ifB_len (h:Hist) (b:Int) (P:Int→Prop):(h.ifB b P).length≤101:=by
 unfold Hist.ifB
 split
 ·exact lstOf_len P
 ·exact Nat.zero_le _
theorem reads6 (h:Hist) (hl:h.l.length≤9223372036854775807) (b:Int):a0o Tryz.prog 6 false [h.w,.int .i64 b] (·=.prop True inferInstance):=by
 refine a0b Tryz.E_ok Tryz.func6 rfl (by kernel_rfl) ?_
 refine x0 ?_
 refine a0d (far20 h hl) rfl ?_
 rintro _ rfl
 (repeat' ((conv=>whnf);first|(with_reducible first|apply spl|apply spl'|refine iJ ?_)<;>intro hc<;>try(exfalso;omega)|refine vcq ?_|fail));all_goals((try conv=>whnf);try exact trivial);(repeat' ((first|(refine a0d (works8) rfl ?_;rintro _ rfl)|(refine a0f (works8) rfl ?_)|(refine a0l (fun _=>works8) rfl ?_));refine x0 ?_))
 ·refine⟨_,rfl,?_⟩
  exact⟨Iff.rfl,trivial⟩
 ·have hn:h.Near:=Classical.not_not.1 hc
  have h40:=hn.1
  clear hc
  have r1:=reads15 h hn b
  have r2:=rreads27 h hn b
  have f1:=falls19 h hn b
  have f2:=rfalls28 h hn b
  have s1:=same17k (h.ifB b (h.rd b.toNat)) (by have:=ifB_len h b (h.rd b.toNat);omega)
  have s2:=same17k (h.ifB b (h.fl b.toNat)) (by have:=ifB_len h b (h.fl b.toNat);omega)
  have l1:=ifB_len h b (h.rd b.toNat)
  have l2:=ifB_len h b (h.fl b.toNat)
  generalize h.ifB b (h.rd b.toNat)=A at *
  generalize h.ifB b (h.fl b.toNat)=B at *
  generalize h.errR b (h.rd b.toNat)=e at *
  generalize h.errR b (h.fl b.toNat)=f at *
  refine a0d (copyP h (by omega)) rfl ?_
  rintro _ rfl
  refine x0 ?_
  refine a0d r1 rfl ?_
  rintro _ rfl
  refine x0 ?_
  refine a0d r2 rfl ?_
  rintro _ rfl
  refine x0 ?_
  refine a0d f1 rfl ?_
  rintro _ rfl
  refine x0 ?_
  refine a0d f2 rfl ?_
  rintro _ rfl
  refine x0 ?_
  refine a0d s1 rfl ?_
  rintro _ rfl
  refine x0 (fun hc=>?_)
  refine a0d s2 rfl ?_
  rintro _ rfl
  refine x0 (fun hc=>?_)
  refine a0d works8 rfl ?_
  rintro _ rfl
  refine x0 ?_
  refine⟨_,rfl,?_⟩
  exact⟨Iff.rfl,trivial⟩
end Ho
end Go.Proofs
