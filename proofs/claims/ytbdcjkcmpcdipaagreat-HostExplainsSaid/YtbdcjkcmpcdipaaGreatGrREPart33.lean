/- Own work: texts of the proof of a law (GrH, HrC, GrJ, GrK, GrB, GrL). No condition. -/
import Derived.Test.YtbdcjkcmpcdipaaGreatGrREPart32
set_option linter.unusedVariables false
set_option linter.unusedSimpArgs false
namespace Go.Proofs
open Go Go.Sx
set_option maxRecDepth 100000
set_option maxHeartbeats 40000000
namespace Ho
abbrev IE:=Nat×(Nat→Int)
def lC (e:IE):List V:=[.sl 1 e.1 (iF e.2)]
def ie0:IE:=(0,fun _=>0)
def tol (e:IE):List Int:=(List.range e.1).map e.2
theorem tol_len (e:IE):(tol e).length=e.1:=by unfold tol;rw[List.length_map,List.length_range]
theorem tol_get (e:IE) {b:Nat} (hb:b<e.1):(tol e).getD b 0=e.2 b:=by
 unfold tol
 simp[a0A,hb]
theorem prop_iff {p q:Prop} {d:Decidable p} {e:Decidable q} (h:p↔q):V.prop p d=V.prop q e:=by
 have x:p=q:=propext h
 subst x
 exact congrArg (V.prop p) (Subsingleton.elim _ _)
def anyS:Nat→Nat→List (Nat×V)
 |_,0=>[]
 |a,n+1=>(a,.any) :: anyS (a+1) n
theorem mayI (h:Hist) (hl:h.l.length≤1000000) (r:RT) (hd:r.d.length≤1000000) (x:Int) (hx:0≤x∧x≤h.l.length-1):a0q Tryz.prog 50 false [h.w,r.v h,.int .i64 x] (·=.prop (MayD h r.d x.toNat) (Classical.propDecidable _)):=by
 have:=may50 h hl r hd x.toNat (by omega)
 rwa [show((x.toNat:Nat):Int)=x by omega] at this
theorem resI (h:Hist) (g:h.Ok) (hl:h.l.length≤1000000) (r:RT) (gr:RW h r) (b:Int) (hb:0≤b∧b.toNat<h.nn):a0q Tryz.prog 51 false [h.w,r.v h,.int .i64 b] (·=.int .i64 (h.res r.st b.toNat)):=by
 have hK:=gr.klen g
 have hO:=gr.olen g
 have h6:=g.nn
 have e:((b.toNat:Nat):Int)=b:=by omega
 have:=result51 h hl r (gr.olt g) (by omega) b.toNat (by omega) (by omega)
 rw[e] at this
 unfold Hist.res
 rw[e]
 exact this
theorem possU {x:Cache} {l:List Int} (hk:x.chk=0) {a:List V} (h:a0q Tryz.prog 53 false a (PosR x l)):∃e:Int,(IsImg x l∧IsPos x l→e=0)∧a0q Tryz.prog 53 false a (·=.tup [.prop (IsImg x l∧IsPos x l) (Classical.propDecidable _),.int .i64 e]):=by
 by_cases hi:IsImg x l
 ·refine⟨0,fun _=>rfl,h.mono fun r hr=>?_⟩
  cases hr with
  |chk q=>exact absurd hk q
  |img _ q=>exact absurd hi q
  |pos=>
   exact congrArg (fun p=>V.tup [p,.int .i64 0]) (prop_iff ⟨fun q=>⟨hi,q⟩,fun q=>q.2⟩)
 ·refine⟨81,fun q=>absurd q.1 hi,h.mono fun r hr=>?_⟩
  cases hr with
  |chk q=>exact absurd hk q
  |img=>
   exact congrArg (fun p=>V.tup [p,.int .i64 81]) (prop_iff ⟨False.elim,fun q=>hi q.1⟩)
  |pos _ q=>exact absurd q hi
theorem PosI.lo {h:Hist} (g:h.Ok) {r:RT} (gr:RW h r) {f:Nat→Int} {c:C6} (hp:PosI (h.cache r.O) c) (hf:Fits h.nn f c):∀b,b<h.nn→-2≤f b∧(0≤f b→(f b).toNat<r.O.length):=by
 have h6:=g.nn
 have hl:(h.cache r.O).l.length=r.O.length:=a2M ..
 intro b hb
 rw[hf b hb]
 rcases hp.holds (gr.cache g) (show b<6 by omega) with q|q|⟨q,h1,q,_⟩<;>omega
theorem isx22 (h:Hist) (g:h.Ok) (h2:h.n≤2) (h6:h.l.length≤6) (o:List Int) (ho:o.length≤20) (ims:List IE) (hims:ims.length≤20) (him:∀im∈ims,im.1≤9223372036854775807) :
  a0q Tryz.prog 22 false [h.w,.sl 1 o.length (a0u intC 0 o),.sl 1 ims.length (a0u lC ie0 ims)] (·=.prop (isx h (RT.begin h) o (ims.map tol)) (Classical.propDecidable _)):=by
 have hnn:=g.nn
 refine a0c Tryz.E_ok Tryz.func22 rfl (by kernel_rfl) ?_
 (repeat' ((conv=>whnf);first|(with_reducible first|apply spl|apply spl'|refine iJ ?_)<;>intro hc<;>try(exfalso;omega)|refine vcq ?_|refine dr 20 ?_|refine dr 9 ?_|refine dr 18 ?_|refine dr 7 ?_|refine dr 14 ?_));all_goals(try conv=>whnf);try exact trivial
 refine a0d (begin49 h g.n) rfl ?_
 rintro _ rfl
 (repeat' ((conv=>whnf);first|(with_reducible first|apply spl|apply spl'|refine iJ ?_)<;>intro hc<;>try(exfalso;omega)|refine vcq ?_|refine dr 20 ?_|refine dr 9 ?_|refine dr 18 ?_|refine dr 7 ?_|refine dr 14 ?_));all_goals(try conv=>whnf);try exact trivial
 refine⟨Nat×Nat×RT,fun q=>(q.1≤o.length∧q.2.1≤ims.length)∧RW h q.2.2∧(isx h (RT.begin h) o (ims.map tol)↔isx h q.2.2 (o.drop q.1) ((ims.drop q.2.1).map tol)),fun q=>o.length-q.1,fun q=>[(9,.int .i64 (q.1:Nat)),(8,.int .i64 (q.2.1:Nat)),(17,.any),(18,.any)],fun q=>[(1,.cells 77 (q.2.2.c h))],fun _=>[],(0,0,RT.begin h),⟨⟨⟨a2A _,a2A _⟩,RW.begin h,by rw[List.drop_zero,List.drop_zero]⟩,some [some 0,some 1],?_⟩,?_⟩
 ·(repeat' ((conv=>whnf);first|(with_reducible first|apply spl|apply spl'|refine iJ ?_)<;>intro hc<;>try(exfalso;omega)|refine vcq ?_|refine dr 20 ?_|refine dr 9 ?_|refine dr 18 ?_|refine dr 7 ?_|refine dr 14 ?_));all_goals(try conv=>whnf);try exact trivial
 ·rintro⟨i,f,r⟩ ⟨⟨hi,hf⟩,hr,hx⟩
  dsimp only at hi hf hr hx
  have hi0:((i:Nat):Int).toNat=i:=by omega
  have hdl:=hr.dlen
  have hol:=hr.olen g
  have hkl:=hr.klen g
  (repeat' ((conv=>whnf);first|(with_reducible first|apply spl|apply spl'|refine iJ ?_)<;>intro hc<;>try(exfalso;omega)|refine vcq ?_|refine dr 20 ?_|refine dr 9 ?_|refine dr 18 ?_|refine dr 7 ?_|refine dr 14 ?_));all_goals(try conv=>whnf);try exact trivial
  ·have hil:i<o.length:=by dsimp only at hc;omega
   have hdr:o.drop i=o.getD i 0 :: o.drop (i+1):=by
    rw[a2R hil]
    congr 1
    simp[a0A,hil]
   rw[hdr] at hx
   obtain⟨x,hxe⟩:∃x,o.getD i 0=x:=⟨_,rfl⟩
   rw[hxe] at hx
   have hxe':o.getD ((i:Nat):Int).toNat 0=x:=by rw[hi0,hxe]
   dsimp only
   rw[hxe']
   have hmay:=mayI h (by omega) r (by omega) x
   have hrx:=resI h g (by omega) r hr
   have hcm:=fun hx:0≤x∧x≤h.l.length-1=>g.cmd x.toNat (by omega)
   refine a0f (rwithin x 0 (h.l.length-1)) rfl ?_
   (repeat' ((conv=>whnf);first|(with_reducible first|apply spl|apply spl'|refine iJ ?_)<;>intro hc<;>try(exfalso;omega)|refine vcq ?_|refine dr 20 ?_|refine dr 9 ?_|refine dr 18 ?_|refine dr 7 ?_|refine dr 14 ?_));all_goals(try conv=>whnf);try exact trivial
   rw[hxe']
   refine a0l (fun hg=>hmay (a0T.1 hg)) rfl ?_
   (repeat' ((conv=>whnf);first|(with_reducible first|apply spl|apply spl'|refine iJ ?_)<;>intro hc<;>try(exfalso;omega)|refine vcq ?_|refine dr 20 ?_|refine dr 9 ?_|refine dr 18 ?_|refine dr 7 ?_|refine dr 14 ?_));all_goals(try conv=>whnf);try exact trivial
   ·refine⟨_,rfl,?_⟩
    refine⟨fun q=>?_,trivial⟩
    have q2:=hx.1 q
    exact hc.elim (fun u=>u q2.1) (fun u=>u q2.2.1)
   ·have hxr:0≤x∧x≤h.l.length-1:=a1E fun u=>hc (.inl u)
    have hmd:MayD h r.d x.toNat:=a1E fun u=>hc (.inr u)
    have hcx:=hcm hxr
    clear hc hmay hcm
    have e0:h.l.getD x.toNat c0=h.at' x.toNat:=rfl
    (repeat' ((conv=>whnf);first|(with_reducible first|apply spl|apply spl'|refine iJ ?_)<;>intro hc<;>try(exfalso;omega)|refine vcq ?_|refine dr 20 ?_|refine dr 9 ?_|refine dr 18 ?_|refine dr 7 ?_|refine dr 14 ?_));all_goals(try conv=>whnf);try exact trivial
    rw[hxe',e0]
    have hFit:FitX h r x.toNat↔((h.at' x.toNat).k=10→(h.at' x.toNat).t≠-1→h.res r.st (h.at' x.toNat).b.toNat=(h.at' x.toNat).v):=a1R
    have hrc:(h.at' x.toNat).k=10→0≤(h.at' x.toNat).b∧(h.at' x.toNat).b.toNat<h.nn:=by
     unfold Cmd.Ok at hcx
     omega
    have hdo:=rdo52 h (by omega) r (by omega) (by omega) x.toNat (by omega)
    rw[show((x.toNat:Nat):Int)=x by omega] at hdo
    have hnx:=fun a b=>hr.doO (n:=x.toNat) (by omega) hmd a b
    have hfw:=fun a f c hp hfit=>hr.fall g (n:=x.toNat) (by omega) hmd a (f:=f) (c:=c) hp hfit
    have hxn:(h.at' x.toNat).k≠9→FitX h r x.toNat→(isx h (RT.begin h) o (ims.map tol)↔isx h (r.doO h x.toNat) (o.drop (i+1)) ((ims.drop f).map tol)):=fun a b=>hx.trans ⟨fun q=>q.2.2.2.elim (fun u=>u.2) (fun u=>absurd u.1 a),fun q=>⟨hxr,hmd,b,.inl ⟨a,q⟩⟩⟩
    have hxy:(h.at' x.toNat).k=9→FitX h r x.toNat→(isx h (RT.begin h) o (ims.map tol)↔∃im ims',(ims.drop f).map tol=im :: ims'∧PossX h r im∧isx h (r.fall h x.toNat (fX h r im)) (o.drop (i+1)) ims'):=fun a b=>hx.trans ⟨fun q=>q.2.2.2.elim (fun u=>absurd a u.1) (fun u=>u.2),fun q=>⟨hxr,hmd,b,.inr ⟨a,q⟩⟩⟩
    have hxf:isx h (RT.begin h) o (ims.map tol)→FitX h r x.toNat:=fun q=>(hx.1 q).2.2.1
    clear hx
    generalize h.at' x.toNat=c at *
    refine a0l (fun _=>ropen c) rfl ?_
    (repeat' ((conv=>whnf);first|(with_reducible first|apply spl|apply spl'|refine iJ ?_)<;>intro hc<;>try(exfalso;omega)|refine vcq ?_|refine dr 20 ?_|refine dr 9 ?_|refine dr 18 ?_|refine dr 7 ?_|refine dr 14 ?_));all_goals(try conv=>whnf);try exact trivial
    refine a0l (fun hg=>hrx _ (hrc hg.1)) rfl ?_
    (repeat' ((conv=>whnf);first|(with_reducible first|apply spl|apply spl'|refine iJ ?_)<;>intro hc<;>try(exfalso;omega)|refine vcq ?_|refine dr 20 ?_|refine dr 9 ?_|refine dr 18 ?_|refine dr 7 ?_|refine dr 14 ?_));all_goals(try conv=>whnf);try exact trivial
    ·refine⟨_,rfl,?_⟩
     refine⟨fun q=>?_,trivial⟩
     exact hc.2 (hFit.1 (hxf q) hc.1.1 hc.1.2)
    ·rename_i q1
     have hfit:FitX h r x.toNat:=hFit.2 fun a b=>a1E fun u=>q1 ⟨⟨a,b⟩,u⟩
     have h9:c.k≠9:=hc
     rw[hxe']
     refine a0f hdo rfl ?_
     (repeat' ((conv=>whnf);first|(with_reducible first|apply spl|apply spl'|refine iJ ?_)<;>intro hc<;>try(exfalso;omega)|refine vcq ?_|refine dr 20 ?_|refine dr 9 ?_|refine dr 18 ?_|refine dr 7 ?_|refine dr 14 ?_));all_goals(try conv=>whnf);try exact trivial
     refine⟨(i+1,f,r.doO h x.toNat),⟨⟨⟨hil,hf⟩,hnx h9 hfit,hxn h9 hfit⟩,by dsimp only;omega⟩,some [some 0,some 1],?_⟩
     (repeat' ((conv=>whnf);first|(with_reducible first|apply spl|apply spl'|refine iJ ?_)<;>intro hc<;>try(exfalso;omega)|refine vcq ?_|refine dr 20 ?_|refine dr 9 ?_|refine dr 18 ?_|refine dr 7 ?_|refine dr 14 ?_));all_goals(try conv=>whnf);try exact trivial
    ·rename_i q1 q2
     have hfit:FitX h r x.toNat:=hFit.2 fun a b=>a1E fun u=>q1 ⟨⟨a,b⟩,u⟩
     have h9:c.k=9:=a0T.1 q2
     refine⟨_,rfl,?_⟩
     refine⟨fun q=>?_,trivial⟩
     obtain⟨im,ims',e,hp,_⟩:=(hxy h9 hfit).1 q
     have hfl:f<ims.length:=a1E fun u=>by
      rw[List.drop_eq_nil_of_le (by omega)] at e
      cases e
     rw[a2R hfl,a1Q] at e
     cases e
     rcases hc with u|u
     ·omega
     ·refine u ?_
      rw[a1N,a0A,a0D hfl]
      have:=hp.1
      rw[tol_len] at this
      exact this
    ·rename_i q1 q2
     have hfit:FitX h r x.toNat:=hFit.2 fun a b=>a1E fun u=>q1 ⟨⟨a,b⟩,u⟩
     have h9:c.k=9:=a0T.1 q2
     have hfl:f<ims.length:=by omega
     have hxy:=hxy h9 hfit
     rw[a2R hfl,a1Q] at hxy
     obtain⟨im,hime⟩:∃im,ims.getD f ie0=im:=⟨_,rfl⟩
     have hime2:ims[f]=im:=by rw[←hime,a0A,a0D hfl];rfl
     have himl:=him im (by rw[←hime2];exact a1F hfl)
     rw[hime2] at hxy
     have hf0:((f:Nat):Int).toNat=f:=by omega
     rw[hf0,hime] at hc
     have hlen:(im.1:Int)=h.n:=by omega
     clear hc hrx hrc hcx hdo hnx hxn hxf hFit q1 q2
     have hidl:=idxL_len r.O (tol im)
     have htl:=tol_len im
     have h7:∀b,b≤h.nn→(idxL r.O (tol im) b).length≤14:=fun b hb=>by
      have a1:=hidl b
      have a2:b*(r.O.length+1)≤2*(r.O.length+1):=a0G _ (by omega)
      omega
     refine⟨Nat,fun b=>b≤h.nn,fun b=>h.nn-b,fun b=>[(12,.int .i64 (b:Nat)),(11,.osl 3 (idxL r.O (tol im) b).length)]++anyS 13 156,fun _=>[],fun b=>[.row 3 1 (idxL r.O (tol im) b).length (a0u intC 0 (idxL r.O (tol im) b)) true],0,⟨a2A _,some [some 0,some 1,some 2,none],?_⟩,?_⟩
     ·(repeat' ((conv=>whnf);first|(with_reducible first|apply spl|apply spl'|refine iJ ?_)<;>intro hc<;>try(exfalso;omega)|refine vcq ?_|refine dr 20 ?_|refine dr 9 ?_|refine dr 18 ?_|refine dr 7 ?_|refine dr 14 ?_));all_goals(try conv=>whnf);try exact trivial
     ·intro b hb
      have hb:b≤h.nn:=hb
      have hb0:((b:Nat):Int).toNat=b:=by omega
      have h7b:=h7 b hb
      (repeat' ((conv=>whnf);first|(with_reducible first|apply spl|apply spl'|refine iJ ?_)<;>intro hc<;>try(exfalso;omega)|refine vcq ?_|refine dr 20 ?_|refine dr 9 ?_|refine dr 18 ?_|refine dr 7 ?_|refine dr 14 ?_));all_goals(try conv=>whnf);try exact trivial
      ·have hbn:b<h.nn:=by omega
       rw[hf0,hime]
       refine⟨⟨by omega,by omega⟩,?_⟩
       (repeat' ((conv=>whnf);first|(with_reducible first|apply spl|apply spl'|refine iJ ?_)<;>intro hc<;>try(exfalso;omega)|refine vcq ?_|refine dr 20 ?_|refine dr 9 ?_|refine dr 18 ?_|refine dr 7 ?_|refine dr 14 ?_));all_goals(try conv=>whnf);try exact trivial
       rw[hb0]
       have htg:=tol_get im (b:=b) (by omega)
       have h7s:=h7 (b+1) (by omega)
       rw[idxL_succ] at h7s
       have hsuc:=idxL_succ r.O (tol im) b
       rw[htg] at hsuc h7s
       clear htg
       generalize im.2 b=n at *
       have hpl:=fun k (hk:k≤r.O.length)=>pos1_len r.O n k
       have hpart:part r.O n=pos1 r.O n r.O.length++if n=-1∨n=-2 then [n] else []:=rfl
       refine⟨Nat,fun k=>k≤r.O.length,fun k=>r.O.length-k,fun k=>[(14,.int .i64 (k:Nat)),(11,.osl 3 (idxL r.O (tol im) b++pos1 r.O n k).length)]++anyS 95 74,fun k=>[(3,.row 3 1 (idxL r.O (tol im) b++pos1 r.O n k).length (a0u intC 0 (idxL r.O (tol im) b++pos1 r.O n k)) true)],fun _=>[],0,⟨a2A _,some [some 0,some 1,some 2,some 3],?_⟩,?_⟩
       ·have e:idxL r.O (tol im) b++pos1 r.O n 0=idxL r.O (tol im) b:=List.append_nil _
        dsimp only
        rw[e]
        (repeat' ((conv=>whnf);first|(with_reducible first|apply spl|apply spl'|refine iJ ?_)<;>intro hc<;>try(exfalso;omega)|refine vcq ?_|refine dr 20 ?_|refine dr 9 ?_|refine dr 18 ?_|refine dr 7 ?_|refine dr 14 ?_));all_goals(try conv=>whnf);try exact trivial
       ·intro k hk
        have hk:k≤r.O.length:=hk
        have hk0:((k:Nat):Int).toNat=k:=by omega
        have hpk:=hpl k hk
        have hql:(idxL r.O (tol im) b++pos1 r.O n k).length≤30:=by rw[a0F];omega
        have hio:=fun hk:k<r.O.length=>iL_get r.O hk
        (repeat' ((conv=>whnf);first|(with_reducible first|apply spl|apply spl'|refine iJ ?_)<;>intro hc<;>try(exfalso;omega)|refine vcq ?_|refine dr 20 ?_|refine dr 9 ?_|refine dr 18 ?_|refine dr 7 ?_|refine dr 14 ?_));all_goals(try conv=>whnf);try exact trivial
        all_goals try rw[hk0] at hc
        ·have hkl:k<r.O.length:=by omega
         rw[hio hkl] at hc
         have e:idxL r.O (tol im) b++pos1 r.O n (k+1)=(idxL r.O (tol im) b++pos1 r.O n k)++[(k:Int)]:=by rw[pos1_yes hc,a2D]
         generalize idxL r.O (tol im) b++pos1 r.O n k=X at *
         refine⟨k+1,⟨by omega,by dsimp only;omega⟩,some [some 0,some 1,some 2,some 5],?_⟩
         dsimp only
         rw[e]
         (repeat' ((conv=>whnf);first|(with_reducible first|apply spl|apply spl'|refine iJ ?_)<;>intro hc<;>try(exfalso;omega)|refine vcq ?_|refine dr 20 ?_|refine dr 9 ?_|refine dr 18 ?_|refine dr 7 ?_|refine dr 14 ?_));all_goals(try conv=>whnf);try exact trivial
         refine⟨by rw[a0F,a1A],?_⟩
         (repeat' ((conv=>whnf);first|(with_reducible first|apply spl|apply spl'|refine iJ ?_)<;>intro hc<;>try(exfalso;omega)|refine vcq ?_|refine dr 20 ?_|refine dr 9 ?_|refine dr 18 ?_|refine dr 7 ?_|refine dr 14 ?_));all_goals(try conv=>whnf);try exact trivial
         refine⟨by rw[a0F,a1A],a2d (c:=intC) (a:=(k:Int)) (l:=X) rfl (fun _ _=>rfl),?_⟩
         (repeat' ((conv=>whnf);first|(with_reducible first|apply spl|apply spl'|refine iJ ?_)<;>intro hc<;>try(exfalso;omega)|refine vcq ?_|refine dr 20 ?_|refine dr 9 ?_|refine dr 18 ?_|refine dr 7 ?_|refine dr 14 ?_));all_goals(try conv=>whnf);try exact trivial
        ·have hkl:k<r.O.length:=by omega
         rw[hio hkl] at hc
         have e:idxL r.O (tol im) b++pos1 r.O n (k+1)=idxL r.O (tol im) b++pos1 r.O n k:=by rw[pos1_no hc]
         refine⟨k+1,⟨by omega,by dsimp only;omega⟩,some [some 0,some 1,some 2,some 3],?_⟩
         dsimp only
         rw[e]
         (repeat' ((conv=>whnf);first|(with_reducible first|apply spl|apply spl'|refine iJ ?_)<;>intro hc<;>try(exfalso;omega)|refine vcq ?_|refine dr 20 ?_|refine dr 9 ?_|refine dr 18 ?_|refine dr 7 ?_|refine dr 14 ?_));all_goals(try conv=>whnf);try exact trivial
        ·have hke:k=r.O.length:=by omega
         subst hke
         rw[if_pos (show n=-1∨n=-2 by assumption)] at hpart
         have e:idxL r.O (tol im) (b+1)=(idxL r.O (tol im) b++pos1 r.O n r.O.length)++[n]:=by rw[hsuc,hpart,a2D]
         generalize idxL r.O (tol im) b++pos1 r.O n r.O.length=X at *
         refine⟨b+1,⟨by omega,by dsimp only;omega⟩,some [some 0,some 1,some 2,some 5],?_⟩
         dsimp only
         rw[e]
         (repeat' ((conv=>whnf);first|(with_reducible first|apply spl|apply spl'|refine iJ ?_)<;>intro hc<;>try(exfalso;omega)|refine vcq ?_|refine dr 20 ?_|refine dr 9 ?_|refine dr 18 ?_|refine dr 7 ?_|refine dr 14 ?_));all_goals(try conv=>whnf);try exact trivial
         refine⟨by rw[a0F,a1A],?_⟩
         (repeat' ((conv=>whnf);first|(with_reducible first|apply spl|apply spl'|refine iJ ?_)<;>intro hc<;>try(exfalso;omega)|refine vcq ?_|refine dr 20 ?_|refine dr 9 ?_|refine dr 18 ?_|refine dr 7 ?_|refine dr 14 ?_));all_goals(try conv=>whnf);try exact trivial
         refine⟨by rw[a0F,a1A],a2d (c:=intC) (a:=n) (l:=X) rfl (fun _ _=>rfl),?_⟩
         (repeat' ((conv=>whnf);first|(with_reducible first|apply spl|apply spl'|refine iJ ?_)<;>intro hc<;>try(exfalso;omega)|refine vcq ?_|refine dr 20 ?_|refine dr 9 ?_|refine dr 18 ?_|refine dr 7 ?_|refine dr 14 ?_));all_goals(try conv=>whnf);try exact trivial
        ·have hke:k=r.O.length:=by omega
         subst hke
         rw[if_neg (show ¬(n=-1∨n=-2) by assumption),List.append_nil] at hpart
         have e:idxL r.O (tol im) (b+1)=idxL r.O (tol im) b++pos1 r.O n r.O.length:=by rw[hsuc,hpart]
         refine⟨b+1,⟨by omega,by dsimp only;omega⟩,some [some 0,some 1,some 2,some 3],?_⟩
         dsimp only
         rw[e]
         (repeat' ((conv=>whnf);first|(with_reducible first|apply spl|apply spl'|refine iJ ?_)<;>intro hc<;>try(exfalso;omega)|refine vcq ?_|refine dr 20 ?_|refine dr 9 ?_|refine dr 18 ?_|refine dr 7 ?_|refine dr 14 ?_));all_goals(try conv=>whnf);try exact trivial
      ·have hbe:b=h.nn:=by omega
       subst hbe
       have hco:=hr.cache g
       have hck:(h.cache r.O).chk=0:=if_pos hco
       have hP:=Possible27 (h.cache r.O) (by rw[show(h.cache r.O).l.length=r.O.length from a2M ..];omega) (fun _=>hr.small g h2 h6) (idxL r.O (tol im) h.nn) (by omega)
       have hfX:fX h r (tol im)=fun b=>(idxL r.O (tol im) h.nn).getD b 0:=rfl
       have hpx:PossX h r (tol im)↔IsImg (h.cache r.O) (idxL r.O (tol im) h.nn)∧IsPos (h.cache r.O) (idxL r.O (tol im) h.nn):=⟨fun q=>q.2,fun q=>⟨by rw[htl];exact hlen,q⟩⟩
       have hpos:=fun(q:PossX h r (tol im))=>q.pos g
       generalize idxL r.O (tol im) h.nn=X at *
       obtain⟨e,he,hP⟩:=possU hck hP
       generalize hpp:(IsImg (h.cache r.O) X∧IsPos (h.cache r.O) X)=pp at *
       refine callee_view hP ?_
       (repeat' ((conv=>whnf);first|(with_reducible first|apply spl|apply spl'|refine iJ ?_)<;>intro hc<;>try(exfalso;omega)|refine vcq ?_|refine dr 20 ?_|refine dr 9 ?_|refine dr 18 ?_|refine dr 7 ?_|refine dr 14 ?_));all_goals(try conv=>whnf);try exact trivial
       rintro _ rfl
       (repeat' ((conv=>whnf);first|(with_reducible first|apply spl|apply spl'|refine iJ ?_)<;>intro hc<;>try(exfalso;omega)|refine vcq ?_|refine dr 20 ?_|refine dr 9 ?_|refine dr 18 ?_|refine dr 7 ?_|refine dr 14 ?_));all_goals(try conv=>whnf);try exact trivial
       ·refine⟨_,rfl,?_⟩
        refine⟨fun q=>?_,trivial⟩
        obtain⟨im1,ims1,e1,hp,_⟩:=hxy.1 q
        cases e1
        have:=hpx.1 hp
        exact hc.elim (fun u=>u (he this)) (fun u=>u this)
       ·have hpp2:pp:=a1E fun u=>hc (.inr u)
        obtain⟨hXl,cc,hp1,hp2⟩:=hpos (hpx.2 hpp2)
        have hw:=hfw h9 _ cc hp1 hp2
        have hp3:=PosI.lo g hr hp1 hp2
        have hxy2:isx h (RT.begin h) o (ims.map tol)↔isx h (r.fall h x.toNat (fX h r (tol im))) (o.drop (i+1)) ((ims.drop (f+1)).map tol):=hxy.trans ⟨fun q=>by
         obtain⟨im1,ims1,e1,_,q⟩:=q
         cases e1
         exact q,fun q=>⟨tol im,_,rfl,hpx.2 hpp2,q⟩⟩
        have hfa:=rfall54 h (by omega) hnn.1.symm hnn.2.2 r (hr.olt g) (by omega) (by omega) hkl x.toNat (by omega) (fX h r (tol im)) hp3
        rw[show((x.toNat:Nat):Int)=x by omega,hfX,←hXl] at hfa
        rw[hfX] at hw hxy2
        generalize r.fall h x.toNat (fun b=>X.getD b 0)=rf at *
        clear hxy hfw hpos hpx hP hp1 hp2 hp3 h7 hidl hc
        rw[hxe']
        refine callee_view hfa ?_
        (repeat' ((conv=>whnf);first|(with_reducible first|apply spl|apply spl'|refine iJ ?_)<;>intro hc<;>try(exfalso;omega)|refine vcq ?_|refine dr 20 ?_|refine dr 9 ?_|refine dr 18 ?_|refine dr 7 ?_|refine dr 14 ?_));all_goals(try conv=>whnf);try exact trivial
        rintro _ rfl
        (repeat' ((conv=>whnf);first|(with_reducible first|apply spl|apply spl'|refine iJ ?_)<;>intro hc<;>try(exfalso;omega)|refine vcq ?_|refine dr 20 ?_|refine dr 9 ?_|refine dr 18 ?_|refine dr 7 ?_|refine dr 14 ?_));all_goals(try conv=>whnf);try exact trivial
        refine⟨(i+1,f+1,rf),⟨⟨⟨by dsimp only;omega,by dsimp only;omega⟩,hw,hxy2⟩,by dsimp only;omega⟩,some [some 0,some 1],?_⟩
        (repeat' ((conv=>whnf);first|(with_reducible first|apply spl|apply spl'|refine iJ ?_)<;>intro hc<;>try(exfalso;omega)|refine vcq ?_|refine dr 20 ?_|refine dr 9 ?_|refine dr 18 ?_|refine dr 7 ?_|refine dr 14 ?_));all_goals(try conv=>whnf);try exact trivial
  ·have hie:i=o.length:=by dsimp only at hc;omega
   subst hie
   rw[List.drop_length] at hx
   dsimp only
   refine a0d (whole55 h (by omega) r.d (by omega)) rfl ?_
   rintro _ rfl
   (repeat' ((conv=>whnf);first|(with_reducible first|apply spl|apply spl'|refine iJ ?_)<;>intro hc<;>try(exfalso;omega)|refine vcq ?_|refine dr 20 ?_|refine dr 9 ?_|refine dr 18 ?_|refine dr 7 ?_|refine dr 14 ?_));all_goals(try conv=>whnf);try exact trivial
   refine⟨_,rfl,?_⟩
   refine⟨?_,trivial⟩
   rw[hx]
   refine and_congr a1R ?_
   rw[List.map_eq_nil_iff,List.drop_eq_nil_iff]
   omega
end Ho
end Go.Proofs
namespace Go.Proofs
open Go Go.Sx
set_option maxRecDepth 100000
set_option maxHeartbeats 4000000
namespace Ho
variable {h:Hist}
theorem pos1_neg {O:List Nat} {n:Int} (hn:n<0):∀k,pos1 O n k=[]
 |0=>rfl
 |k+1=>by rw[pos1_no (by omega),pos1_neg hn k]
theorem getD_inj {O:List Nat} (hd:O.Nodup) {a b:Nat} (ha:a<O.length) (hb:b<O.length) (e:O.getD a 0=O.getD b 0):a=b:=by
 rw[a0A,a0A,a0D ha,a0D hb] at e
 have e:O[a]=O[b]:=e
 rcases Nat.lt_trichotomy a b with q|q|q
 ·exact absurd e (a2C.1 hd a b ha hb q)
 ·exact q
 ·exact absurd e.symm (a2C.1 hd b a hb ha q)
theorem pos1_one {O:List Nat} (hd:O.Nodup) {q:Nat} (hq:q<O.length):∀k,k≤O.length→pos1 O (O.getD q 0:Nat) k=if q<k then [(q:Int)] else []
 |0,_=>by simp[pos1]
 |k+1,hk=>by
  have ih:=pos1_one hd hq k (by omega)
  by_cases e:k=q
  ·subst e
   rw[pos1_yes rfl,ih,if_neg (Nat.lt_irrefl _),if_pos (Nat.lt_succ_self _)]
   rfl
  ·rw[pos1_no (fun u=>e (getD_inj hd (by omega) hq (by omega))),ih]
   by_cases h2:q<k
   ·rw[if_pos h2,if_pos (by omega)]
   ·rw[if_neg h2,if_neg (by omega)]
theorem part_num {O:List Nat} (hd:O.Nodup) {v:Int} (hv:v=-1∨v=-2∨∃q:Nat,q<O.length∧v=q):part O (num O v)=[v]:=by
 unfold part num
 rcases hv with rfl|rfl|⟨q,hq,rfl⟩
 ·rw[if_pos (by omega),pos1_neg (by omega)];rfl
 ·rw[if_pos (by omega),pos1_neg (by omega)];rfl
 ·rw[if_neg (by omega),a1N,pos1_one hd hq _ (a0U _),if_pos hq,if_neg (by omega)]
  rfl
theorem poss_of (gh:h.Ok) {r:RT} (g:RW h r) {c:C6} (hp:PosN h r.O c):PossX h r (C6.first c h.nn)∧(r.fall h 0 (fX h r (C6.first c h.nn))).K=h.keep r.K (C6.first c h.nn)∧∃c0,PosI (h.cache r.O) c0∧Fits h.nn (fX h r (C6.first c h.nn)) c0:=by
 have hc:=g.cache gh
 have h6:=gh.nn
 have hl:(h.cache r.O).l.length=r.O.length:=a2M ..
 obtain⟨c0,hp0,rfl⟩:=(posN_iff hc c).1 hp
 have hv:∀b,b<h.nn→c0.get b=-1∨c0.get b=-2∨∃q:Nat,q<r.O.length∧c0.get b=q:=by
  intro b hb
  rcases hp0.holds hc (show b<6 by omega) with q|q|⟨q,h1,q2,_⟩
  ·exact .inr (.inl q)
  ·exact .inl q
  ·exact .inr (.inr ⟨q,by omega,q2⟩)
 have hat:∀b,b<h.nn→(C6.first (c0.ren (num r.O)) h.nn).getD b 0=num r.O (c0.get b):=by
  intro b hb
  unfold C6.first
  simp[a0A,hb]
  exact C6.ren_get _ _ (by omega)
 have hidx:∀k,k≤h.nn→idxL r.O (C6.first (c0.ren (num r.O)) h.nn) k=(List.range k).map c0.get:=by
  intro k
  induction k with
  |zero=>intro _;rfl
  |succ k ih=>
   intro hk
   rw[idxL_succ,ih (by omega),hat k (by omega),part_num (g.ond gh) (hv k (by omega)),List.range_succ,a1L]
   rfl
 have hX:=hidx h.nn (a0U _)
 have hgx:∀b,b<h.nn→((List.range h.nn).map c0.get).getD b 0=c0.get b:=by
  intro b hb
  simp[a0A,hb]
 have hfit:Fits h.nn (fX h r (C6.first (c0.ren (num r.O)) h.nn)) c0:=by
  intro b hb
  unfold fX
  rw[hX,hgx b hb]
 refine⟨⟨?_,⟨?_,fun b hb=>?_⟩,c0,hp0,fun b hb=>?_⟩,?_,c0,hp0,hfit⟩
 ·unfold C6.first
  rw[a2M,List.length_range]
  exact h6.1
 ·rw[hX,a2M,List.length_range]
  exact h6.1
 ·rw[hX,a2M,List.length_range] at hb
  rw[hX,hgx b hb]
  rcases hp0.holds hc (show b<6 by omega) with q|q|⟨q,h1,q2,h3,h4⟩
  ·exact .inr (.inl q)
  ·exact .inl q
  ·refine .inr (.inr ?_)
   rw[q2,a1N]
   exact⟨by omega,h3,h4⟩
 ·rw[hX,a2M,List.length_range] at hb
  rw[hX,hgx b hb]
 ·unfold RT.fall Hist.keep
  apply List.map_congr_left
  intro b hb
  rw[a1D] at hb
  have h2:-2≤fX h r (C6.first (c0.ren (num r.O)) h.nn) b:=by
   rw[hfit b hb]
   rcases hv b hb with q|q|⟨q,_,q⟩<;>omega
  rw[kf_keep r h2,hfit b hb,hat b hb]
def ordS:SR→List Int
 |.root=>[]
 |.node _ b cmd _=>ordS b++[(cmd:Int)]
def imsS (h:Hist):SR→List (List Int)
 |.root=>[]
 |.node _ b _ im=>imsS h b++(match im with|none=>[]|some c=>[C6.first c h.nn])
def rtS (h:Hist):SR→RT
 |.root=>RT.begin h
 |.node _ b cmd im=>(match im with|none=>(rtS h b).doO h cmd|some c=>(rtS h b).fall h cmd (fX h (rtS h b) (C6.first c h.nn)))
theorem rtS_ok (gh:h.Ok):∀{r:SR},r.Good h→(rtS h r).st=r.st h∧RW h (rtS h r)∧∀o ims,isx h (rtS h r) o ims→isx h (RT.begin h) (ordS r++o) (imsS h r++ims)
 |.root,_=>⟨rfl,RW.begin h,fun _ _ hx=>hx⟩
 |.node s b cmd im,hr=>by
  obtain⟨hb,hc,hm,hs⟩:=hr
  obtain⟨e,g,hx⟩:=rtS_ok gh hb
  have eO:(rtS h b).O=(b.st h).O:=congrArg St.O e
  have hmd:MayD h (rtS h b).d cmd:=mayD_iff.2 (by
   have eD:bitsL (rtS h b).d=(b.st h).D:=congrArg St.D e
   rw[eD];exact hm)
  rcases hs with⟨h9,rfl,hf,rfl⟩|⟨h9,c,rfl,hp,rfl⟩
  ·have hfx:FitX h (rtS h b) cmd:=fun k10 _=>by rw[e];exact(hf k10).2
   refine⟨?_,g.doO hc hmd h9 hfx,fun o ims hy=>?_⟩
   ·change ((rtS h b).doO h cmd).st=_
    rw[do_st,e]
    rfl
   ·have:=hx ((cmd:Int) :: o) ims ⟨⟨by omega,by omega⟩,by rw[a1N];exact hmd,by rw[a1N];exact hfx,.inl ⟨by rw[a1N];exact h9,by rw[a1N];exact hy⟩⟩
    unfold ordS imsS
    rw[a2D,List.append_nil]
    exact this
  ·rw[←eO] at hp
   obtain⟨hpx,hk,c0,hp0,hfit⟩:=poss_of gh g hp
   refine⟨?_,g.fall gh hc hmd h9 hp0 hfit,fun o ims hy=>?_⟩
   ·refine St.ext' ?_ rfl ?_
    ·change bitsL ((rtS h b).d++[cmd])=_
     rw[bitsL_snoc]
     have eD:bitsL (rtS h b).d=(b.st h).D:=congrArg St.D e
     rw[eD]
     rfl
    ·change ((rtS h b).fall h 0 _).K=_
     rw[hk]
     have eK:(rtS h b).K=(b.st h).K:=congrArg St.K e
     rw[eK]
     rfl
   ·have:=hx ((cmd:Int) :: o) (C6.first c h.nn :: ims) ⟨⟨by omega,by omega⟩,by rw[a1N];exact hmd,fun k10=>by rw[a1N] at k10;omega,.inr ⟨by rw[a1N];exact h9,_,_,rfl,hpx,by rw[a1N];exact hy⟩⟩
    unfold ordS imsS
    rw[a2D,a2D]
    exact this
theorem isx_of (gh:h.Ok) {r:SR} (hr:r.Good h) (hw:h.Whole (r.st h)):isx h (RT.begin h) (ordS r) (imsS h r):=by
 obtain⟨e,_,hx⟩:=rtS_ok gh hr
 have:=hx [] [] ⟨wholeD_iff.2 (by rw[e];exact hw),rfl⟩
 rwa [List.append_nil,List.append_nil] at this
end Ho
end Go.Proofs
namespace Go.Proofs
open Go Go.Sx
set_option maxRecDepth 100000
set_option maxHeartbeats 40000000
namespace Ho
def revF {α:Type} (n i:Nat) (F:Nat→α) (k:Nat):α:=if k<i∨n≤k+i then F (n-1-k) else F k
theorem revF_step {α:Type} (F:Nat→α) {n i k:Nat} (hi:i<n-1-i) (hk:k<n):revF n (i+1) F k=if k=n-1-i then revF n i F i else if k=i then revF n i F (n-1-i) else revF n i F k:=by
 unfold revF
 by_cases a:k=n-1-i
 ·rw[if_pos a,if_pos (by omega),if_neg (by omega)]
  congr 1
  omega
 ·rw[if_neg a]
  by_cases b:k=i
  ·rw[if_pos b,if_pos (by omega),if_neg (by omega),b]
  ·rw[if_neg b]
   by_cases c:k<i∨n≤k+i
   ·rw[if_pos (by omega),if_pos c]
   ·rw[if_neg (by omega),if_neg c]
theorem revF_end {α:Type} (F:Nat→α) {n i k:Nat} (hi:¬i<n-1-i) (h2:2*i≤n+1) (hk:k<n):revF n i F k=revF n n F k:=by
 unfold revF
 rw[if_pos (show k<n∨n≤k+n by omega)]
 by_cases c:k<i∨n≤k+i
 ·rw[if_pos c]
 ·rw[if_neg c]
  congr 1
  omega
theorem rev65 (n:Nat) (hn:n≤1000000) (F:Nat→Int):Sx.Callee Tryz.prog 65 [.osl 0 n] [.row 3 1 n (fun k=>[.int .i64 (F k)]) true] (fun v H=>v=.tup []∧H=[.row 3 1 n (fun k=>[.int .i64 (revF n n F k)]) true]):=by
 refine callee_ent Tryz.E_ok Tryz.func65 rfl (by kernel_rfl) ?_
 (repeat' ((conv=>whnf);first|(with_reducible first|apply spl|apply spl'|refine iJ ?_)<;>intro hc<;>try(exfalso;omega)|refine vcq ?_|refine dr 2013 ?_));all_goals(try conv=>whnf);try exact trivial
 refine⟨Nat,fun i=>2*i≤n+1,fun i=>n-i,fun i=>[(2,.int .i64 (i:Nat)),(3,.int .i64 ((n:Int)-1-i))],fun i=>[(0,.row 3 1 n (fun k=>[.int .i64 (revF n i F k)]) true)],fun _=>[],0,⟨by omega,some [some 0],?_⟩,?_⟩
 ·(repeat' ((conv=>whnf);first|(with_reducible first|apply spl|apply spl'|refine iJ ?_)<;>intro hc<;>try(exfalso;omega)|refine vcq ?_|refine dr 2013 ?_));all_goals(try conv=>whnf);try exact trivial
  refine⟨fun k hk=>?_,?_⟩
  ·unfold revF
   dsimp only
   rw[if_neg (by omega)]
  ·(repeat' ((conv=>whnf);first|(with_reducible first|apply spl|apply spl'|refine iJ ?_)<;>intro hc<;>try(exfalso;omega)|refine vcq ?_|refine dr 2013 ?_));all_goals(try conv=>whnf);try exact trivial
 ·intro i hi
  have hi:2*i≤n+1:=hi
  have hi0:((i:Nat):Int).toNat=i:=by omega
  (repeat' ((conv=>whnf);first|(with_reducible first|apply spl|apply spl'|refine iJ ?_)<;>intro hc<;>try(exfalso;omega)|refine vcq ?_|refine dr 2013 ?_));all_goals(try conv=>whnf);try exact trivial
  ·have hj0:((n:Int)-1-i).toNat=n-1-i:=by omega
   refine⟨i+1,⟨by omega,by dsimp only;omega⟩,some [some 0],?_⟩
   (repeat' ((conv=>whnf);first|(with_reducible first|apply spl|apply spl'|refine iJ ?_)<;>intro hc<;>try(exfalso;omega)|refine vcq ?_|refine dr 2013 ?_));all_goals(try conv=>whnf);try exact trivial
   refine⟨fun k hk=>?_,?_⟩
   ·dsimp only
    rw[revF_step F (by omega) hk,hj0,hi0]
    by_cases a:k=n-1-i
    ·rw[a2u a,if_pos a]
     by_cases b:k=i
     ·rw[a2u b];rfl
     ·rw[a2a b];rfl
    ·rw[a2a a,if_neg a]
     by_cases b:k=i
     ·rw[a2u b,if_pos b];rfl
     ·rw[a2a b,if_neg b]
   ·(repeat' ((conv=>whnf);first|(with_reducible first|apply spl|apply spl'|refine iJ ?_)<;>intro hc<;>try(exfalso;omega)|refine vcq ?_|refine dr 2013 ?_));all_goals(try conv=>whnf);try exact trivial
  ·refine⟨_,_,⟨rfl,rfl⟩,some [some 0],?_⟩
   (repeat' ((conv=>whnf);first|(with_reducible first|apply spl|apply spl'|refine iJ ?_)<;>intro hc<;>try(exfalso;omega)|refine vcq ?_|refine dr 2013 ?_));all_goals(try conv=>whnf);try exact trivial
   refine⟨fun k hk=>?_,?_⟩
   ·dsimp only
    rw[revF_end F (by omega) hi hk]
   ·(repeat' ((conv=>whnf);first|(with_reducible first|apply spl|apply spl'|refine iJ ?_)<;>intro hc<;>try(exfalso;omega)|refine vcq ?_|refine dr 2013 ?_));all_goals(try conv=>whnf);try exact trivial
theorem rev66 (n:Nat) (hn:n≤1000000) (F:Nat→Nat×(Nat→Int)):Sx.Callee Tryz.prog 66 [.osl 0 n] [.row 38 1 n (fun k=>[.sl 1 (F k).1 (iF (F k).2)]) true] (fun v H=>v=.tup []∧H=[.row 38 1 n (fun k=>[.sl 1 (revF n n F k).1 (iF (revF n n F k).2)]) true]):=by
 refine callee_ent Tryz.E_ok Tryz.func66 rfl (by kernel_rfl) ?_
 (repeat' ((conv=>whnf);first|(with_reducible first|apply spl|apply spl'|refine iJ ?_)<;>intro hc<;>try(exfalso;omega)|refine vcq ?_|refine dr 2013 ?_));all_goals(try conv=>whnf);try exact trivial
 refine⟨Nat,fun i=>2*i≤n+1,fun i=>n-i,fun i=>[(2,.int .i64 (i:Nat)),(3,.int .i64 ((n:Int)-1-i))],fun i=>[(0,.row 38 1 n (fun k=>[.sl 1 (revF n i F k).1 (iF (revF n i F k).2)]) true)],fun _=>[],0,⟨by omega,some [some 0],?_⟩,?_⟩
 ·(repeat' ((conv=>whnf);first|(with_reducible first|apply spl|apply spl'|refine iJ ?_)<;>intro hc<;>try(exfalso;omega)|refine vcq ?_|refine dr 2013 ?_));all_goals(try conv=>whnf);try exact trivial
  refine⟨fun k hk=>?_,?_⟩
  ·unfold revF
   dsimp only
   rw[if_neg (by omega)]
  ·(repeat' ((conv=>whnf);first|(with_reducible first|apply spl|apply spl'|refine iJ ?_)<;>intro hc<;>try(exfalso;omega)|refine vcq ?_|refine dr 2013 ?_));all_goals(try conv=>whnf);try exact trivial
 ·intro i hi
  have hi:2*i≤n+1:=hi
  have hi0:((i:Nat):Int).toNat=i:=by omega
  (repeat' ((conv=>whnf);first|(with_reducible first|apply spl|apply spl'|refine iJ ?_)<;>intro hc<;>try(exfalso;omega)|refine vcq ?_|refine dr 2013 ?_));all_goals(try conv=>whnf);try exact trivial
  ·have hj0:((n:Int)-1-i).toNat=n-1-i:=by omega
   refine⟨i+1,⟨by omega,by dsimp only;omega⟩,some [some 0],?_⟩
   (repeat' ((conv=>whnf);first|(with_reducible first|apply spl|apply spl'|refine iJ ?_)<;>intro hc<;>try(exfalso;omega)|refine vcq ?_|refine dr 2013 ?_));all_goals(try conv=>whnf);try exact trivial
   refine⟨fun k hk=>?_,?_⟩
   ·dsimp only
    rw[revF_step F (by omega) hk,hj0,hi0]
    by_cases a:k=n-1-i
    ·rw[a2u a,if_pos a]
     by_cases b:k=i
     ·rw[a2u b];rfl
     ·rw[a2a b];rfl
    ·rw[a2a a,if_neg a]
     by_cases b:k=i
     ·rw[a2u b,if_pos b];rfl
     ·rw[a2a b,if_neg b]
   ·(repeat' ((conv=>whnf);first|(with_reducible first|apply spl|apply spl'|refine iJ ?_)<;>intro hc<;>try(exfalso;omega)|refine vcq ?_|refine dr 2013 ?_));all_goals(try conv=>whnf);try exact trivial
  ·refine⟨_,_,⟨rfl,rfl⟩,some [some 0],?_⟩
   (repeat' ((conv=>whnf);first|(with_reducible first|apply spl|apply spl'|refine iJ ?_)<;>intro hc<;>try(exfalso;omega)|refine vcq ?_|refine dr 2013 ?_));all_goals(try conv=>whnf);try exact trivial
   refine⟨fun k hk=>?_,?_⟩
   ·dsimp only
    rw[revF_end F (by omega) hi hk]
   ·(repeat' ((conv=>whnf);first|(with_reducible first|apply spl|apply spl'|refine iJ ?_)<;>intro hc<;>try(exfalso;omega)|refine vcq ?_|refine dr 2013 ?_));all_goals(try conv=>whnf);try exact trivial
def dep:SR→Nat
 |.root=>0
 |.node _ b _ _=>dep b+1
noncomputable def imsE (h:Hist):SR→List IE
 |.root=>[]
 |.node _ b _ im=>imsE h b++(match im with|none=>[]|some c=>[(h.nn,c.get)])
theorem imsE_tol (h:Hist):∀r:SR,(imsE h r).map tol=imsS h r
 |.root=>rfl
 |.node _ b _ none=>by
  unfold imsE imsS
  rw[a1L,imsE_tol h b]
  rfl
 |.node _ b _ (some c)=>by
  unfold imsE imsS
  rw[a1L,imsE_tol h b]
  rfl
theorem rtS_len (h:Hist):∀r:SR,(rtS h r).d.length=dep r
 |.root=>rfl
 |.node _ b cmd none=>by
  change ((rtS h b).d++[cmd]).length=_
  rw[a0F,rtS_len h b]
  rfl
 |.node _ b cmd (some c)=>by
  change ((rtS h b).d++[cmd]).length=_
  rw[a0F,rtS_len h b]
  rfl
theorem ordS_len:∀r:SR,(ordS r).length=dep r
 |.root=>rfl
 |.node _ b cmd im=>by
  unfold ordS dep
  rw[a0F,ordS_len b]
  rfl
theorem dep_le {h:Hist} (g:h.Ok) {r:SR} (hr:r.Good h):dep r≤h.l.length:=by
 rw[←rtS_len h r]
 exact(rtS_ok g hr).2.1.dlen
theorem rev_get {α:Type} (l:List α) (d:α) {k:Nat} (hk:k<l.length):l.getD (l.length-1-k) d=l.reverse.getD k d:=by
 simp[a0A,List.getElem?_reverse hk]
theorem explain30 (h:Hist) (hf:h.Near):a0q Tryz.prog 30 true [h.w] (fun v=>(¬h.Ok→v=.tup [.lit (.slice none 0 0),.lit (.slice none 0 0),.int .i64 170])∧(h.Ok→(¬h.Legal→v=.tup [.lit (.slice none 0 0),.lit (.slice none 0 0),.int .i64 3])∧(h.Legal→∃r:SR,r.Good h∧h.Whole (r.st h)∧v=.tup [.sl 1 (ordS r).length (a0u intC 0 (ordS r)),.sl 1 (imsE h r).length (a0u lC ie0 (imsE h r)),.int .i64 0]))):=by
 have h40:=hf.1
 refine a0c Tryz.E_ok Tryz.func30 rfl (by kernel_rfl) ?_
 refine x25 ?_
 refine a0d (Check22 h (by omega)) rfl ?_
 rintro _ rfl
 by_cases g:h.Ok
 rotate_left
 ·have e:h.chk=170:=if_neg g
  rw[e]
  refine x25 (fun hc=>?_)
  refine⟨_,⟨fun _=>rfl,fun q=>absurd q g⟩,?_⟩
  exact xc20
 ·obtain⟨h2,h6⟩:=hf.2 g
  rw[Hist.chk_of g]
  refine x25 (fun hc=>?_)
  refine a0d (ends23 sortIm h g h2 h6) rfl ?_
  rintro _ ⟨L,hL,rfl⟩
  have hl:=hL.len
  have hg:=hL.legal
  (repeat' ((conv=>whnf);first|(with_reducible first|apply spl|apply spl'|refine iJ ?_)<;>intro hc<;>try(exfalso;omega)|refine vcq ?_|refine dr 10 ?_));all_goals(try conv=>whnf);try exact trivial
  ·have hnl:¬h.Legal:=fun q=>by have:=hg.2 q;omega
   refine⟨_,⟨fun q=>absurd g q,fun _=>⟨fun _=>rfl,fun q=>absurd q hnl⟩⟩,?_⟩
   exact xc20
  ·have hpos:0<L.length:=by omega
   have hm0:L.getD 0 .root∈L:=by simp[a0A,hpos]
   have hr0:=hL.good _ hm0
   have hw0:=((hL.ends _).2 ⟨_,hm0,rfl⟩).2
   have hd0:=dep_le g hr0
   have hz:(0:Int).toNat=0:=rfl
   rw[hz]
   generalize L.getD 0 .root=r0 at *
   have hlg:h.Legal:=hg.1 hpos
   clear hm0 hL hg
   refine⟨SR×V×List Int×List IE,fun q=>(q.1.Good h∧ordS r0=ordS q.1++q.2.2.1.reverse∧imsE h r0=imsE h q.1++q.2.2.2.reverse)∧q.2.2.1.length+dep q.1=dep r0∧q.2.2.2.length≤q.2.2.1.length,fun q=>dep q.1,fun q=>[(7,.iptr (stX (q.1.st h).D q.2.1 (q.1.st h).K (q.1.bf h) (.int .i64 q.1.cm) (imV h q.1.im))),(2,.osl 1 q.2.2.1.length),(3,.osl 2 q.2.2.2.length),(18,.any),(19,.any),(20,.any)],fun _=>[],fun q=>[.row 3 1 q.2.2.1.length (a0u intC 0 q.2.2.1) true,.row 38 1 q.2.2.2.length (a0u lC ie0 q.2.2.2) true],(r0,r0.oV,[],[]),⟨⟨⟨hr0,by simp,by simp⟩,by simp,by simp⟩,some [some 0,none,none],?_⟩,?_⟩
   ·exact xc20
   ·rintro⟨r,Ov,C,D⟩ ⟨⟨hr,hC,hD⟩,hcl,hdl⟩
    dsimp only at hr hC hD hcl hdl
    cases r with
    |root=>
     have hcl':C.length=dep r0:=hcl
     refine x25 ?_
     refine a0e [1] (rev65 C.length (by omega) (fun k=>C.getD k 0)) rfl ?_ ?_
     ·exact xc20
     ·rintro _ _ ⟨rfl,rfl⟩
      refine x25 ?_
      refine a0e [2] (rev66 D.length (by omega) (fun k=>D.getD k ie0)) rfl ?_ ?_
      ·exact xc20
      ·rintro _ _ ⟨rfl,rfl⟩
       refine x25 ?_
       refine⟨_,⟨fun q=>absurd g q,fun _=>⟨fun q=>absurd hlg q,fun _=>⟨r0,hr0,hw0,rfl⟩⟩⟩,?_⟩
       refine x25 ?_
       have eC:ordS r0=C.reverse:=hC
       have eD:imsE h r0=D.reverse:=hD
       rw[eC,eD]
       refine⟨by rw[List.length_reverse],fun k hk=>?_,.inl rfl,?_⟩
       ·have hk:k<C.length:=hk
        have e:=rev_get C 0 hk
        unfold revF
        dsimp only
        rw[if_pos (by omega),e]
        rfl
       ·refine x25 ?_
        refine⟨by rw[List.length_reverse],fun k hk=>?_,.inl rfl,?_⟩
        ·have hk:k<D.length:=hk
         have e:=rev_get D ie0 hk
         unfold revF
         dsimp only
         rw[if_pos (by omega),e]
         rfl
        ·exact xc20
    |node s b cmd im=>
     obtain⟨hb,hcm,hmy,hs⟩:=hr
     have hcl':C.length+(dep b+1)=dep r0:=hcl
     have hk:(h.l.getD ((cmd:Nat):Int).toNat c0).k=(h.at' cmd).k:=by rw[a1N];rfl
     have hlC:(C++[(cmd:Int)]).length=C.length+1:=by rw[a0F,a1A]
     cases im with
     |none=>
      have h9:(h.at' cmd).k≠9:=by
       rcases hs with⟨q,_⟩|⟨_,c,q,_⟩
       ·exact q
       ·cases q
      have hC1:ordS r0=ordS b++(C++[(cmd:Int)]).reverse:=by rw[hC];simp[ordS]
      have hD1:imsE h r0=imsE h b++D.reverse:=by rw[hD];simp[imsE]
      refine x25 ?_
      refine⟨⟨by dsimp only[SR.cm];omega,by dsimp only[SR.cm];omega⟩,?_⟩
      (repeat' ((conv=>whnf);first|(with_reducible first|apply spl|apply spl'|refine iJ ?_)<;>intro hc<;>try(exfalso;omega)|refine vcq ?_|refine dr 10 ?_));all_goals(try conv=>whnf);try exact trivial
      ·exact absurd (hk.symm.trans hc) h9
      ·refine⟨(b,slO (b.st h).O,C++[(cmd:Int)],D),⟨⟨⟨hb,hC1,hD1⟩,by dsimp only;omega,by dsimp only;omega⟩,by dsimp only[dep];omega⟩,some [some 0,some 4,some 2],?_⟩
       refine x25 ?_
       refine⟨a2d (c:=intC) (a:=(cmd:Int)) (l:=C) rfl (fun _ _=>rfl),?_⟩
       exact xc20
     |some c=>
      have h9:(h.at' cmd).k=9:=by
       rcases hs with⟨_,q,_⟩|⟨q,_⟩
       ·cases q
       ·exact q
      have hC1:ordS r0=ordS b++(C++[(cmd:Int)]).reverse:=by rw[hC];simp[ordS]
      have hD1:imsE h r0=imsE h b++(D++[(h.nn,c.get)]).reverse:=by rw[hD];simp[imsE]
      refine x25 ?_
      refine⟨⟨by dsimp only[SR.cm];omega,by dsimp only[SR.cm];omega⟩,?_⟩
      (repeat' ((conv=>whnf);first|(with_reducible first|apply spl|apply spl'|refine iJ ?_)<;>intro hc<;>try(exfalso;omega)|refine vcq ?_|refine dr 10 ?_));all_goals(try conv=>whnf);try exact trivial
      ·have hlD:(D++[(h.nn,c.get)]).length=D.length+1:=by rw[a0F,a1A]
       refine⟨(b,slO (b.st h).O,C++[(cmd:Int)],D++[(h.nn,c.get)]),⟨⟨⟨hb,hC1,hD1⟩,by dsimp only;omega,by dsimp only;omega⟩,by dsimp only[dep];omega⟩,some [some 0,some 4,some 6],?_⟩
       refine x25 ?_
       refine⟨a2d (c:=intC) (a:=(cmd:Int)) (l:=C) rfl (fun _ _=>rfl),?_⟩
       refine x25 ?_
       refine⟨a2d (c:=lC) (a:=((h.nn,c.get):IE)) (l:=D) rfl (fun _ _=>rfl),?_⟩
       exact xc20
      ·exact absurd (hk.trans h9) hc
theorem copyP (h:Hist) (hl:h.l.length≤1000000):a0q Tryz.prog 11 false [h.w] (·=h.w):=by
 refine a0c Tryz.E_ok Tryz.func11 rfl (by kernel_rfl) ?_
 (repeat' ((conv=>whnf);first|(with_reducible first|apply spl|apply spl'|refine iJ ?_)<;>intro hc<;>try(exfalso;omega)|refine vcq ?_|refine dr 2005 ?_|refine dr 11 ?_));all_goals(try conv=>whnf);try exact trivial
 refine⟨_,rfl,?_⟩
 (repeat' ((conv=>whnf);first|(with_reducible first|apply spl|apply spl'|refine iJ ?_)<;>intro hc<;>try(exfalso;omega)|refine vcq ?_|refine dr 2005 ?_|refine dr 11 ?_));all_goals(try conv=>whnf);try exact trivial
theorem pureWk {P:Program} {g:FuncId} {keep:Bool} {args:List V} {R R':V→Prop} (h:a0q P g keep args R) (hr:∀r,R r→∃r',R' r'∧∀I w v,Den I [] w r v→Den I [] w r' v):a0q P g keep args R':=
 ⟨h.1,fun I w vals hI hd=>(h.2 I w vals hI hd).mono fun _ _ ⟨_,v,h1,h2,h3,h4⟩=>let⟨r',g1,g2⟩:=hr _ h2;⟨r',v,h1,g1,g2 _ _ _ h3,h4⟩⟩
theorem imsE_len {h:Hist}:∀r:SR,(imsE h r).length≤dep r∧∀e∈imsE h r,e.1≤h.nn
 |.root=>⟨a0U _,fun _ he=>(List.not_mem_nil he).elim⟩
 |.node s b cmd im=>by
  obtain⟨h1,h2⟩:=imsE_len (h:=h) b
  have hd:dep (.node s b cmd im)=dep b+1:=rfl
  cases im with
  |none=>
   have e:imsE h (.node s b cmd none)=imsE h b:=List.append_nil _
   rw[e,hd]
   exact⟨by omega,h2⟩
  |some c=>
   have e:imsE h (.node s b cmd (some c))=imsE h b++[(h.nn,c.get)]:=rfl
   rw[e,hd,a0F,a1A]
   refine⟨by omega,fun x hx=>?_⟩
   rcases a0M.1 hx with q|q
   ·exact h2 x q
   ·rw[a0L] at q
    subst q
    exact a0U _
theorem den_nil2 {I:Nat→Prop} {w:World} {v:Value} {f g:Nat→List V} {e:Int} (h:Den I [] w (.tup [.lit (.slice none 0 0),.lit (.slice none 0 0),.int .i64 e]) v):Den I [] w (.tup [.sl 1 0 f,.sl 1 0 g,.int .i64 e]) v:=by
 obtain⟨vs,rfl,v1,r1,rfl,h1,v2,r2,rfl,h2,h3⟩:=h
 exact⟨_,rfl,v1,_,rfl,.inl ⟨rfl,none,0,h1⟩,v2,_,rfl,.inl ⟨rfl,none,0,h2⟩,h3⟩
theorem explains7 (h:Hist) (hl:h.l.length≤9223372036854775807):a0q Tryz.prog 7 false [h.w] (·=.prop True inferInstance):=by
 refine a0c Tryz.E_ok Tryz.func7 rfl (by kernel_rfl) ?_
 refine x1 ?_
 refine a0d (far20 h hl) rfl ?_
 rintro _ rfl
 (repeat' ((conv=>whnf);first|(with_reducible first|apply spl|apply spl'|refine iJ ?_)<;>intro hc<;>try(exfalso;omega)|refine vcq ?_|fail));all_goals((try conv=>whnf);try exact trivial);(repeat' ((first|(refine a0d (works8) rfl ?_;rintro _ rfl)|(refine a0f (works8) rfl ?_)|(refine a0l (fun _=>works8) rfl ?_));refine x1 ?_))
 ·refine⟨_,rfl,?_⟩
  exact⟨a1R,trivial⟩
 ·have hn:h.Near:=a0T.1 hc
  have h40:=hn.1
  clear hc
  refine a0d (copyP h (by omega)) rfl ?_
  rintro _ rfl
  refine x1 ?_
  by_cases g:h.Ok
  ·obtain⟨h2,h6⟩:=hn.2 g
   have hnn:=g.nn
   by_cases hL:h.Legal
   ·refine a0d (explain30 h hn) rfl ?_
    rintro v ⟨_,hv2⟩
    obtain⟨r,hr,hw,rfl⟩:=(hv2 g).2 hL
    have hx:=isx_of g hr hw
    have hd:=dep_le g hr
    have ho:=ordS_len r
    obtain⟨hi,hi2⟩:=imsE_len (h:=h) r
    have hleg:a0q Tryz.prog 17 false [h.w] (·=.tup [.kb true,.int .i64 0]):=pureWk (rlegal17 h hn) fun _ e=>⟨_,rfl,fun I w v hd=>by
     rw[Hist.chk_of g] at e
     subst e
     simpa [Den,DenL,g,hL] using hd⟩
    have hisx:a0q Tryz.prog 22 false [h.w,.sl 1 (ordS r).length (a0u intC 0 (ordS r)),.sl 1 (imsE h r).length (a0u lC ie0 (imsE h r))] (·=.kb true):=pureWk (isx22 h g h2 h6 (ordS r) (by omega) (imsE h r) (by omega) (fun e he=>by have:=hi2 e he;omega)) fun _ e=>⟨_,rfl,fun I w v hd=>by
     rw[imsE_tol] at e
     subst e
     simpa [Den,hx] using hd⟩
    clear hv2 hx hr hw
    generalize ordS r=A at *
    generalize imsE h r=B at *
    refine x1 ?_
    refine a0d hleg rfl ?_
    rintro _ rfl
    refine x1 (fun hc hc=>?_)
    refine a0d hisx rfl ?_
    rintro _ rfl
    refine x1 ?_
    refine a0d works8 rfl ?_
    rintro _ rfl
    refine x1 ?_
    refine⟨_,rfl,?_⟩
    exact⟨a1R,trivial⟩
   ·have hex:a0q Tryz.prog 30 true [h.w] (·=.tup [.sl 1 0 (a0u intC 0 []),.sl 1 0 (a0u lC ie0 []),.int .i64 3]):=pureWk (explain30 h hn) fun _ e=>⟨_,rfl,fun I w v hd=>by
     rw[(e.2 g).1 hL] at hd
     exact den_nil2 hd⟩
    have hleg:a0q Tryz.prog 17 false [h.w] (·=.tup [.kb false,.int .i64 0]):=pureWk (rlegal17 h hn) fun _ e=>⟨_,rfl,fun I w v hd=>by
     rw[Hist.chk_of g] at e
     subst e
     simpa [Den,DenL,g,hL] using hd⟩
    refine a0d hex rfl ?_
    rintro _ rfl
    refine x1 ?_
    refine a0d hleg rfl ?_
    rintro _ rfl
    refine x1 (fun hc hc hc=>?_)
    refine a0d works8 rfl ?_
    rintro _ rfl
    refine x1 ?_
    refine⟨_,rfl,?_⟩
    exact⟨a1R,trivial⟩
  ·have hk:h.chk=170:=if_neg g
   have hex:a0q Tryz.prog 30 true [h.w] (·=.tup [.sl 1 0 (a0u intC 0 []),.sl 1 0 (a0u lC ie0 []),.int .i64 170]):=pureWk (explain30 h hn) fun _ e=>⟨_,rfl,fun I w v hd=>by
    rw[e.1 g] at hd
    exact den_nil2 hd⟩
   have hleg:a0q Tryz.prog 17 false [h.w] (·=.tup [.kb false,.int .i64 170]):=pureWk (rlegal17 h hn) fun _ e=>⟨_,rfl,fun I w v hd=>by
    rw[hk] at e
    subst e
    simpa [Den,DenL,g] using hd⟩
   refine a0d hex rfl ?_
   rintro _ rfl
   refine x1 ?_
   refine a0d hleg rfl ?_
   rintro _ rfl
   refine x1 (fun hc hc hc=>?_)
   refine a0d works8 rfl ?_
   rintro _ rfl
   refine x1 ?_
   refine⟨_,rfl,?_⟩
   exact⟨a1R,trivial⟩
end Ho
end Go.Proofs
