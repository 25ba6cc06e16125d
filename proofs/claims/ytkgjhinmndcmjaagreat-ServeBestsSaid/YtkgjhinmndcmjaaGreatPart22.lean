/- Own work: texts of the proof of a law (WuM0, WuM, WuE, WuF, WuN, WuH, WuD0, WuD, WuG). No condition. -/
import Derived.Test.YtkgjhinmndcmjaaGreatPart21
namespace Go.Proofs
open Go Go.Sx
set_option maxRecDepth 100000
set_option maxHeartbeats 40000000
open Ca (Wt epW IsCrs okR okP)
noncomputable def mstP (s:Sv) (x:Int) (l:List Nat) (e:Int) (a b c d f:Nat) (p:Prop) (dp:Decidable p):List O:=[.loop [.any,.any,.any,.ptr a 0,.ptr b 0,.ptr c 0,.any,.ptr d 0,.ptr f 0,.any,.any,.any,.any,.any,.any,.any,.any,.any,.any,.any,.any,.any,.any,.any,.any,.any,.any,.any,.any,.any,.any,.any,.any,.any,.any,.any,.any,.any,.any,.any,.any,.any,.any,.any] [25] (rfA Tryz.f18) (rfB Tryz.f18) .ready,.cells 3 [.int .i64 x],.cells 31 [.sl 1 l.length (a0e natC 0 l)],.cells 3 [.int .i64 e],.cells 89 [.iptr s.oc],.cells 4 [.prop p dp]]
noncomputable def mstH (s:Sv) (x:Int) (t:List Nat×Int×Bool) (a b c d f:Nat):List O:=mstP s x t.1 t.2.1 a b c d f (t.2.2=true) inferInstance
theorem round18 (s:Sv) (hs:s.Ok) (x:Int) (o:List Nat) (ho:IsCrs s.W o) (t:List Nat×Int×Bool):YCall Tryz.prog 0 [.sl 1 o.length (a0e natC 0 o)] (mstH s x t 1 2 3 4 5) (fun v H'=>v=.kb true∧H'=mstH s x (s.stepM x t o) 1 2 3 4 5):=by
 have hn:=hs.few
 have hol:=ho.len
 have he:=kept53 s hs o ho x
 have hsv:Sv.cntK (s.endW true o) x o.length=s.sav x o:=by rw[hol];rfl
 rw[hsv] at he
 unfold Sv.oc at he
 unfold mstH mstP Sv.oc
 refine YCall.ent (K:=fun v H'=>v=.kb true∧∃p dp,(p↔(s.stepM x t o).2.2=true)∧H'=mstP s x (s.stepM x t o).1 (s.stepM x t o).2.1 1 2 3 4 5 p dp) (ycall_exec Tryz.E_ok rfl rfl rfl ?_) ?_
 ·(repeat' ((conv=>whnf);first|(with_reducible first|apply spl|apply spl'|refine iJ ?_)<;>intro hc<;>try(exfalso;omega)|refine vcq ?_|fail));all_goals(try conv=>whnf);try exact trivial
  refine a0b he rfl ?_
  rintro _ rfl
  (repeat' ((conv=>whnf);first|(with_reducible first|apply spl|apply spl'|refine iJ ?_)<;>intro hc<;>try(exfalso;omega)|refine vcq ?_|fail));all_goals(try conv=>whnf);try exact trivial
  ·rw[show s.stepM x t o=(o,((s.sav x o:Nat):Int),true) from if_pos hc]
   exact⟨_,_,by simp,rfl⟩
  ·rw[show s.stepM x t o=t from if_neg hc]
   exact⟨_,_,Iff.rfl,rfl⟩
 ·rintro v H' ⟨rfl,p,dp,hp,rfl⟩
  unfold mstP Sv.oc
  refine⟨_,_,⟨rfl,rfl⟩,some [some 0,some 1,some 2,some 3,some 4,some 5],?_⟩
  (repeat' ((conv=>whnf);first|(with_reducible first|apply spl|apply spl'|refine iJ ?_)<;>intro hc<;>try(exfalso;omega)|refine vcq ?_|fail));all_goals(try conv=>whnf);try exact trivial
theorem next18 (s:Sv) (hs:s.Ok) (x:Int):∀(m:Nat) (b:List Nat) (t:List Nat×Int×Bool) (nz:Bool),b.length+m=s.W.length→Ca.Pre s.W b→
  Sx.Callee Tryz.prog 87 [.osl 0 b.length,.ptr 1 0,.ptr 2 0,.ptr 3 0] (crsH s b nz++mstH s x t 5 6 7 8 9) (fun v H'=>v=.kb true∧H'=crsH s b nz++mstH s x (s.foldM x t (Ca.crs (okP s.W) s.W.length m b)) 5 6 7 8 9)
 |0,b,t,nz,hl,hp=>by
  have hn:=hs.few
  have ho:IsCrs s.W b:=⟨by omega,hp.nd,hp.lt,hp.asc⟩
  cases nz
  all_goals
   unfold crsH Sv.oc
   refine a0o Tryz.E_ok Tryz.func87 rfl (by kernel_rfl) ?_
   (repeat' ((conv=>whnf);first|(with_reducible first|apply spl|apply spl'|refine iJ ?_)<;>intro hc<;>try(exfalso;omega)|refine vcq ?_|refine dr 2002 ?_));all_goals(try conv=>whnf);try exact trivial
   refine a0u Tryz.E_ok Tryz.func88 rfl (by kernel_rfl) ?_
   (repeat' ((conv=>whnf);first|(with_reducible first|apply spl|apply spl'|refine iJ ?_)<;>intro hc<;>try(exfalso;omega)|refine vcq ?_|refine dr 2002 ?_));all_goals(try conv=>whnf);try exact trivial
   all_goals(first|(refine ycall_frz rfl (by simp[a2g]) ?_))
   all_goals(refine ycall_frame [4,5,6,7,8,9] (round18 s hs x b ho t) rfl rfl ?_ ?_)
   all_goals(first|(rintro _ _ ⟨rfl,rfl⟩;(repeat' ((conv=>whnf);first|(with_reducible first|apply spl|apply spl'|refine iJ ?_)<;>intro hc<;>try(exfalso;omega)|refine vcq ?_|refine dr 2021 ?_));all_goals((try conv=>whnf);try exact trivial))|(repeat' ((conv=>whnf);first|(with_reducible first|apply spl|apply spl'|refine iJ ?_)<;>intro hc<;>try(exfalso;omega)|refine vcq ?_|refine dr 2021 ?_));all_goals((try conv=>whnf);try exact trivial))
   all_goals(refine⟨_,_,⟨rfl,rfl⟩,some [some 0,some 1,some 2,some 3,some 4,some 5,some 6,some 7,some 8,some 9],?_⟩;(repeat' ((conv=>whnf);first|(with_reducible first|apply spl|apply spl'|refine iJ ?_)<;>intro hc<;>try(exfalso;omega)|refine vcq ?_|refine dr 2021 ?_));all_goals((try conv=>whnf);try exact trivial))
 |m+1,b,t,nz,hl,hp=>by
  have ih:=next18 s hs x m
  have hn:=hs.few
  have hcon:=fun i=>contains83 b (by omega) i
  cases nz
  all_goals
   unfold crsH Sv.oc
   refine a0o Tryz.E_ok Tryz.func87 rfl (by kernel_rfl) ?_
   (repeat' ((conv=>whnf);first|(with_reducible first|apply spl|apply spl'|refine iJ ?_)<;>intro hc<;>try(exfalso;omega)|refine vcq ?_|refine dr 2021 ?_));all_goals(try conv=>whnf);try exact trivial
   refine⟨Nat×(List Nat×Int×Bool),fun p=>p.1≤s.W.length∧p.2=s.foldM x t (crsP (okP s.W) s.W.length m b p.1),fun p=>s.W.length-p.1,fun p=>[(26,.int .i64 (p.1:Nat)),(6,.int .i64 (fstN b p.1))],fun p=>[(6,.cells 31 [.sl 1 p.2.1.length (a0e natC 0 p.2.1)]),(7,.cells 3 [.int .i64 p.2.2.1]),(9,.cells 4 [.prop (p.2.2.2=true) inferInstance])],fun _=>[],(0,t),⟨⟨by dsimp only;omega,rfl⟩,none,?_⟩,?_⟩
   ·(repeat' ((conv=>whnf);first|(with_reducible first|apply spl|apply spl'|refine iJ ?_)<;>intro hc<;>try(exfalso;omega)|refine vcq ?_|refine dr 2021 ?_));all_goals(try conv=>whnf);try exact trivial
    rfl
   ·rintro⟨i,u⟩ ⟨hi,hu⟩
    dsimp only at hi hu
    have hti:(i:Int).toNat=i:=Int.toNat_natCast i
    (repeat' ((conv=>whnf);first|(with_reducible first|apply spl|apply spl'|refine iJ ?_)<;>intro hc<;>try(exfalso;omega)|refine vcq ?_|refine dr 2021 ?_));all_goals(try conv=>whnf);try exact trivial
    ·have hil:i<s.W.length:=by omega
     have hfs:=fstN_spec b i
     rw[hti]
     refine a2a (hcon i) ?_
     (repeat' ((conv=>whnf);first|(with_reducible first|apply spl|apply spl'|refine iJ ?_)<;>intro hc<;>try(exfalso;omega)|refine vcq ?_|refine dr 2021 ?_));all_goals(try conv=>whnf);try exact trivial
     rintro _ rfl
     (repeat' ((conv=>whnf);first|(with_reducible first|apply spl|apply spl'|refine iJ ?_)<;>intro hc<;>try(exfalso;omega)|refine vcq ?_|refine dr 2021 ?_));all_goals(try conv=>whnf);try exact trivial
     ·have hin:i∈b:=by assumption
      refine⟨(i+1,u),⟨⟨by dsimp only;omega,by dsimp only;rw[crsP_no (fun g=>g.1 hin)];exact hu⟩,by dsimp only;omega⟩,some [some 0,some 1,some 2,some 3,some 4,some 5,some 6,some 7,some 8,some 9],?_⟩
      dsimp only
      rw[fstN_in hin]
      (repeat' ((conv=>whnf);first|(with_reducible first|apply spl|apply spl'|refine iJ ?_)<;>intro hc<;>try(exfalso;omega)|refine vcq ?_|refine dr 2021 ?_));all_goals(try conv=>whnf);try exact trivial
     ·have hnb:i∉b:=by assumption
      have hneg:fstN b i<0:=by assumption
      have hall:∀k,k<i→k∈b:=by
       rcases hfs with g|⟨f,g,_⟩
       ·exact g.2
       ·omega
      have hk:okP s.W b i:=(okP_of hil hnb (Nat.le_refl i) hnb hall).2 rfl
      have hlen:(b++[i]).length=b.length+1:=by simp
      refine a0f [12,1,2,3,4,5,6,7,8,9] (ih (b++[i]) u false (by rw[hlen];omega) (hp.snoc hil hk)) rfl ?_ ?_
      ·unfold crsH Sv.oc
       (repeat' ((conv=>whnf);first|(with_reducible first|apply spl|apply spl'|refine iJ ?_)<;>intro hc<;>try(exfalso;omega)|refine vcq ?_|refine dr 2021 ?_));all_goals(try conv=>whnf);try exact trivial
       refine⟨a2h rfl (fun _ _=>rfl),?_⟩
       (repeat' ((conv=>whnf);first|(with_reducible first|apply spl|apply spl'|refine iJ ?_)<;>intro hc<;>try(exfalso;omega)|refine vcq ?_|refine dr 2021 ?_));all_goals(try conv=>whnf);try exact trivial
      ·rintro _ _ ⟨rfl,rfl⟩
       (repeat' ((conv=>whnf);first|(with_reducible first|apply spl|apply spl'|refine iJ ?_)<;>intro hc<;>try(exfalso;omega)|refine vcq ?_|refine dr 2021 ?_));all_goals(try conv=>whnf);try exact trivial
       refine⟨(i+1,s.foldM x u (Ca.crs (okP s.W) s.W.length m (b++[i]))),⟨⟨by dsimp only;omega,by dsimp only;rw[hu,crsP_yes hk];exact List.foldl_append.symm⟩,by dsimp only;omega⟩,some [some 0,some 1,some 2,some 3,some 4,some 5,some 6,some 7,some 8,some 9],?_⟩
       dsimp only
       rw[fstN_new hnb hneg]
       (repeat' ((conv=>whnf);first|(with_reducible first|apply spl|apply spl'|refine iJ ?_)<;>intro hc<;>try(exfalso;omega)|refine vcq ?_|refine dr 2021 ?_));all_goals(try conv=>whnf);try exact trivial
     ·exfalso
      dsimp only at hc
      rw[hti] at hc
      exact hc rfl
     ·have hnb:i∉b:=by assumption
      have hneg:¬fstN b i<0:=by assumption
      obtain⟨f,hf1,hf2,hf3,hf4⟩:=hfs.resolve_left (fun g=>hneg (by rw[g.1];omega))
      have htf:(fstN b i).toNat=f:=by rw[hf1];exact Int.toNat_natCast f
      have hkk:=okP_of hil hnb (Nat.le_of_lt hf2) hf3 hf4
      dsimp only
      refine And.intro ⟨by omega,by omega⟩ ?_
      rw[htf]
      (repeat' ((conv=>whnf);first|(with_reducible first|apply spl|apply spl'|refine iJ ?_)<;>intro hc<;>try(exfalso;omega)|refine vcq ?_|refine dr 2021 ?_));all_goals(try conv=>whnf);try exact trivial
      ·have hk:okP s.W b i:=hkk.2 hc
       have hlen:(b++[i]).length=b.length+1:=by simp
       refine a0f [12,1,2,3,4,5,6,7,8,9] (ih (b++[i]) u false (by rw[hlen];omega) (hp.snoc hil hk)) rfl ?_ ?_
       ·unfold crsH Sv.oc
        (repeat' ((conv=>whnf);first|(with_reducible first|apply spl|apply spl'|refine iJ ?_)<;>intro hc<;>try(exfalso;omega)|refine vcq ?_|refine dr 2021 ?_));all_goals(try conv=>whnf);try exact trivial
        refine⟨a2h rfl (fun _ _=>rfl),?_⟩
        (repeat' ((conv=>whnf);first|(with_reducible first|apply spl|apply spl'|refine iJ ?_)<;>intro hc<;>try(exfalso;omega)|refine vcq ?_|refine dr 2021 ?_));all_goals(try conv=>whnf);try exact trivial
       ·rintro _ _ ⟨rfl,rfl⟩
        (repeat' ((conv=>whnf);first|(with_reducible first|apply spl|apply spl'|refine iJ ?_)<;>intro hc<;>try(exfalso;omega)|refine vcq ?_|refine dr 2021 ?_));all_goals(try conv=>whnf);try exact trivial
        refine⟨(i+1,s.foldM x u (Ca.crs (okP s.W) s.W.length m (b++[i]))),⟨⟨by dsimp only;omega,by dsimp only;rw[hu,crsP_yes hk];exact List.foldl_append.symm⟩,by dsimp only;omega⟩,some [some 0,some 1,some 2,some 3,some 4,some 5,some 6,some 7,some 8,some 9],?_⟩
        dsimp only
        rw[fstN_old hneg]
        (repeat' ((conv=>whnf);first|(with_reducible first|apply spl|apply spl'|refine iJ ?_)<;>intro hc<;>try(exfalso;omega)|refine vcq ?_|refine dr 2021 ?_));all_goals(try conv=>whnf);try exact trivial
      ·have hk:¬okP s.W b i:=fun g=>hc (hkk.1 g)
       refine⟨(i+1,u),⟨⟨by dsimp only;omega,by dsimp only;rw[crsP_no hk];exact hu⟩,by dsimp only;omega⟩,some [some 0,some 1,some 2,some 3,some 4,some 5,some 6,some 7,some 8,some 9],?_⟩
       dsimp only
       rw[fstN_old hneg]
       (repeat' ((conv=>whnf);first|(with_reducible first|apply spl|apply spl'|refine iJ ?_)<;>intro hc<;>try(exfalso;omega)|refine vcq ?_|refine dr 2021 ?_));all_goals(try conv=>whnf);try exact trivial
    ·obtain rfl:i=s.W.length:=by omega
     subst hu
     refine⟨_,_,⟨rfl,rfl⟩,some [some 0,some 1,some 2,some 3,some 4,some 5,some 6,some 7,some 8,some 9],?_⟩
     (repeat' ((conv=>whnf);first|(with_reducible first|apply spl|apply spl'|refine iJ ?_)<;>intro hc<;>try(exfalso;omega)|refine vcq ?_|refine dr 2021 ?_));all_goals(try conv=>whnf);try exact trivial
end Go.Proofs
namespace Go.Proofs
open Go Go.Sx
set_option maxRecDepth 100000
set_option maxHeartbeats 40000000
open Ca (Wt epW IsCrs okR okP putM medC entC)
def Sv.img (s:Sv) (o:List Nat) (k:Nat):Nat→Int:=medC s.W s.st.M o k
theorem image54 (s:Sv) (hs:s.Ok) (o:List Nat) (ho:IsCrs s.W o) (many:Nat) (hm:many≤o.length):a0h Tryz.prog 54 true [.iptr s.oc,.sl 1 o.length (a0e natC 0 o),.int .i64 many] (·=.sl 1 s.n (mdC (s.img o many))):=by
 have hn:=hs.few
 have hl:=ho.len
 have hni:=Sv.nI hs.x
 have hn1:0<s.n:=by have:=hs.x.n;omega
 have hn2:=(Sv.at_small hs.x (Nat.le_refl _)).2.2.2.1
 unfold Sv.oc
 refine a0a Tryz.E_ok Tryz.func54 rfl (by kernel_rfl) ?_
 (repeat' ((conv=>whnf);first|(with_reducible first|apply spl|apply spl'|refine iJ ?_)<;>intro hc<;>try(exfalso;omega)|refine vcq ?_|refine dr 18 ?_));all_goals(try conv=>whnf);try exact trivial
 refine a0u Tryz.E_ok Tryz.func88 rfl (by kernel_rfl) ?_
 (repeat' ((conv=>whnf);first|(with_reducible first|apply spl|apply spl'|refine iJ ?_)<;>intro hc<;>try(exfalso;omega)|refine vcq ?_|refine dr 18 ?_));all_goals(try conv=>whnf);try exact trivial
 refine⟨Nat,fun i=>i≤many,fun i=>many-i,fun i=>[(19,.int .i64 (i:Nat)),(9,.any),(7,.osl 1 s.n)],fun i=>[(1,.row 3 1 s.n (mdC (s.img o i)) false)],fun _=>[],0,⟨by omega,some [some 0,some 1],?_⟩,?_⟩
 ·(repeat' ((conv=>whnf);first|(with_reducible first|apply spl|apply spl'|refine iJ ?_)<;>intro hc<;>try(exfalso;omega)|refine vcq ?_|refine dr 18 ?_));all_goals(try conv=>whnf);try exact trivial
 ·intro i hi
  have hi:i≤many:=hi
  have hti:(0:Int).toNat+(i:Int).toNat=i:=by simp
  (repeat' ((conv=>whnf);first|(with_reducible first|apply spl|apply spl'|refine iJ ?_)<;>intro hc<;>try(exfalso;omega)|refine vcq ?_|refine dr 18 ?_));all_goals(try conv=>whnf);try exact trivial
  ·have hio:i<o.length:=by omega
   have ha:o.getD i 0<s.W.length:=by rw[a0r hio];exact ho.lt _ (List.getElem_mem hio)
   have hta:((o.getD i 0:Nat):Int).toNat=o.getD i 0:=Int.toNat_natCast _
   have hw:=hs.ws _ (show s.W.getD (o.getD i 0) wt0∈s.W by rw[getW ha];exact List.getElem_mem ha)
   have htw:(((s.W.getD (o.getD i 0) wt0).2.1:Nat):Int).toNat=(s.W.getD (o.getD i 0) wt0).2.1:=Int.toNat_natCast _
   rw[hti]
   refine And.intro ⟨by omega,by omega⟩ ?_
   (repeat' ((conv=>whnf);first|(with_reducible first|apply spl|apply spl'|refine iJ ?_)<;>intro hc<;>try(exfalso;omega)|refine vcq ?_|refine dr 18 ?_));all_goals(try conv=>whnf);try exact trivial
   rw[hta]
   refine And.intro ⟨by omega,by omega⟩ ?_
   (repeat' ((conv=>whnf);first|(with_reducible first|apply spl|apply spl'|refine iJ ?_)<;>intro hc<;>try(exfalso;omega)|refine vcq ?_|refine dr 18 ?_));all_goals(try conv=>whnf);try exact trivial
   rw[htw]
   refine⟨i+1,⟨by omega,by dsimp only;omega⟩,some [some 0,some 1],?_⟩
   (repeat' ((conv=>whnf);first|(with_reducible first|apply spl|apply spl'|refine iJ ?_)<;>intro hc<;>try(exfalso;omega)|refine vcq ?_|refine dr 18 ?_));all_goals(try conv=>whnf);try exact trivial
   refine⟨fun j _=>?_,?_⟩
   ·have hen:entC s.W o i=s.W.getD (o.getD i 0) wt0:=rfl
    show _=[V.int .i64 (putM (s.img o i) (entC s.W o i) j)]
    rw[hen]
    unfold putM mdC
    dsimp only
    by_cases g:j=(s.W.getD (o.getD i 0) wt0).2.1
    ·rw[a0v g,if_pos g];rfl
    ·rw[a0t g,if_neg g]
   (repeat' ((conv=>whnf);first|(with_reducible first|apply spl|apply spl'|refine iJ ?_)<;>intro hc<;>try(exfalso;omega)|refine vcq ?_|refine dr 18 ?_));all_goals(try conv=>whnf);try exact trivial
  ·obtain rfl:i=many:=by omega
   refine⟨_,rfl,?_⟩
   (repeat' ((conv=>whnf);first|(with_reducible first|apply spl|apply spl'|refine iJ ?_)<;>intro hc<;>try(exfalso;omega)|refine vcq ?_|refine dr 18 ?_));all_goals(try conv=>whnf);try exact trivial
end Go.Proofs
namespace Go.Proofs
open Go Go.Sx
set_option maxRecDepth 100000
set_option maxHeartbeats 40000000
open Ca (Wt epW IsCrs okR okP putM medC entC RS drC)
theorem image31 (s:Sv) (hs:s.Ok) (o:List Nat) (ho:IsCrs s.W o) (many:Nat) (hm:many≤o.length):a0h Tryz.prog 31 true [.agg s.c,.sl 1 o.length (a0e natC 0 o),.int .i64 many] (·=.sl 1 s.n (mdC (s.img o many))):=by
 have hn:=hs.few
 have hl:=ho.len
 have hni:=Sv.nI hs.x
 have hn1:0<s.n:=by have:=hs.x.n;omega
 have hsm:=Sv.at_small hs.x (Nat.le_refl _)
 have hw0:=Sv.at_W hs.x s.x.l.length (Nat.le_refl _)
 have hxl:=hs.x.len
 have hla:=last69 s hs.x
 have hen:=entries49 s hs.x
 have hdc:=fun k hk=>Ca.drC_at (n:=s.n) (s:=s.st) (o:=o) ho k hk
 have hM:∀k,k≤s.W.length→(drC s.n s.W s.st o k).M=s.img o k:=fun k hk=>(hdc k hk).2.1
 have hdr:=fun k (hk:k≤s.W.length) z=>Ca.Drained17d s.n ⟨by omega,by omega⟩ (drC s.n s.W s.st o k) (by have h1:(drC s.n s.W s.st o k).E.length=(s.at s.x.l.length).E.length:=(hdc k hk).1;omega) (by have h1:(s.at s.x.l.length).W≤(drC s.n s.W s.st o k).W∧(drC s.n s.W s.st o k).W≤(s.at s.x.l.length).W+(k:Nat):=(hdc k hk).2.2.1;omega) z
 unfold Sv.c at hla hen ⊢
 refine a0a Tryz.E_ok Tryz.func31 rfl (by kernel_rfl) ?_
 (repeat' ((conv=>whnf);first|(with_reducible first|apply spl|apply spl'|refine iJ ?_)<;>intro hc<;>try(exfalso;omega)|refine vcq ?_|refine dr 2013 ?_));all_goals(try conv=>whnf);try exact trivial
 refine a0b hla rfl ?_
 rintro _ rfl
 unfold RS.v RS.c
 (repeat' ((conv=>whnf);first|(with_reducible first|apply spl|apply spl'|refine iJ ?_)<;>intro hc<;>try(exfalso;omega)|refine vcq ?_|refine dr 2013 ?_));all_goals(try conv=>whnf);try exact trivial
 refine a0b hen rfl ?_
 rintro _ rfl
 (repeat' ((conv=>whnf);first|(with_reducible first|apply spl|apply spl'|refine iJ ?_)<;>intro hc<;>try(exfalso;omega)|refine vcq ?_|refine dr 2013 ?_));all_goals(try conv=>whnf);try exact trivial
 refine⟨Nat,fun i=>i≤many,fun i=>many-i,fun i=>[(9,.int .i64 (i:Nat))],fun i=>[(1,.cells 126 ((drC s.n s.W s.st o i).c s.n))],fun _=>[],0,⟨by omega,none,?_⟩,?_⟩
 ·unfold RS.c
  (repeat' ((conv=>whnf);first|(with_reducible first|apply spl|apply spl'|refine iJ ?_)<;>intro hc<;>try(exfalso;omega)|refine vcq ?_|refine dr 2013 ?_));all_goals(try conv=>whnf);try exact trivial
  rfl
 ·intro i hi
  have hi:i≤many:=hi
  have hti:(i:Int).toNat=i:=Int.toNat_natCast i
  unfold RS.c
  (repeat' ((conv=>whnf);first|(with_reducible first|apply spl|apply spl'|refine iJ ?_)<;>intro hc<;>try(exfalso;omega)|refine vcq ?_|refine dr 2013 ?_));all_goals(try conv=>whnf);try exact trivial
  ·have hio:i<o.length:=by omega
   have ha:o.getD i 0<s.W.length:=by rw[a0r hio];exact ho.lt _ (List.getElem_mem hio)
   have hta:((o.getD i 0:Nat):Int).toNat=o.getD i 0:=Int.toNat_natCast _
   have hd:=hdr i (by omega) ((s.W.getD (o.getD i 0) wt0).2.1:Nat)
   have hsu:Ca.drS s.n (drC s.n s.W s.st o i) ((s.W.getD (o.getD i 0) wt0).2.1:Nat)=drC s.n s.W s.st o (i+1):=rfl
   rw[hsu] at hd
   unfold RS.v RS.c at hd
   rw[hti]
   refine And.intro ⟨by omega,by omega⟩ ?_
   (repeat' ((conv=>whnf);first|(with_reducible first|apply spl|apply spl'|refine iJ ?_)<;>intro hc<;>try(exfalso;omega)|refine vcq ?_|refine dr 2013 ?_));all_goals(try conv=>whnf);try exact trivial
   rw[hta]
   refine a0c hd rfl ?_
   (repeat' ((conv=>whnf);first|(with_reducible first|apply spl|apply spl'|refine iJ ?_)<;>intro hc<;>try(exfalso;omega)|refine vcq ?_|refine dr 2013 ?_));all_goals(try conv=>whnf);try exact trivial
   refine⟨i+1,⟨by omega,by dsimp only;omega⟩,none,?_⟩
   (repeat' ((conv=>whnf);first|(with_reducible first|apply spl|apply spl'|refine iJ ?_)<;>intro hc<;>try(exfalso;omega)|refine vcq ?_|refine dr 2013 ?_));all_goals(try conv=>whnf);try exact trivial
  ·obtain rfl:i=many:=by omega
   have:=hM i (by omega)
   refine⟨_,rfl,?_⟩
   (repeat' ((conv=>whnf);first|(with_reducible first|apply spl|apply spl'|refine iJ ?_)<;>intro hc<;>try(exfalso;omega)|refine vcq ?_|refine dr 2013 ?_));all_goals(try conv=>whnf);try exact trivial
   refine⟨fun j _=>?_,trivial⟩
   rw[←this]
   rfl
end Go.Proofs
namespace Go.Proofs
open Go Go.Sx
set_option maxRecDepth 100000
set_option maxHeartbeats 40000000
open Ca (Wt epW IsCrs okR okP)
def Sv.mostR (s:Sv) (x:Int) (v:V):Prop:=(s.err=0∧(0≤x∧x≤100000)∧v=.tup [.sl 1 (s.most x).1.length (a0e natC 0 (s.most x).1),.int .i64 (s.most x).2,.int .i64 0])∨(s.err=0∧¬(0≤x∧x≤100000)∧v=.tup [.lit (.slice none 0 0),.int .i64 0,.int .i64 1])∨s.err≠0∧v=.tup [.lit (.slice none 0 0),.int .i64 0,.int .i64 s.err]
theorem most18 (s:Sv) (hz:s.d.Z.length≤1000000) (hl:s.x.l.length≤1000000) (hsk:s.sk.length≤1000000) (hsec:s.sec.length≤1000000) (x:Int):a0h Tryz.prog 18 true [.agg s.c,.int .i64 x] (s.mostR x):=by
 have ho:=open45 s hz hl hsk hsec
 have hti:=isTime52 x
 rw[Sv.ov_eq] at ho
 unfold Sv.c at ho ⊢
 refine a0a Tryz.E_ok Tryz.func18 rfl (by kernel_rfl) ?_
 (repeat' ((conv=>whnf);first|(with_reducible first|apply spl|apply spl'|refine iJ ?_)<;>intro hc<;>try(exfalso;omega)|refine vcq ?_|refine dr 2002 ?_));all_goals(try conv=>whnf);try exact trivial
 refine a0b ho rfl ?_
 rintro _ (⟨he,rfl⟩|⟨he,rfl⟩)
 ·have hs:=Sv.err_ok he
  have hn:=hs.few
  have hnx:=next18 s hs x s.W.length [] ([],0,false) true (by simp) (Ca.Pre.nil _)
  have hfa:=s.foldM_all x
  unfold Ca.allCrs at hfa
  rw[hfa] at hnx
  unfold crsH mstH mstP Sv.oc at hnx
  unfold Sv.oc
  (repeat' ((conv=>whnf);first|(with_reducible first|apply spl|apply spl'|refine iJ ?_)<;>intro hc<;>try(exfalso;omega)|refine vcq ?_|refine dr 2002 ?_));all_goals(try conv=>whnf);try exact trivial
  refine a0b hti rfl ?_
  rintro _ rfl
  (repeat' ((conv=>whnf);first|(with_reducible first|apply spl|apply spl'|refine iJ ?_)<;>intro hc<;>try(exfalso;omega)|refine vcq ?_|refine dr 2002 ?_));all_goals(try conv=>whnf);try exact trivial
  ·refine⟨_,.inr (.inl ⟨he,hc,rfl⟩),?_⟩
   (repeat' ((conv=>whnf);first|(with_reducible first|apply spl|apply spl'|refine iJ ?_)<;>intro hc<;>try(exfalso;omega)|refine vcq ?_|refine dr 2002 ?_));all_goals(try conv=>whnf);try exact trivial
  ·have htm:0≤x∧x≤100000:=Classical.not_not.1 hc
   clear hc
   refine a0u Tryz.E_ok Tryz.func46 rfl (by kernel_rfl) ?_
   (repeat' ((conv=>whnf);first|(with_reducible first|apply spl|apply spl'|refine iJ ?_)<;>intro hc<;>try(exfalso;omega)|refine vcq ?_|refine dr 2002 ?_));all_goals(try conv=>whnf);try exact trivial
   refine callee_nil 3 1 (a0e natC 0 []) ?_
   (repeat' ((conv=>whnf);first|(with_reducible first|apply spl|apply spl'|refine iJ ?_)<;>intro hc<;>try(exfalso;omega)|refine vcq ?_|refine dr 2002 ?_));all_goals(try conv=>whnf);try exact trivial
   refine⟨?_,?_⟩
   ·(repeat' ((conv=>whnf);first|(with_reducible first|apply spl|apply spl'|refine iJ ?_)<;>intro hc<;>try(exfalso;omega)|refine vcq ?_|refine dr 2002 ?_));all_goals(try conv=>whnf);try exact trivial
   ·refine a0f [10,7,8,9,6,1,2,3,4,5] hnx rfl ?_ ?_
    ·(repeat' ((conv=>whnf);first|(with_reducible first|apply spl|apply spl'|refine iJ ?_)<;>intro hc<;>try(exfalso;omega)|refine vcq ?_|refine dr 2002 ?_));all_goals(try conv=>whnf);try exact trivial
     refine⟨by simp,?_⟩
     (repeat' ((conv=>whnf);first|(with_reducible first|apply spl|apply spl'|refine iJ ?_)<;>intro hc<;>try(exfalso;omega)|refine vcq ?_|refine dr 2002 ?_));all_goals(try conv=>whnf);try exact trivial
    ·rintro _ _ ⟨rfl,rfl⟩
     (repeat' ((conv=>whnf);first|(with_reducible first|apply spl|apply spl'|refine iJ ?_)<;>intro hc<;>try(exfalso;omega)|refine vcq ?_|refine dr 2002 ?_));all_goals(try conv=>whnf);try exact trivial
     refine⟨_,.inl ⟨he,htm,rfl⟩,?_⟩
     (repeat' ((conv=>whnf);first|(with_reducible first|apply spl|apply spl'|refine iJ ?_)<;>intro hc<;>try(exfalso;omega)|refine vcq ?_|refine dr 2002 ?_));all_goals(try conv=>whnf);try exact trivial
 ·(repeat' ((conv=>whnf);first|(with_reducible first|apply spl|apply spl'|refine iJ ?_)<;>intro hc<;>try(exfalso;omega)|refine vcq ?_|refine dr 2002 ?_));all_goals(try conv=>whnf);try exact trivial
  refine⟨_,.inr (.inr ⟨he,rfl⟩),?_⟩
  (repeat' ((conv=>whnf);first|(with_reducible first|apply spl|apply spl'|refine iJ ?_)<;>intro hc<;>try(exfalso;omega)|refine vcq ?_|refine dr 2002 ?_));all_goals(try conv=>whnf);try exact trivial
def Sv.heldR (s:Sv) (l:List Int) (x:Int) (v:V):Prop:=(s.cerr l=0∧(0≤x∧x≤100000)∧v=.tup [.sl 1 s.n (mdC (s.img (l.map Int.toNat) (Sv.cntK (s.endW true (l.map Int.toNat)) x s.W.length))),.sl 1 s.n (mdC (s.img (l.map Int.toNat) (Sv.cntK (s.endW false (l.map Int.toNat)) x s.W.length))),.int .i64 0])∨(s.cerr l=0∧¬(0≤x∧x≤100000)∧v=.tup [.lit (.slice none 0 0),.lit (.slice none 0 0),.int .i64 1])∨s.cerr l≠0∧v=.tup [.lit (.slice none 0 0),.lit (.slice none 0 0),.int .i64 (s.cerr l)]
theorem held16 (s:Sv) (hz:s.d.Z.length≤1000000) (hx:s.x.l.length≤1000000) (hsk:s.sk.length≤1000000) (hsec:s.sec.length≤1000000) (l:List Int) (hl:l.length≤1000000) (x:Int):a0h Tryz.prog 16 true [.agg s.c,.sl 1 l.length (a0e intC 0 l),.int .i64 x] (s.heldR l x):=by
 have ho:=with51 s hz hx hsk hsec l hl
 have hti:=isTime52 x
 unfold Sv.c at ho ⊢
 refine a0a Tryz.E_ok Tryz.func16 rfl (by kernel_rfl) ?_
 (repeat' ((conv=>whnf);first|(with_reducible first|apply spl|apply spl'|refine iJ ?_)<;>intro hc<;>try(exfalso;omega)|refine vcq ?_|fail));all_goals(try conv=>whnf);try exact trivial
 refine a0b ho rfl ?_
 rintro _ (⟨he,rfl⟩|⟨he,rfl⟩)
 ·obtain⟨h1,h2⟩:=Sv.cerr_ok he
  have hs:=Sv.err_ok h1
  have hc:=h2.crs
  have hll:(l.map Int.toNat).length=l.length:=List.length_map ..
  have hf:=hs.few
  have hcl:=hc.len
  have hk:=kept53 s hs _ hc x
  have hi1:=image54 s hs _ hc (Sv.cntK (s.endW true (l.map Int.toNat)) x s.W.length) (by rw[hcl];exact Sv.cntK_le _ _ _)
  have hi2:=image54 s hs _ hc (Sv.cntK (s.endW false (l.map Int.toNat)) x s.W.length) (by rw[hcl];exact Sv.cntK_le _ _ _)
  rw[hcl] at hk
  rw[←hcl,hll,←h2.1.row] at hk hi1 hi2
  clear hc
  unfold Sv.oc at hk hi1 hi2 ⊢
  (repeat' ((conv=>whnf);first|(with_reducible first|apply spl|apply spl'|refine iJ ?_)<;>intro hc<;>try(exfalso;omega)|refine vcq ?_|fail));all_goals(try conv=>whnf);try exact trivial
  refine a0b hti rfl ?_
  rintro _ rfl
  (repeat' ((conv=>whnf);first|(with_reducible first|apply spl|apply spl'|refine iJ ?_)<;>intro hc<;>try(exfalso;omega)|refine vcq ?_|fail));all_goals(try conv=>whnf);try exact trivial
  ·refine⟨_,.inr (.inl ⟨he,hc,rfl⟩),?_⟩
   (repeat' ((conv=>whnf);first|(with_reducible first|apply spl|apply spl'|refine iJ ?_)<;>intro hc<;>try(exfalso;omega)|refine vcq ?_|fail));all_goals(try conv=>whnf);try exact trivial
  ·have htm:0≤x∧x≤100000:=Classical.not_not.1 hc
   clear hc
   refine a0b hk rfl ?_
   rintro _ rfl
   (repeat' ((conv=>whnf);first|(with_reducible first|apply spl|apply spl'|refine iJ ?_)<;>intro hc<;>try(exfalso;omega)|refine vcq ?_|fail));all_goals(try conv=>whnf);try exact trivial
   refine a0b hi1 rfl ?_
   rintro _ rfl
   (repeat' ((conv=>whnf);first|(with_reducible first|apply spl|apply spl'|refine iJ ?_)<;>intro hc<;>try(exfalso;omega)|refine vcq ?_|fail));all_goals(try conv=>whnf);try exact trivial
   refine a0b hi2 rfl ?_
   rintro _ rfl
   (repeat' ((conv=>whnf);first|(with_reducible first|apply spl|apply spl'|refine iJ ?_)<;>intro hc<;>try(exfalso;omega)|refine vcq ?_|fail));all_goals(try conv=>whnf);try exact trivial
   refine⟨_,.inl ⟨he,htm,rfl⟩,?_⟩
   rw[←hcl,hll]
   (repeat' ((conv=>whnf);first|(with_reducible first|apply spl|apply spl'|refine iJ ?_)<;>intro hc<;>try(exfalso;omega)|refine vcq ?_|fail));all_goals(try conv=>whnf);try exact trivial
 ·(repeat' ((conv=>whnf);first|(with_reducible first|apply spl|apply spl'|refine iJ ?_)<;>intro hc<;>try(exfalso;omega)|refine vcq ?_|fail));all_goals(try conv=>whnf);try exact trivial
  refine⟨_,.inr (.inr ⟨he,rfl⟩),?_⟩
  (repeat' ((conv=>whnf);first|(with_reducible first|apply spl|apply spl'|refine iJ ?_)<;>intro hc<;>try(exfalso;omega)|refine vcq ?_|fail));all_goals(try conv=>whnf);try exact trivial
theorem rmost19 (s:Sv) (hz:s.d.Z.length≤1000000) (hl:s.x.l.length≤1000000) (hsk:s.sk.length≤1000000) (hsec:s.sec.length≤1000000) (x:Int):a0h Tryz.prog 19 true [.agg s.c,.int .i64 x] (s.mostR x):=by
 have hc:=rcheck33 s hz hl hsk hsec
 have hwi:=within55n x 0 100000
 by_cases he:s.err=0
 ·have hs:=Sv.err_ok he
  have hen:=entries49 s hs.x
  have hO:=courses48 s.W hs.few (fun w hw=>(hs.ws w hw).1) s.W.length [] (by simp) (by simp)
  rw[s.allR] at hO
  have hO:a0h Tryz.prog 48 true [.sl 3 s.W.length (a0e wtC wt0 s.W),.sl 1 0 (a0e natC 0 [])] (·=.sl 1 (Ca.allCrs s.W).length (a0e ordC [] (Ca.allCrs s.W))):=hO
  have hall:=Sv.all_len hs
  have hpos:=s.all_pos
  have h0:=s.vT_zero x
  have hst:=fun i h=>Sv.vT_succ (s:=s) (t:=x) (i:=i) h
  have hla:=fun i h=>counts56 s hs _ (s.all_get (i:=i) h) x
  have hsv:=fun i h=>sav_last hs (s.all_get (i:=i) h) x
  have hba:=s.vT_all x
  unfold Sv.c at hc hen hla ⊢
  rw[he] at hc
  refine a0a Tryz.E_ok Tryz.func19 rfl (by kernel_rfl) ?_
  (repeat' ((conv=>whnf);first|(with_reducible first|apply spl|apply spl'|refine iJ ?_)<;>intro hc<;>try(exfalso;omega)|refine vcq ?_|refine dr 12 ?_));all_goals(try conv=>whnf);try exact trivial
  refine a0b hc rfl ?_
  rintro _ rfl
  (repeat' ((conv=>whnf);first|(with_reducible first|apply spl|apply spl'|refine iJ ?_)<;>intro hc<;>try(exfalso;omega)|refine vcq ?_|refine dr 12 ?_));all_goals(try conv=>whnf);try exact trivial
  refine a0b hwi rfl ?_
  rintro _ rfl
  (repeat' ((conv=>whnf);first|(with_reducible first|apply spl|apply spl'|refine iJ ?_)<;>intro hc<;>try(exfalso;omega)|refine vcq ?_|refine dr 12 ?_));all_goals(try conv=>whnf);try exact trivial
  ·refine⟨_,.inr (.inl ⟨he,hc,rfl⟩),?_⟩
   (repeat' ((conv=>whnf);first|(with_reducible first|apply spl|apply spl'|refine iJ ?_)<;>intro hc<;>try(exfalso;omega)|refine vcq ?_|refine dr 12 ?_));all_goals(try conv=>whnf);try exact trivial
  ·have htm:0≤x∧x≤100000:=Classical.not_not.1 hc
   clear hc
   refine a0b hen rfl ?_
   rintro _ rfl
   (repeat' ((conv=>whnf);first|(with_reducible first|apply spl|apply spl'|refine iJ ?_)<;>intro hc<;>try(exfalso;omega)|refine vcq ?_|refine dr 12 ?_));all_goals(try conv=>whnf);try exact trivial
   refine a0b (a0h.view hO ?_) rfl ?_
   ·(repeat' ((conv=>whnf);first|(with_reducible first|apply spl|apply spl'|refine iJ ?_)<;>intro hc<;>try(exfalso;omega)|refine vcq ?_|refine dr 12 ?_));all_goals(try conv=>whnf);try exact trivial
   rintro _ rfl
   generalize Ca.allCrs s.W=L at *
   (repeat' ((conv=>whnf);first|(with_reducible first|apply spl|apply spl'|refine iJ ?_)<;>intro hc<;>try(exfalso;omega)|refine vcq ?_|refine dr 12 ?_));all_goals(try conv=>whnf);try exact trivial
   refine⟨Nat,fun i=>i≤L.length,fun i=>L.length-i,fun i=>[(9,.int .i64 (i:Nat)),(4,.sl 1 (s.vT x i).1.length (a0e natC 0 (s.vT x i).1)),(5,.int .i64 (s.vT x i).2)],fun _=>[],fun _=>[],0,⟨by omega,none,?_⟩,?_⟩
   ·dsimp only
    rw[h0]
    (repeat' ((conv=>whnf);first|(with_reducible first|apply spl|apply spl'|refine iJ ?_)<;>intro hc<;>try(exfalso;omega)|refine vcq ?_|refine dr 12 ?_));all_goals(try conv=>whnf);try exact trivial
   ·intro i hi
    have hi:i≤L.length:=hi
    have hti:(i:Int).toNat=i:=Int.toNat_natCast i
    (repeat' ((conv=>whnf);first|(with_reducible first|apply spl|apply spl'|refine iJ ?_)<;>intro hc<;>try(exfalso;omega)|refine vcq ?_|refine dr 12 ?_));all_goals(try conv=>whnf);try exact trivial
    ·have hil:i<L.length:=by omega
     have hst:=hst i hil
     have hsv:=hsv i hil
     have hla:=hla i hil
     rw[hsv] at hla
     rw[hti]
     refine a0c hla rfl ?_
     (repeat' ((conv=>whnf);first|(with_reducible first|apply spl|apply spl'|refine iJ ?_)<;>intro hc<;>try(exfalso;omega)|refine vcq ?_|refine dr 12 ?_));all_goals(try conv=>whnf);try exact trivial
     ·unfold Sv.stepV at hst
      rw[if_pos hc] at hst
      refine⟨i+1,⟨by omega,by dsimp only;omega⟩,none,?_⟩
      dsimp only
      rw[hst,hti]
      (repeat' ((conv=>whnf);first|(with_reducible first|apply spl|apply spl'|refine iJ ?_)<;>intro hc<;>try(exfalso;omega)|refine vcq ?_|refine dr 12 ?_));all_goals(try conv=>whnf);try exact trivial
     ·unfold Sv.stepV at hst
      rw[if_neg hc] at hst
      refine⟨i+1,⟨by omega,by dsimp only;omega⟩,none,?_⟩
      dsimp only
      rw[hst]
      (repeat' ((conv=>whnf);first|(with_reducible first|apply spl|apply spl'|refine iJ ?_)<;>intro hc<;>try(exfalso;omega)|refine vcq ?_|refine dr 12 ?_));all_goals(try conv=>whnf);try exact trivial
    ·obtain rfl:i=L.length:=by omega
     rw[hba]
     refine⟨_,.inl ⟨he,htm,rfl⟩,?_⟩
     (repeat' ((conv=>whnf);first|(with_reducible first|apply spl|apply spl'|refine iJ ?_)<;>intro hc<;>try(exfalso;omega)|refine vcq ?_|refine dr 12 ?_));all_goals(try conv=>whnf);try exact trivial
 ·unfold Sv.c at hc ⊢
  refine a0a Tryz.E_ok Tryz.func19 rfl (by kernel_rfl) ?_
  (repeat' ((conv=>whnf);first|(with_reducible first|apply spl|apply spl'|refine iJ ?_)<;>intro hc<;>try(exfalso;omega)|refine vcq ?_|refine dr 12 ?_));all_goals(try conv=>whnf);try exact trivial
  refine a0b hc rfl ?_
  rintro _ rfl
  (repeat' ((conv=>whnf);first|(with_reducible first|apply spl|apply spl'|refine iJ ?_)<;>intro hc<;>try(exfalso;omega)|refine vcq ?_|refine dr 12 ?_));all_goals(try conv=>whnf);try exact trivial
  refine⟨_,.inr (.inr ⟨he,rfl⟩),?_⟩
  (repeat' ((conv=>whnf);first|(with_reducible first|apply spl|apply spl'|refine iJ ?_)<;>intro hc<;>try(exfalso;omega)|refine vcq ?_|refine dr 12 ?_));all_goals(try conv=>whnf);try exact trivial
theorem rheld17 (s:Sv) (hz:s.d.Z.length≤1000000) (hx:s.x.l.length≤1000000) (hsk:s.sk.length≤1000000) (hsec:s.sec.length≤1000000) (l:List Int) (hl:l.length≤1000000) (x:Int):a0h Tryz.prog 17 true [.agg s.c,.sl 1 l.length (a0e intC 0 l),.int .i64 x] (s.heldR l x):=by
 have hc:=checkCourse21 s hz hx hsk hsec l hl
 have hwi:=within55n x 0 100000
 by_cases he:s.cerr l=0
 ·obtain⟨h1,h2⟩:=Sv.cerr_ok he
  have hs:=Sv.err_ok h1
  have hcr:=h2.crs
  have hll:(l.map Int.toNat).length=l.length:=List.length_map ..
  have hf:=hs.few
  have hcl:=hcr.len
  have hk:=counts56 s hs _ hcr x
  have e1:=sav_last hs hcr x
  have e2:Sv.lastK (s.endW false (l.map Int.toNat)) x (l.map Int.toNat).length=Sv.cntK (s.endW false (l.map Int.toNat)) x s.W.length:=by
   rw[hcl]
   exact Sv.cnt_last (fun i j hij hj=>Sv.endW_up hs false hcr hij hj) _ (Nat.le_refl _)
  have hi1:=image31 s hs _ hcr (Sv.cntK (s.endW true (l.map Int.toNat)) x s.W.length) (by rw[hcl];exact Sv.cntK_le _ _ _)
  have hi2:=image31 s hs _ hcr (Sv.cntK (s.endW false (l.map Int.toNat)) x s.W.length) (by rw[hcl];exact Sv.cntK_le _ _ _)
  rw[e1,e2] at hk
  unfold Sv.sav at hk
  rw[←hcl,hll,←h2.1.row] at hk hi1 hi2
  unfold Sv.c at hc hk hi1 hi2 ⊢
  rw[he] at hc
  refine a0a Tryz.E_ok Tryz.func17 rfl (by kernel_rfl) ?_
  (repeat' ((conv=>whnf);first|(with_reducible first|apply spl|apply spl'|refine iJ ?_)<;>intro hc<;>try(exfalso;omega)|refine vcq ?_|refine dr 11 ?_));all_goals(try conv=>whnf);try exact trivial
  refine a0b hc rfl ?_
  rintro _ rfl
  (repeat' ((conv=>whnf);first|(with_reducible first|apply spl|apply spl'|refine iJ ?_)<;>intro hc<;>try(exfalso;omega)|refine vcq ?_|refine dr 11 ?_));all_goals(try conv=>whnf);try exact trivial
  refine a0b hwi rfl ?_
  rintro _ rfl
  (repeat' ((conv=>whnf);first|(with_reducible first|apply spl|apply spl'|refine iJ ?_)<;>intro hc<;>try(exfalso;omega)|refine vcq ?_|refine dr 11 ?_));all_goals(try conv=>whnf);try exact trivial
  ·refine⟨_,.inr (.inl ⟨he,hc,rfl⟩),?_⟩
   (repeat' ((conv=>whnf);first|(with_reducible first|apply spl|apply spl'|refine iJ ?_)<;>intro hc<;>try(exfalso;omega)|refine vcq ?_|refine dr 11 ?_));all_goals(try conv=>whnf);try exact trivial
  ·have htm:0≤x∧x≤100000:=Classical.not_not.1 hc
   clear hc
   refine a0b hk rfl ?_
   rintro _ rfl
   (repeat' ((conv=>whnf);first|(with_reducible first|apply spl|apply spl'|refine iJ ?_)<;>intro hc<;>try(exfalso;omega)|refine vcq ?_|refine dr 11 ?_));all_goals(try conv=>whnf);try exact trivial
   refine a0c hi1 rfl ?_
   (repeat' ((conv=>whnf);first|(with_reducible first|apply spl|apply spl'|refine iJ ?_)<;>intro hc<;>try(exfalso;omega)|refine vcq ?_|refine dr 11 ?_));all_goals(try conv=>whnf);try exact trivial
   refine a0c hi2 rfl ?_
   (repeat' ((conv=>whnf);first|(with_reducible first|apply spl|apply spl'|refine iJ ?_)<;>intro hc<;>try(exfalso;omega)|refine vcq ?_|refine dr 11 ?_));all_goals(try conv=>whnf);try exact trivial
   refine⟨_,.inl ⟨he,htm,rfl⟩,?_⟩
   rw[←hcl,hll]
   (repeat' ((conv=>whnf);first|(with_reducible first|apply spl|apply spl'|refine iJ ?_)<;>intro hc<;>try(exfalso;omega)|refine vcq ?_|refine dr 11 ?_));all_goals(try conv=>whnf);try exact trivial
 ·unfold Sv.c at hc ⊢
  refine a0a Tryz.E_ok Tryz.func17 rfl (by kernel_rfl) ?_
  (repeat' ((conv=>whnf);first|(with_reducible first|apply spl|apply spl'|refine iJ ?_)<;>intro hc<;>try(exfalso;omega)|refine vcq ?_|refine dr 11 ?_));all_goals(try conv=>whnf);try exact trivial
  refine a0b hc rfl ?_
  rintro _ rfl
  (repeat' ((conv=>whnf);first|(with_reducible first|apply spl|apply spl'|refine iJ ?_)<;>intro hc<;>try(exfalso;omega)|refine vcq ?_|refine dr 11 ?_));all_goals(try conv=>whnf);try exact trivial
  refine⟨_,.inr (.inr ⟨he,rfl⟩),?_⟩
  (repeat' ((conv=>whnf);first|(with_reducible first|apply spl|apply spl'|refine iJ ?_)<;>intro hc<;>try(exfalso;omega)|refine vcq ?_|refine dr 11 ?_));all_goals(try conv=>whnf);try exact trivial
noncomputable def bstP (s:Sv) (l:List Nat) (e:Int) (a b c d:Nat) (p:Prop) (dp:Decidable p):List O:=[.loop [.any,.any,.ptr a 0,.ptr b 0,.any,.ptr c 0,.ptr d 0,.any,.any,.any,.any,.any,.any,.any,.any,.any,.any,.any,.any,.any,.any,.any,.any,.any,.any,.any,.any,.any,.any,.any,.any,.any,.any,.any,.any,.any,.any,.any,.any,.any,.any,.any,.any,.any,.any] [20] (rfA Tryz.f13) (rfB Tryz.f13) .ready,.cells 31 [.sl 1 l.length (a0e natC 0 l)],.cells 3 [.int .i64 e],.cells 89 [.iptr s.oc],.cells 4 [.prop p dp]]
noncomputable def bstH (s:Sv) (t:List Nat×Int×Bool) (a b c d:Nat):List O:=bstP s t.1 t.2.1 a b c d (t.2.2=true) inferInstance
theorem round13 (s:Sv) (hs:s.Ok) (o:List Nat) (ho:IsCrs s.W o) (t:List Nat×Int×Bool):YCall Tryz.prog 0 [.sl 1 o.length (a0e natC 0 o)] (bstH s t 1 2 3 4) (fun v H'=>v=.kb true∧H'=bstH s (s.stepB t o) 1 2 3 4):=by
 have hn:=hs.few
 have hol:=ho.len
 have he:=ends47 s hs o (by omega) (fun x hx=>ho.lt x hx)
 have hlp:0<o.length→s.lastE o=s.endW true o (((o.length:Int)-1).toNat):=fun h=>by
  unfold Sv.lastE
  rw[if_neg (by omega),show(((o.length:Int)-1).toNat)=s.W.length-1 by omega]
 have hl0:¬0<o.length→s.lastE o=0:=fun h=>by
  unfold Sv.lastE
  rw[if_pos (by omega)]
 unfold Sv.oc at he
 unfold bstH bstP Sv.oc
 refine YCall.ent (K:=fun v H'=>v=.kb true∧∃p dp,(p↔(s.stepB t o).2.2=true)∧H'=bstP s (s.stepB t o).1 (s.stepB t o).2.1 1 2 3 4 p dp) (ycall_exec Tryz.E_ok rfl rfl rfl ?_) ?_
 ·(repeat' ((conv=>whnf);first|(with_reducible first|apply spl|apply spl'|refine iJ ?_)<;>intro hc<;>try(exfalso;omega)|refine vcq ?_|fail));all_goals(try conv=>whnf);try exact trivial
  refine a0b he rfl ?_
  rintro _ rfl
  (repeat' ((conv=>whnf);first|(with_reducible first|apply spl|apply spl'|refine iJ ?_)<;>intro hc<;>try(exfalso;omega)|refine vcq ?_|fail));all_goals(try conv=>whnf);try exact trivial
  ·have hlp:=hlp (by omega)
   rw[←hlp] at hc
   rw[←hlp,show s.stepB t o=(o,s.lastE o,true) from if_pos hc]
   exact⟨_,_,by simp,rfl⟩
  ·have hlp:=hlp (by omega)
   rw[←hlp] at hc
   rw[show s.stepB t o=t from if_neg hc]
   exact⟨_,_,Iff.rfl,rfl⟩
  ·have hl0:=hl0 (by omega)
   rw[←hl0] at hc
   rw[show s.stepB t o=(o,s.lastE o,true) from if_pos hc,hl0]
   exact⟨_,_,by simp,rfl⟩
  ·have hl0:=hl0 (by omega)
   rw[←hl0] at hc
   rw[show s.stepB t o=t from if_neg hc]
   exact⟨_,_,Iff.rfl,rfl⟩
 ·rintro v H' ⟨rfl,p,dp,hp,rfl⟩
  unfold bstP Sv.oc
  refine⟨_,_,⟨rfl,rfl⟩,some [some 0,some 1,some 2,some 3,some 4],?_⟩
  (repeat' ((conv=>whnf);first|(with_reducible first|apply spl|apply spl'|refine iJ ?_)<;>intro hc<;>try(exfalso;omega)|refine vcq ?_|fail));all_goals(try conv=>whnf);try exact trivial
theorem next13 (s:Sv) (hs:s.Ok):∀(m:Nat) (b:List Nat) (t:List Nat×Int×Bool) (nz:Bool),b.length+m=s.W.length→Ca.Pre s.W b→
  Sx.Callee Tryz.prog 87 [.osl 0 b.length,.ptr 1 0,.ptr 2 0,.ptr 3 0] (crsH s b nz++bstH s t 5 6 7 8) (fun v H'=>v=.kb true∧H'=crsH s b nz++bstH s (s.foldB t (Ca.crs (okP s.W) s.W.length m b)) 5 6 7 8)
 |0,b,t,nz,hl,hp=>by
  have hn:=hs.few
  have ho:IsCrs s.W b:=⟨by omega,hp.nd,hp.lt,hp.asc⟩
  cases nz
  all_goals
   unfold crsH Sv.oc
   refine a0o Tryz.E_ok Tryz.func87 rfl (by kernel_rfl) ?_
   (repeat' ((conv=>whnf);first|(with_reducible first|apply spl|apply spl'|refine iJ ?_)<;>intro hc<;>try(exfalso;omega)|refine vcq ?_|refine dr 2002 ?_));all_goals(try conv=>whnf);try exact trivial
   refine a0u Tryz.E_ok Tryz.func88 rfl (by kernel_rfl) ?_
   (repeat' ((conv=>whnf);first|(with_reducible first|apply spl|apply spl'|refine iJ ?_)<;>intro hc<;>try(exfalso;omega)|refine vcq ?_|refine dr 2002 ?_));all_goals(try conv=>whnf);try exact trivial
   all_goals(first|(refine ycall_frz rfl (by simp[a2g]) ?_))
   all_goals(refine ycall_frame [4,5,6,7,8] (round13 s hs b ho t) rfl rfl ?_ ?_)
   all_goals(first|(rintro _ _ ⟨rfl,rfl⟩;(repeat' ((conv=>whnf);first|(with_reducible first|apply spl|apply spl'|refine iJ ?_)<;>intro hc<;>try(exfalso;omega)|refine vcq ?_|refine dr 2021 ?_));all_goals((try conv=>whnf);try exact trivial))|(repeat' ((conv=>whnf);first|(with_reducible first|apply spl|apply spl'|refine iJ ?_)<;>intro hc<;>try(exfalso;omega)|refine vcq ?_|refine dr 2021 ?_));all_goals((try conv=>whnf);try exact trivial))
   all_goals(refine⟨_,_,⟨rfl,rfl⟩,some [some 0,some 1,some 2,some 3,some 4,some 5,some 6,some 7,some 8],?_⟩;(repeat' ((conv=>whnf);first|(with_reducible first|apply spl|apply spl'|refine iJ ?_)<;>intro hc<;>try(exfalso;omega)|refine vcq ?_|refine dr 2021 ?_));all_goals((try conv=>whnf);try exact trivial))
 |m+1,b,t,nz,hl,hp=>by
  have ih:=next13 s hs m
  have hn:=hs.few
  have hcon:=fun i=>contains83 b (by omega) i
  cases nz
  all_goals
   unfold crsH Sv.oc
   refine a0o Tryz.E_ok Tryz.func87 rfl (by kernel_rfl) ?_
   (repeat' ((conv=>whnf);first|(with_reducible first|apply spl|apply spl'|refine iJ ?_)<;>intro hc<;>try(exfalso;omega)|refine vcq ?_|refine dr 2021 ?_));all_goals(try conv=>whnf);try exact trivial
   refine⟨Nat×(List Nat×Int×Bool),fun p=>p.1≤s.W.length∧p.2=s.foldB t (crsP (okP s.W) s.W.length m b p.1),fun p=>s.W.length-p.1,fun p=>[(26,.int .i64 (p.1:Nat)),(6,.int .i64 (fstN b p.1))],fun p=>[(5,.cells 31 [.sl 1 p.2.1.length (a0e natC 0 p.2.1)]),(6,.cells 3 [.int .i64 p.2.2.1]),(8,.cells 4 [.prop (p.2.2.2=true) inferInstance])],fun _=>[],(0,t),⟨⟨by dsimp only;omega,rfl⟩,none,?_⟩,?_⟩
   ·(repeat' ((conv=>whnf);first|(with_reducible first|apply spl|apply spl'|refine iJ ?_)<;>intro hc<;>try(exfalso;omega)|refine vcq ?_|refine dr 2021 ?_));all_goals(try conv=>whnf);try exact trivial
    rfl
   ·rintro⟨i,u⟩ ⟨hi,hu⟩
    dsimp only at hi hu
    have hti:(i:Int).toNat=i:=Int.toNat_natCast i
    (repeat' ((conv=>whnf);first|(with_reducible first|apply spl|apply spl'|refine iJ ?_)<;>intro hc<;>try(exfalso;omega)|refine vcq ?_|refine dr 2021 ?_));all_goals(try conv=>whnf);try exact trivial
    ·have hil:i<s.W.length:=by omega
     have hfs:=fstN_spec b i
     rw[hti]
     refine a2a (hcon i) ?_
     (repeat' ((conv=>whnf);first|(with_reducible first|apply spl|apply spl'|refine iJ ?_)<;>intro hc<;>try(exfalso;omega)|refine vcq ?_|refine dr 2021 ?_));all_goals(try conv=>whnf);try exact trivial
     rintro _ rfl
     (repeat' ((conv=>whnf);first|(with_reducible first|apply spl|apply spl'|refine iJ ?_)<;>intro hc<;>try(exfalso;omega)|refine vcq ?_|refine dr 2021 ?_));all_goals(try conv=>whnf);try exact trivial
     ·have hin:i∈b:=by assumption
      refine⟨(i+1,u),⟨⟨by dsimp only;omega,by dsimp only;rw[crsP_no (fun g=>g.1 hin)];exact hu⟩,by dsimp only;omega⟩,some [some 0,some 1,some 2,some 3,some 4,some 5,some 6,some 7,some 8],?_⟩
      dsimp only
      rw[fstN_in hin]
      (repeat' ((conv=>whnf);first|(with_reducible first|apply spl|apply spl'|refine iJ ?_)<;>intro hc<;>try(exfalso;omega)|refine vcq ?_|refine dr 2021 ?_));all_goals(try conv=>whnf);try exact trivial
     ·have hnb:i∉b:=by assumption
      have hneg:fstN b i<0:=by assumption
      have hall:∀k,k<i→k∈b:=by
       rcases hfs with g|⟨f,g,_⟩
       ·exact g.2
       ·omega
      have hk:okP s.W b i:=(okP_of hil hnb (Nat.le_refl i) hnb hall).2 rfl
      have hlen:(b++[i]).length=b.length+1:=by simp
      refine a0f [11,1,2,3,4,5,6,7,8] (ih (b++[i]) u false (by rw[hlen];omega) (hp.snoc hil hk)) rfl ?_ ?_
      ·unfold crsH Sv.oc
       (repeat' ((conv=>whnf);first|(with_reducible first|apply spl|apply spl'|refine iJ ?_)<;>intro hc<;>try(exfalso;omega)|refine vcq ?_|refine dr 2021 ?_));all_goals(try conv=>whnf);try exact trivial
       refine⟨a2h rfl (fun _ _=>rfl),?_⟩
       (repeat' ((conv=>whnf);first|(with_reducible first|apply spl|apply spl'|refine iJ ?_)<;>intro hc<;>try(exfalso;omega)|refine vcq ?_|refine dr 2021 ?_));all_goals(try conv=>whnf);try exact trivial
      ·rintro _ _ ⟨rfl,rfl⟩
       (repeat' ((conv=>whnf);first|(with_reducible first|apply spl|apply spl'|refine iJ ?_)<;>intro hc<;>try(exfalso;omega)|refine vcq ?_|refine dr 2021 ?_));all_goals(try conv=>whnf);try exact trivial
       refine⟨(i+1,s.foldB u (Ca.crs (okP s.W) s.W.length m (b++[i]))),⟨⟨by dsimp only;omega,by dsimp only;rw[hu,crsP_yes hk];exact List.foldl_append.symm⟩,by dsimp only;omega⟩,some [some 0,some 1,some 2,some 3,some 4,some 5,some 6,some 7,some 8],?_⟩
       dsimp only
       rw[fstN_new hnb hneg]
       (repeat' ((conv=>whnf);first|(with_reducible first|apply spl|apply spl'|refine iJ ?_)<;>intro hc<;>try(exfalso;omega)|refine vcq ?_|refine dr 2021 ?_));all_goals(try conv=>whnf);try exact trivial
     ·exfalso
      dsimp only at hc
      rw[hti] at hc
      exact hc rfl
     ·have hnb:i∉b:=by assumption
      have hneg:¬fstN b i<0:=by assumption
      obtain⟨f,hf1,hf2,hf3,hf4⟩:=hfs.resolve_left (fun g=>hneg (by rw[g.1];omega))
      have htf:(fstN b i).toNat=f:=by rw[hf1];exact Int.toNat_natCast f
      have hkk:=okP_of hil hnb (Nat.le_of_lt hf2) hf3 hf4
      dsimp only
      refine And.intro ⟨by omega,by omega⟩ ?_
      rw[htf]
      (repeat' ((conv=>whnf);first|(with_reducible first|apply spl|apply spl'|refine iJ ?_)<;>intro hc<;>try(exfalso;omega)|refine vcq ?_|refine dr 2021 ?_));all_goals(try conv=>whnf);try exact trivial
      ·have hk:okP s.W b i:=hkk.2 hc
       have hlen:(b++[i]).length=b.length+1:=by simp
       refine a0f [11,1,2,3,4,5,6,7,8] (ih (b++[i]) u false (by rw[hlen];omega) (hp.snoc hil hk)) rfl ?_ ?_
       ·unfold crsH Sv.oc
        (repeat' ((conv=>whnf);first|(with_reducible first|apply spl|apply spl'|refine iJ ?_)<;>intro hc<;>try(exfalso;omega)|refine vcq ?_|refine dr 2021 ?_));all_goals(try conv=>whnf);try exact trivial
        refine⟨a2h rfl (fun _ _=>rfl),?_⟩
        (repeat' ((conv=>whnf);first|(with_reducible first|apply spl|apply spl'|refine iJ ?_)<;>intro hc<;>try(exfalso;omega)|refine vcq ?_|refine dr 2021 ?_));all_goals(try conv=>whnf);try exact trivial
       ·rintro _ _ ⟨rfl,rfl⟩
        (repeat' ((conv=>whnf);first|(with_reducible first|apply spl|apply spl'|refine iJ ?_)<;>intro hc<;>try(exfalso;omega)|refine vcq ?_|refine dr 2021 ?_));all_goals(try conv=>whnf);try exact trivial
        refine⟨(i+1,s.foldB u (Ca.crs (okP s.W) s.W.length m (b++[i]))),⟨⟨by dsimp only;omega,by dsimp only;rw[hu,crsP_yes hk];exact List.foldl_append.symm⟩,by dsimp only;omega⟩,some [some 0,some 1,some 2,some 3,some 4,some 5,some 6,some 7,some 8],?_⟩
        dsimp only
        rw[fstN_old hneg]
        (repeat' ((conv=>whnf);first|(with_reducible first|apply spl|apply spl'|refine iJ ?_)<;>intro hc<;>try(exfalso;omega)|refine vcq ?_|refine dr 2021 ?_));all_goals(try conv=>whnf);try exact trivial
      ·have hk:¬okP s.W b i:=fun g=>hc (hkk.1 g)
       refine⟨(i+1,u),⟨⟨by dsimp only;omega,by dsimp only;rw[crsP_no hk];exact hu⟩,by dsimp only;omega⟩,some [some 0,some 1,some 2,some 3,some 4,some 5,some 6,some 7,some 8],?_⟩
       dsimp only
       rw[fstN_old hneg]
       (repeat' ((conv=>whnf);first|(with_reducible first|apply spl|apply spl'|refine iJ ?_)<;>intro hc<;>try(exfalso;omega)|refine vcq ?_|refine dr 2021 ?_));all_goals(try conv=>whnf);try exact trivial
    ·obtain rfl:i=s.W.length:=by omega
     subst hu
     refine⟨_,_,⟨rfl,rfl⟩,some [some 0,some 1,some 2,some 3,some 4,some 5,some 6,some 7,some 8],?_⟩
     (repeat' ((conv=>whnf);first|(with_reducible first|apply spl|apply spl'|refine iJ ?_)<;>intro hc<;>try(exfalso;omega)|refine vcq ?_|refine dr 2021 ?_));all_goals(try conv=>whnf);try exact trivial
theorem best13 (s:Sv) (hz:s.d.Z.length≤1000000) (hl:s.x.l.length≤1000000) (hsk:s.sk.length≤1000000) (hsec:s.sec.length≤1000000):a0h Tryz.prog 13 true [.agg s.c]
  (fun v=>(s.err=0∧v=.tup [.sl 1 s.best.1.length (a0e natC 0 s.best.1),.int .i64 s.best.2,.int .i64 0])∨s.err≠0∧v=.tup [.lit (.slice none 0 0),.int .i64 0,.int .i64 s.err]):=by
 have ho:=open45 s hz hl hsk hsec
 rw[Sv.ov_eq] at ho
 unfold Sv.c at ho ⊢
 refine a0a Tryz.E_ok Tryz.func13 rfl (by kernel_rfl) ?_
 (repeat' ((conv=>whnf);first|(with_reducible first|apply spl|apply spl'|refine iJ ?_)<;>intro hc<;>try(exfalso;omega)|refine vcq ?_|refine dr 2002 ?_));all_goals(try conv=>whnf);try exact trivial
 refine a0b ho rfl ?_
 rintro _ (⟨he,rfl⟩|⟨he,rfl⟩)
 ·have hs:=Sv.err_ok he
  have hn:=hs.few
  have hnx:=next13 s hs s.W.length [] ([],0,false) true (by simp) (Ca.Pre.nil _)
  have hfa:=s.foldB_all
  unfold Ca.allCrs at hfa
  rw[hfa] at hnx
  unfold crsH bstH bstP Sv.oc at hnx
  unfold Sv.oc
  (repeat' ((conv=>whnf);first|(with_reducible first|apply spl|apply spl'|refine iJ ?_)<;>intro hc<;>try(exfalso;omega)|refine vcq ?_|refine dr 2002 ?_));all_goals(try conv=>whnf);try exact trivial
  refine a0u Tryz.E_ok Tryz.func46 rfl (by kernel_rfl) ?_
  (repeat' ((conv=>whnf);first|(with_reducible first|apply spl|apply spl'|refine iJ ?_)<;>intro hc<;>try(exfalso;omega)|refine vcq ?_|refine dr 2002 ?_));all_goals(try conv=>whnf);try exact trivial
  refine callee_nil 3 1 (a0e natC 0 []) ?_
  (repeat' ((conv=>whnf);first|(with_reducible first|apply spl|apply spl'|refine iJ ?_)<;>intro hc<;>try(exfalso;omega)|refine vcq ?_|refine dr 2002 ?_));all_goals(try conv=>whnf);try exact trivial
  refine⟨?_,?_⟩
  ·(repeat' ((conv=>whnf);first|(with_reducible first|apply spl|apply spl'|refine iJ ?_)<;>intro hc<;>try(exfalso;omega)|refine vcq ?_|refine dr 2002 ?_));all_goals(try conv=>whnf);try exact trivial
  ·refine a0f [9,6,7,8,5,1,2,3,4] hnx rfl ?_ ?_
   ·(repeat' ((conv=>whnf);first|(with_reducible first|apply spl|apply spl'|refine iJ ?_)<;>intro hc<;>try(exfalso;omega)|refine vcq ?_|refine dr 2002 ?_));all_goals(try conv=>whnf);try exact trivial
    refine⟨by simp,?_⟩
    (repeat' ((conv=>whnf);first|(with_reducible first|apply spl|apply spl'|refine iJ ?_)<;>intro hc<;>try(exfalso;omega)|refine vcq ?_|refine dr 2002 ?_));all_goals(try conv=>whnf);try exact trivial
   ·rintro _ _ ⟨rfl,rfl⟩
    (repeat' ((conv=>whnf);first|(with_reducible first|apply spl|apply spl'|refine iJ ?_)<;>intro hc<;>try(exfalso;omega)|refine vcq ?_|refine dr 2002 ?_));all_goals(try conv=>whnf);try exact trivial
    refine⟨_,.inl ⟨he,rfl⟩,?_⟩
    (repeat' ((conv=>whnf);first|(with_reducible first|apply spl|apply spl'|refine iJ ?_)<;>intro hc<;>try(exfalso;omega)|refine vcq ?_|refine dr 2002 ?_));all_goals(try conv=>whnf);try exact trivial
 ·(repeat' ((conv=>whnf);first|(with_reducible first|apply spl|apply spl'|refine iJ ?_)<;>intro hc<;>try(exfalso;omega)|refine vcq ?_|refine dr 2002 ?_));all_goals(try conv=>whnf);try exact trivial
  refine⟨_,.inr ⟨he,rfl⟩,?_⟩
  (repeat' ((conv=>whnf);first|(with_reducible first|apply spl|apply spl'|refine iJ ?_)<;>intro hc<;>try(exfalso;omega)|refine vcq ?_|refine dr 2002 ?_));all_goals(try conv=>whnf);try exact trivial
end Go.Proofs
