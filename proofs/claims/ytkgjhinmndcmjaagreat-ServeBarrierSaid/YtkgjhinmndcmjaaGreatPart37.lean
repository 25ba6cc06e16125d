/- Own work: texts of the proof of a law (WuC, WuM0, WuM, WuE, WuF, WuN, WuH, WuD0, WuD). No condition. -/
import Derived.Test.YtkgjhinmndcmjaaGreatPart36
import Derived.Test.YtkgjhinmndcmjaaGreatPart29
import Derived.Test.YtkgjhinmndcmjaaGreatPart0
import Derived.Test.YtkgjhinmndcmjaaGreatPart11
set_option linter.unusedVariables false
set_option linter.unusedSimpArgs false
namespace Go.Proofs
open Go Go.Sx
set_option maxRecDepth 100000
set_option maxHeartbeats 40000000
open Ca (Wt epW IsCrs okR okP)
def crsH (s:Sv) (b:List Nat) (nz:Bool):List O:=[.row 3 1 b.length (a0e natC 0 b) nz,.cells 89 [.iptr s.oc],.cells 148 [.yld 4],.cells 148 [.fn (.func 87) [] [.ptr 1 0,.ptr 2 0,.ptr 3 0]]]
def fstN (b:List Nat):Nat→Int
 |0=>-1
 |i+1=>if fstN b i<0∧i∉b then i else fstN b i
theorem fstN_spec (b:List Nat):∀i,(fstN b i=-1∧∀k,k<i→k∈b)∨∃f:Nat,fstN b i=f∧f<i∧f∉b∧∀k,k<f→k∈b
 |0=>.inl ⟨rfl,fun k hk=>by omega⟩
 |i+1=>by
  unfold fstN
  rcases fstN_spec b i with⟨h1,h2⟩|⟨f,h1,h2,h3,h4⟩
  ·by_cases hb:i∈b
   ·rw[if_neg (fun g=>g.2 hb)]
    refine .inl ⟨h1,fun k hk=>?_⟩
    rcases a0I (a2C hk) with g|g
    ·exact h2 k g
    ·rw[g];exact hb
   ·rw[if_pos ⟨by omega,hb⟩]
    exact .inr ⟨i,rfl,by omega,hb,h2⟩
  ·rw[if_neg (fun g=>by omega)]
   exact .inr ⟨f,h1,by omega,h3,h4⟩
theorem fstN_in {b:List Nat} {i:Nat} (h:i∈b):fstN b (i+1)=fstN b i:=by
 rw[fstN,if_neg (fun g=>g.2 h)]
theorem fstN_new {b:List Nat} {i:Nat} (h:i∉b) (h0:fstN b i<0):fstN b (i+1)=i:=by
 rw[fstN,if_pos ⟨h0,h⟩]
theorem fstN_old {b:List Nat} {i:Nat} (h0:¬fstN b i<0):fstN b (i+1)=fstN b i:=by
 rw[fstN,if_neg (fun g=>h0 g.1)]
theorem Sv.ep_up (s:Sv) {j k:Nat} (hjk:j≤k) (hk:k<s.W.length):epW s.W j≤epW s.W k:=by
 rcases a0I hjk with g|g
 ·have h:=Ca.RS.ents_sorted s.n s.st
  rw[a0T] at h
  have:=h j k (by show j<s.W.length;omega) hk g
  have e:∀i (hi:i<s.W.length),epW s.W i=(s.W[i]'hi).1:=fun i hi=>by
   unfold epW
   rw[a0A,a0C hi]
   rfl
  rw[e j (by omega),e k hk]
  unfold Ca.ltK at this
  show(s.W[j]'_).1≤(s.W[k]'_).1
  have h2:(s.W[j]'(by omega)).1<(s.W[k]'hk).1∨(s.W[j]'(by omega)).1=(s.W[k]'hk).1∧(s.W[j]'(by omega)).2.1<(s.W[k]'hk).2.1:=this
  omega
 ·rw[g];exact a0K _
theorem okP_of {s:Sv} {b:List Nat} {i f:Nat} (hi:i<s.W.length) (hb:i∉b) (hfi:f≤i) (hf:f∉b) (hlow:∀k,k<f→k∈b):okP s.W b i↔((s.W.getD i wt0).1:Int)=(s.W.getD f wt0).1:=by
 have h1:=s.ep_up hfi hi
 constructor
 ·rintro⟨_,h⟩
  have h2:=h f (by omega) hf
  unfold epW at h1 h2
  show((s.W.getD i (0,0,0)).1:Int)=(s.W.getD f (0,0,0)).1
  omega
 ·intro h
  refine⟨hb,fun k hk hkb=>?_⟩
  have hfk:f≤k:=a2U fun g=>hkb (hlow k g)
  have h2:=s.ep_up hfk hk
  have h:((s.W.getD i (0,0,0)).1:Int)=(s.W.getD f (0,0,0)).1:=h
  unfold epW at h2 ⊢
  omega
/-! ### the best course,and the one that saves the most,as the program looks for them -/
def Sv.stepB (s:Sv) (t:List Nat×Int×Bool) (o:List Nat):List Nat×Int×Bool:=if ¬t.2.2=true∨s.lastE o<t.2.1 then(o,s.lastE o,true) else t
def Sv.foldB (s:Sv) (t:List Nat×Int×Bool) (L:List (List Nat)):List Nat×Int×Bool:=L.foldl s.stepB t
def Sv.stepM (s:Sv) (x:Int) (t:List Nat×Int×Bool) (o:List Nat):List Nat×Int×Bool:=if ¬t.2.2=true∨t.2.1<s.sav x o then(o,s.sav x o,true) else t
def Sv.foldM (s:Sv) (x:Int) (t:List Nat×Int×Bool) (L:List (List Nat)):List Nat×Int×Bool:=L.foldl (s.stepM x) t
theorem Sv.foldB_eq (s:Sv):∀(L:List (List Nat)) (t:List Nat×Int),s.foldB (t.1,t.2,true) L=((s.foldE t L).1,(s.foldE t L).2,true)
 |[],_=>rfl
 |o :: L,t=>by
  have e1:s.foldB (t.1,t.2,true) (o :: L)=s.foldB (s.stepB (t.1,t.2,true) o) L:=rfl
  have e2:s.foldE t (o :: L)=s.foldE (s.stepE t o) L:=rfl
  rw[e1,e2,←Sv.foldB_eq s L]
  congr 1
  unfold Sv.stepB Sv.stepE
  by_cases h:s.lastE o<t.2
  ·rw[if_pos h,if_pos (.inr h)]
  ·rw[if_neg h,if_neg (by rintro(g|g);exact g rfl;exact h g)]
theorem Sv.foldM_eq (s:Sv) (x:Int):∀(L:List (List Nat)) (t:List Nat×Int),s.foldM x (t.1,t.2,true) L=((s.foldV x t L).1,(s.foldV x t L).2,true)
 |[],_=>rfl
 |o :: L,t=>by
  have e1:s.foldM x (t.1,t.2,true) (o :: L)=s.foldM x (s.stepM x (t.1,t.2,true) o) L:=rfl
  have e2:s.foldV x t (o :: L)=s.foldV x (s.stepV x t o) L:=rfl
  rw[e1,e2,←Sv.foldM_eq s x L]
  congr 1
  unfold Sv.stepM Sv.stepV
  by_cases h:t.2<s.sav x o
  ·rw[if_pos h,if_pos (.inr h)]
  ·rw[if_neg h,if_neg (by rintro(g|g);exact g rfl;exact h g)]
theorem Sv.foldB_all (s:Sv):s.foldB ([],0,false) (Ca.allCrs s.W)=(s.best.1,s.best.2,true):=by
 obtain⟨o,L,h⟩:=List.exists_cons_of_ne_nil (Ca.allCrs_ne s.n s.st)
 have h:Ca.allCrs s.W=o :: L:=h
 have hc:s.c0=o:=by unfold Sv.c0;rw[h];rfl
 unfold Sv.best
 rw[h,hc]
 have e1:s.foldB ([],0,false) (o :: L)=s.foldB (s.stepB ([],0,false) o) L:=rfl
 have e2:s.foldE (o,s.lastE o) (o :: L)=s.foldE (s.stepE (o,s.lastE o) o) L:=rfl
 have e3:s.stepB ([],0,false) o=(o,s.lastE o,true):=by unfold Sv.stepB;rw[if_pos (.inl (by simp))]
 have e4:s.stepE (o,s.lastE o) o=(o,s.lastE o):=by unfold Sv.stepE;rw[if_neg (by dsimp only;omega)]
 rw[e1,e2,e3,e4]
 exact s.foldB_eq L (o,s.lastE o)
theorem Sv.foldM_all (s:Sv) (x:Int):s.foldM x ([],0,false) (Ca.allCrs s.W)=((s.most x).1,(s.most x).2,true):=by
 obtain⟨o,L,h⟩:=List.exists_cons_of_ne_nil (Ca.allCrs_ne s.n s.st)
 have h:Ca.allCrs s.W=o :: L:=h
 have hc:s.c0=o:=by unfold Sv.c0;rw[h];rfl
 unfold Sv.most
 rw[h,hc]
 have e1:s.foldM x ([],0,false) (o :: L)=s.foldM x (s.stepM x ([],0,false) o) L:=rfl
 have e2:s.foldV x (o,s.sav x o) (o :: L)=s.foldV x (s.stepV x (o,s.sav x o) o) L:=rfl
 have e3:s.stepM x ([],0,false) o=(o,((s.sav x o:Nat):Int),true):=by unfold Sv.stepM;rw[if_pos (.inl (by simp))]
 have e4:s.stepV x (o,s.sav x o) o=(o,((s.sav x o:Nat):Int)):=by unfold Sv.stepV;rw[if_neg (by dsimp only;omega)]
 rw[e1,e2,e3,e4]
 exact s.foldM_eq x L (o,s.sav x o)
theorem isTime52 (n:Int):a0g Tryz.prog 52 false [.int .i64 n] (·=.prop (0≤n∧n≤100000) inferInstance):=by
 refine a0a Tryz.E_ok Tryz.func52 rfl (by kernel_rfl) ?_
 refine x1 ?_
 refine⟨_,rfl,?_⟩
 exact xc0
theorem kept53 (s:Sv) (hs:s.Ok) (o:List Nat) (ho:IsCrs s.W o) (t:Int):a0g Tryz.prog 53 false [.iptr s.oc,.sl 1 o.length (a0e natC 0 o),.int .i64 t] (·=.tup [.int .i64 (Sv.cntK (s.endW true o) t o.length:Nat),.int .i64 (Sv.cntK (s.endW false o) t o.length:Nat)]):=by
 have hn:=hs.few
 have hl:=ho.len
 have he:=ends47 s hs o (by omega) (fun x hx=>ho.lt x hx)
 unfold Sv.oc at he ⊢
 refine a0a Tryz.E_ok Tryz.func53 rfl (by kernel_rfl) ?_
 refine x1 ?_
 refine a0b he rfl ?_
 rintro _ rfl
 refine x1 ?_
 refine⟨Nat,fun i=>i≤o.length,fun i=>o.length-i,fun i=>[(14,.int .i64 (i:Nat)),(6,.int .i64 (Sv.cntK (s.endW true o) t i:Nat)),(7,.int .i64 (Sv.cntK (s.endW false o) t i:Nat)),(9,.any)],fun _=>[],fun _=>[],0,⟨by omega,some [],?_⟩,?_⟩
 ·exact xc0
 ·intro i hi
  have hi:i≤o.length:=hi
  have hti:(i:Int).toNat=i:=a0E i
  have h1:=Sv.cntK_le (s.endW true o) t i
  have h2:=Sv.cntK_le (s.endW false o) t i
  (repeat' ((conv=>whnf);first|(with_reducible first|apply spl|apply spl'|refine iJ ?_)<;>intro hc<;>try(exfalso;omega)|refine vcq ?_|fail));all_goals(try conv=>whnf);try exact trivial
  ·rw[hti] at *
   refine⟨i+1,⟨by omega,by dsimp only;omega⟩,some [],?_⟩
   dsimp only
   rw[cntK_yes (f:=s.endW true o) (by assumption),cntK_yes (f:=s.endW false o) (by assumption)]
   exact xc0
  ·rw[hti] at *
   refine⟨i+1,⟨by omega,by dsimp only;omega⟩,some [],?_⟩
   dsimp only
   rw[cntK_yes (f:=s.endW true o) (by assumption),cntK_no (f:=s.endW false o) (by assumption)]
   exact xc0
  ·rw[hti] at *
   refine⟨i+1,⟨by omega,by dsimp only;omega⟩,some [],?_⟩
   dsimp only
   rw[cntK_no (f:=s.endW true o) (by assumption),cntK_yes (f:=s.endW false o) (by assumption)]
   exact xc0
  ·rw[hti] at *
   refine⟨i+1,⟨by omega,by dsimp only;omega⟩,some [],?_⟩
   dsimp only
   rw[cntK_no (f:=s.endW true o) (by assumption),cntK_no (f:=s.endW false o) (by assumption)]
   exact xc0
  ·obtain rfl:i=o.length:=by omega
   refine⟨_,rfl,?_⟩
   exact xc0
noncomputable def mstP (s:Sv) (x:Int) (l:List Nat) (e:Int) (a b c d f:Nat) (p:Prop) (dp:Decidable p):List O:=[.loop [.any,.any,.any,.ptr a 0,.ptr b 0,.ptr c 0,.any,.ptr d 0,.ptr f 0,.any,.any,.any,.any,.any,.any,.any,.any,.any,.any,.any,.any,.any,.any,.any,.any,.any,.any,.any,.any,.any,.any,.any,.any,.any,.any,.any,.any,.any,.any,.any,.any,.any,.any,.any] [25] (rfA Tryz.f18) (rfB Tryz.f18) .ready,.cells 3 [.int .i64 x],.cells 31 [.sl 1 l.length (a0e natC 0 l)],.cells 3 [.int .i64 e],.cells 89 [.iptr s.oc],.cells 4 [.prop p dp]]
noncomputable def mstH (s:Sv) (x:Int) (t:List Nat×Int×Bool) (a b c d f:Nat):List O:=mstP s x t.1 t.2.1 a b c d f (t.2.2=true) inferInstance
theorem round18 (s:Sv) (hs:s.Ok) (x:Int) (o:List Nat) (ho:IsCrs s.W o) (t:List Nat×Int×Bool):YCall Tryz.prog 0 [.sl 1 o.length (a0e natC 0 o)] (mstH s x t 1 2 3 4 5) (fun v H'=>v=.kb true∧H'=mstH s x (s.stepM x t o) 1 2 3 4 5):=by
 have hn:=hs.few
 have hol:=ho.len
 have he:=kept53 s hs o ho x
 have hsv:Sv.cntK (s.endW true o) x o.length=s.sav x o:=by rw[hol];rfl
 rw[hsv] at he
 unfold Sv.oc at he
 unfold mstH mstP Sv.oc
 refine YCall.ent (K:=fun v H'=>v=.kb true∧∃p dp,(p↔(s.stepM x t o).2.2=true)∧H'=mstP s x (s.stepM x t o).1 (s.stepM x t o).2.1 1 2 3 4 5 p dp) (ycall_exec Tryz.E_ok rfl rfl rfl ?_) ?_
 ·refine x1 ?_
  refine a0b he rfl ?_
  rintro _ rfl
  refine x3 (fun hc=>?_) (fun hc=>?_)
  ·rw[show s.stepM x t o=(o,((s.sav x o:Nat):Int),true) from if_pos hc]
   exact⟨_,_,by simp,rfl⟩
  ·rw[show s.stepM x t o=t from if_neg hc]
   exact⟨_,_,a2W,rfl⟩
 ·rintro v H' ⟨rfl,p,dp,hp,rfl⟩
  unfold mstP Sv.oc
  refine⟨_,_,⟨rfl,rfl⟩,some [some 0,some 1,some 2,some 3,some 4,some 5],?_⟩
  exact xc0
theorem next18 (s:Sv) (hs:s.Ok) (x:Int):∀(m:Nat) (b:List Nat) (t:List Nat×Int×Bool) (nz:Bool),b.length+m=s.W.length→Ca.Pre s.W b→
  Sx.Callee Tryz.prog 87 [.osl 0 b.length,.ptr 1 0,.ptr 2 0,.ptr 3 0] (crsH s b nz++mstH s x t 5 6 7 8 9) (fun v H'=>v=.kb true∧H'=crsH s b nz++mstH s x (s.foldM x t (Ca.crs (okP s.W) s.W.length m b)) 5 6 7 8 9)
 |0,b,t,nz,hl,hp=>by
  have hn:=hs.few
  have ho:IsCrs s.W b:=⟨by omega,hp.nd,hp.lt,hp.asc⟩
  cases nz
  all_goals
   unfold crsH Sv.oc
   refine a0k Tryz.E_ok Tryz.func87 rfl (by kernel_rfl) ?_
   refine x11 (fun hc=>?_)
   refine a0r Tryz.E_ok Tryz.func88 rfl (by kernel_rfl) ?_
   (repeat' ((conv=>whnf);first|(with_reducible first|apply spl|apply spl'|refine iJ ?_)<;>intro hc<;>try(exfalso;omega)|refine vcq ?_|refine dr 2002 ?_));all_goals(try conv=>whnf);try exact trivial
   all_goals(first|(refine ycall_frz rfl (by simp[a2n]) ?_))
   all_goals(refine ycall_frame [4,5,6,7,8,9] (round18 s hs x b ho t) rfl rfl ?_ ?_)
   all_goals(first|(rintro _ _ ⟨rfl,rfl⟩;refine x12 ?_)|exact xc8)
   all_goals(refine⟨_,_,⟨rfl,rfl⟩,some [some 0,some 1,some 2,some 3,some 4,some 5,some 6,some 7,some 8,some 9],?_⟩;exact xc8)
 |m+1,b,t,nz,hl,hp=>by
  have ih:=next18 s hs x m
  have hn:=hs.few
  have hcon:=fun i=>contains83 b (by omega) i
  cases nz
  all_goals
   unfold crsH Sv.oc
   refine a0k Tryz.E_ok Tryz.func87 rfl (by kernel_rfl) ?_
   refine x12 (fun hc=>?_)
   refine⟨Nat×(List Nat×Int×Bool),fun p=>p.1≤s.W.length∧p.2=s.foldM x t (crsP (okP s.W) s.W.length m b p.1),fun p=>s.W.length-p.1,fun p=>[(26,.int .i64 (p.1:Nat)),(6,.int .i64 (fstN b p.1))],fun p=>[(6,.cells 31 [.sl 1 p.2.1.length (a0e natC 0 p.2.1)]),(7,.cells 3 [.int .i64 p.2.2.1]),(9,.cells 4 [.prop (p.2.2.2=true) inferInstance])],fun _=>[],(0,t),⟨⟨by dsimp only;omega,rfl⟩,none,?_⟩,?_⟩
   ·refine x12 ?_
    rfl
   ·rintro⟨i,u⟩ ⟨hi,hu⟩
    dsimp only at hi hu
    have hti:(i:Int).toNat=i:=a0E i
    refine x61 (fun hc=>?_) (fun hc=>?_)
    ·have hil:i<s.W.length:=by omega
     have hfs:=fstN_spec b i
     rw[hti]
     refine a0u (hcon i) ?_
     refine x12 ?_
     rintro _ rfl
     (repeat' ((conv=>whnf);first|(with_reducible first|apply spl|apply spl'|refine iJ ?_)<;>intro hc<;>try(exfalso;omega)|refine vcq ?_|refine dr 2021 ?_));all_goals(try conv=>whnf);try exact trivial
     ·have hin:i∈b:=by assumption
      refine⟨(i+1,u),⟨⟨by dsimp only;omega,by dsimp only;rw[crsP_no (fun g=>g.1 hin)];exact hu⟩,by dsimp only;omega⟩,some [some 0,some 1,some 2,some 3,some 4,some 5,some 6,some 7,some 8,some 9],?_⟩
      dsimp only
      rw[fstN_in hin]
      exact xc8
     ·have hnb:i∉b:=by assumption
      have hneg:fstN b i<0:=by assumption
      have hall:∀k,k<i→k∈b:=by
       rcases hfs with g|⟨f,g,_⟩
       ·exact g.2
       ·omega
      have hk:okP s.W b i:=(okP_of hil hnb (a0K i) hnb hall).2 rfl
      have hlen:(b++[i]).length=b.length+1:=by simp
      refine a0c [12,1,2,3,4,5,6,7,8,9] (ih (b++[i]) u false (by rw[hlen];omega) (hp.snoc hil hk)) rfl ?_ ?_
      ·unfold crsH Sv.oc
       refine x12 ?_
       refine⟨a1q rfl (fun _ _=>rfl),?_⟩
       exact xc8
      ·rintro _ _ ⟨rfl,rfl⟩
       refine x12 ?_
       refine⟨(i+1,s.foldM x u (Ca.crs (okP s.W) s.W.length m (b++[i]))),⟨⟨by dsimp only;omega,by dsimp only;rw[hu,crsP_yes hk];exact List.foldl_append.symm⟩,by dsimp only;omega⟩,some [some 0,some 1,some 2,some 3,some 4,some 5,some 6,some 7,some 8,some 9],?_⟩
       dsimp only
       rw[fstN_new hnb hneg]
       exact xc8
     ·exfalso
      dsimp only at hc
      rw[hti] at hc
      exact hc rfl
     ·have hnb:i∉b:=by assumption
      have hneg:¬fstN b i<0:=by assumption
      obtain⟨f,hf1,hf2,hf3,hf4⟩:=hfs.resolve_left (fun g=>hneg (by rw[g.1];omega))
      have htf:(fstN b i).toNat=f:=by rw[hf1];exact a0E f
      have hkk:=okP_of hil hnb (Nat.le_of_lt hf2) hf3 hf4
      dsimp only
      refine And.intro ⟨by omega,by omega⟩ ?_
      rw[htf]
      refine x61 (fun hc=>?_) (fun hc=>?_)
      ·have hk:okP s.W b i:=hkk.2 hc
       have hlen:(b++[i]).length=b.length+1:=by simp
       refine a0c [12,1,2,3,4,5,6,7,8,9] (ih (b++[i]) u false (by rw[hlen];omega) (hp.snoc hil hk)) rfl ?_ ?_
       ·unfold crsH Sv.oc
        refine x12 ?_
        refine⟨a1q rfl (fun _ _=>rfl),?_⟩
        exact xc8
       ·rintro _ _ ⟨rfl,rfl⟩
        refine x12 ?_
        refine⟨(i+1,s.foldM x u (Ca.crs (okP s.W) s.W.length m (b++[i]))),⟨⟨by dsimp only;omega,by dsimp only;rw[hu,crsP_yes hk];exact List.foldl_append.symm⟩,by dsimp only;omega⟩,some [some 0,some 1,some 2,some 3,some 4,some 5,some 6,some 7,some 8,some 9],?_⟩
        dsimp only
        rw[fstN_old hneg]
        exact xc8
      ·have hk:¬okP s.W b i:=fun g=>hc (hkk.1 g)
       refine⟨(i+1,u),⟨⟨by dsimp only;omega,by dsimp only;rw[crsP_no hk];exact hu⟩,by dsimp only;omega⟩,some [some 0,some 1,some 2,some 3,some 4,some 5,some 6,some 7,some 8,some 9],?_⟩
       dsimp only
       rw[fstN_old hneg]
       exact xc8
    ·obtain rfl:i=s.W.length:=by omega
     subst hu
     refine⟨_,_,⟨rfl,rfl⟩,some [some 0,some 1,some 2,some 3,some 4,some 5,some 6,some 7,some 8,some 9],?_⟩
     exact xc8
end Go.Proofs
namespace Go.Proofs
open Go Go.Sx
set_option maxRecDepth 100000
set_option maxHeartbeats 40000000
open Ca (Wt epW IsCrs okR okP putM medC entC)
def Sv.img (s:Sv) (o:List Nat) (k:Nat):Nat→Int:=medC s.W s.st.M o k
theorem image54 (s:Sv) (hs:s.Ok) (o:List Nat) (ho:IsCrs s.W o) (many:Nat) (hm:many≤o.length):a0g Tryz.prog 54 true [.iptr s.oc,.sl 1 o.length (a0e natC 0 o),.int .i64 many] (·=.sl 1 s.n (mdC (s.img o many))):=by
 have hn:=hs.few
 have hl:=ho.len
 have hni:=Sv.nI hs.x
 have hn1:0<s.n:=by have:=hs.x.n;omega
 have hn2:=(Sv.at_small hs.x (a0K _)).2.2.2.1
 unfold Sv.oc
 refine a0a Tryz.E_ok Tryz.func54 rfl (by kernel_rfl) ?_
 refine x5 ?_
 refine a0r Tryz.E_ok Tryz.func88 rfl (by kernel_rfl) ?_
 refine x5 ?_
 refine⟨Nat,fun i=>i≤many,fun i=>many-i,fun i=>[(19,.int .i64 (i:Nat)),(9,.any),(7,.osl 1 s.n)],fun i=>[(1,.row 3 1 s.n (mdC (s.img o i)) false)],fun _=>[],0,⟨by omega,some [some 0,some 1],?_⟩,?_⟩
 ·exact xc17
 ·intro i hi
  have hi:i≤many:=hi
  have hti:(0:Int).toNat+(i:Int).toNat=i:=by simp
  (repeat' ((conv=>whnf);first|(with_reducible first|apply spl|apply spl'|refine iJ ?_)<;>intro hc<;>try(exfalso;omega)|refine vcq ?_|refine dr 18 ?_));all_goals(try conv=>whnf);try exact trivial
  ·have hio:i<o.length:=by omega
   have ha:o.getD i 0<s.W.length:=by rw[a1a hio];exact ho.lt _ (a0N hio)
   have hta:((o.getD i 0:Nat):Int).toNat=o.getD i 0:=a0E _
   have hw:=hs.ws _ (show s.W.getD (o.getD i 0) wt0∈s.W by rw[getW ha];exact a0N ha)
   have htw:(((s.W.getD (o.getD i 0) wt0).2.1:Nat):Int).toNat=(s.W.getD (o.getD i 0) wt0).2.1:=a0E _
   rw[hti]
   refine And.intro ⟨by omega,by omega⟩ ?_
   refine x5 ?_
   rw[hta]
   refine And.intro ⟨by omega,by omega⟩ ?_
   refine x5 ?_
   rw[htw]
   refine⟨i+1,⟨by omega,by dsimp only;omega⟩,some [some 0,some 1],?_⟩
   refine x5 ?_
   refine⟨fun j _=>?_,?_⟩
   ·have hen:entC s.W o i=s.W.getD (o.getD i 0) wt0:=rfl
    show _=[V.int .i64 (putM (s.img o i) (entC s.W o i) j)]
    rw[hen]
    unfold putM mdC
    dsimp only
    by_cases g:j=(s.W.getD (o.getD i 0) wt0).2.1
    ·rw[a0w g,if_pos g];rfl
    ·rw[a0t g,if_neg g]
   exact xc17
  ·obtain rfl:i=many:=by omega
   refine⟨_,rfl,?_⟩
   exact xc17
end Go.Proofs
namespace Go.Proofs
open Go Go.Sx
set_option maxRecDepth 100000
set_option maxHeartbeats 40000000
open Ca (Wt epW IsCrs okR okP putM medC entC RS drC)
end Go.Proofs
namespace Go.Proofs
open Go Go.Sx
set_option maxRecDepth 100000
set_option maxHeartbeats 40000000
open Ca (Wt epW IsCrs okR okP)
def Sv.mostR (s:Sv) (x:Int) (v:V):Prop:=(s.err=0∧(0≤x∧x≤100000)∧v=.tup [.sl 1 (s.most x).1.length (a0e natC 0 (s.most x).1),.int .i64 (s.most x).2,.int .i64 0])∨(s.err=0∧¬(0≤x∧x≤100000)∧v=.tup [.lit (.slice none 0 0),.int .i64 0,.int .i64 1])∨s.err≠0∧v=.tup [.lit (.slice none 0 0),.int .i64 0,.int .i64 s.err]
theorem most18 (s:Sv) (hz:s.d.Z.length≤1000000) (hl:s.x.l.length≤1000000) (hsk:s.sk.length≤1000000) (hsec:s.sec.length≤1000000) (x:Int):a0g Tryz.prog 18 true [.agg s.c,.int .i64 x] (s.mostR x):=by
 have ho:=open45 s hz hl hsk hsec
 have hti:=isTime52 x
 rw[Sv.ov_eq] at ho
 unfold Sv.c at ho ⊢
 refine a0a Tryz.E_ok Tryz.func18 rfl (by kernel_rfl) ?_
 refine x11 ?_
 refine a0b ho rfl ?_
 rintro _ (⟨he,rfl⟩|⟨he,rfl⟩)
 ·have hs:=Sv.err_ok he
  have hn:=hs.few
  have hnx:=next18 s hs x s.W.length [] ([],0,false) true (by simp) (Ca.Pre.nil _)
  have hfa:=s.foldM_all x
  unfold Ca.allCrs at hfa
  rw[hfa] at hnx
  unfold crsH mstH mstP Sv.oc at hnx
  unfold Sv.oc
  refine x11 (fun hc=>?_)
  refine a0b hti rfl ?_
  rintro _ rfl
  (repeat' ((conv=>whnf);first|(with_reducible first|apply spl|apply spl'|refine iJ ?_)<;>intro hc<;>try(exfalso;omega)|refine vcq ?_|refine dr 2002 ?_));all_goals(try conv=>whnf);try exact trivial
  ·refine⟨_,.inr (.inl ⟨he,hc,rfl⟩),?_⟩
   exact xc32
  ·have htm:0≤x∧x≤100000:=a0O.1 hc
   clear hc
   refine a0r Tryz.E_ok Tryz.func46 rfl (by kernel_rfl) ?_
   refine x11 ?_
   refine callee_nil 3 1 (a0e natC 0 []) ?_
   refine x11 ?_
   refine⟨?_,?_⟩
   ·exact xc32
   ·refine a0c [10,7,8,9,6,1,2,3,4,5] hnx rfl ?_ ?_
    ·refine x11 ?_
     refine⟨by simp,?_⟩
     exact xc32
    ·rintro _ _ ⟨rfl,rfl⟩
     refine x11 ?_
     refine⟨_,.inl ⟨he,htm,rfl⟩,?_⟩
     exact xc32
 ·refine x11 (fun hc=>?_)
  refine⟨_,.inr (.inr ⟨he,rfl⟩),?_⟩
  exact xc32
def Sv.heldR (s:Sv) (l:List Int) (x:Int) (v:V):Prop:=(s.cerr l=0∧(0≤x∧x≤100000)∧v=.tup [.sl 1 s.n (mdC (s.img (l.map Int.toNat) (Sv.cntK (s.endW true (l.map Int.toNat)) x s.W.length))),.sl 1 s.n (mdC (s.img (l.map Int.toNat) (Sv.cntK (s.endW false (l.map Int.toNat)) x s.W.length))),.int .i64 0])∨(s.cerr l=0∧¬(0≤x∧x≤100000)∧v=.tup [.lit (.slice none 0 0),.lit (.slice none 0 0),.int .i64 1])∨s.cerr l≠0∧v=.tup [.lit (.slice none 0 0),.lit (.slice none 0 0),.int .i64 (s.cerr l)]
theorem held16 (s:Sv) (hz:s.d.Z.length≤1000000) (hx:s.x.l.length≤1000000) (hsk:s.sk.length≤1000000) (hsec:s.sec.length≤1000000) (l:List Int) (hl:l.length≤1000000) (x:Int):a0g Tryz.prog 16 true [.agg s.c,.sl 1 l.length (a0e intC 0 l),.int .i64 x] (s.heldR l x):=by
 have ho:=with51 s hz hx hsk hsec l hl
 have hti:=isTime52 x
 unfold Sv.c at ho ⊢
 refine a0a Tryz.E_ok Tryz.func16 rfl (by kernel_rfl) ?_
 refine x1 ?_
 refine a0b ho rfl ?_
 rintro _ (⟨he,rfl⟩|⟨he,rfl⟩)
 ·obtain⟨h1,h2⟩:=Sv.cerr_ok he
  have hs:=Sv.err_ok h1
  have hc:=h2.crs
  have hll:(l.map Int.toNat).length=l.length:=a1L ..
  have hf:=hs.few
  have hcl:=hc.len
  have hk:=kept53 s hs _ hc x
  have hi1:=image54 s hs _ hc (Sv.cntK (s.endW true (l.map Int.toNat)) x s.W.length) (by rw[hcl];exact Sv.cntK_le _ _ _)
  have hi2:=image54 s hs _ hc (Sv.cntK (s.endW false (l.map Int.toNat)) x s.W.length) (by rw[hcl];exact Sv.cntK_le _ _ _)
  rw[hcl] at hk
  rw[←hcl,hll,←h2.1.row] at hk hi1 hi2
  clear hc
  unfold Sv.oc at hk hi1 hi2 ⊢
  refine x1 (fun hc=>?_)
  refine a0b hti rfl ?_
  rintro _ rfl
  refine x3 (fun hc=>?_) (fun hc=>?_)
  ·refine⟨_,.inr (.inl ⟨he,hc,rfl⟩),?_⟩
   exact xc0
  ·have htm:0≤x∧x≤100000:=a0O.1 hc
   clear hc
   refine a0b hk rfl ?_
   rintro _ rfl
   refine x1 ?_
   refine a0b hi1 rfl ?_
   rintro _ rfl
   refine x1 ?_
   refine a0b hi2 rfl ?_
   rintro _ rfl
   refine x1 ?_
   refine⟨_,.inl ⟨he,htm,rfl⟩,?_⟩
   rw[←hcl,hll]
   exact xc0
 ·refine x1 (fun hc=>?_)
  refine⟨_,.inr (.inr ⟨he,rfl⟩),?_⟩
  exact xc0
noncomputable def bstP (s:Sv) (l:List Nat) (e:Int) (a b c d:Nat) (p:Prop) (dp:Decidable p):List O:=[.loop [.any,.any,.ptr a 0,.ptr b 0,.any,.ptr c 0,.ptr d 0,.any,.any,.any,.any,.any,.any,.any,.any,.any,.any,.any,.any,.any,.any,.any,.any,.any,.any,.any,.any,.any,.any,.any,.any,.any,.any,.any,.any,.any,.any,.any,.any,.any,.any,.any,.any,.any,.any] [20] (rfA Tryz.f13) (rfB Tryz.f13) .ready,.cells 31 [.sl 1 l.length (a0e natC 0 l)],.cells 3 [.int .i64 e],.cells 89 [.iptr s.oc],.cells 4 [.prop p dp]]
noncomputable def bstH (s:Sv) (t:List Nat×Int×Bool) (a b c d:Nat):List O:=bstP s t.1 t.2.1 a b c d (t.2.2=true) inferInstance
theorem round13 (s:Sv) (hs:s.Ok) (o:List Nat) (ho:IsCrs s.W o) (t:List Nat×Int×Bool):YCall Tryz.prog 0 [.sl 1 o.length (a0e natC 0 o)] (bstH s t 1 2 3 4) (fun v H'=>v=.kb true∧H'=bstH s (s.stepB t o) 1 2 3 4):=by
 have hn:=hs.few
 have hol:=ho.len
 have he:=ends47 s hs o (by omega) (fun x hx=>ho.lt x hx)
 have hlp:0<o.length→s.lastE o=s.endW true o (((o.length:Int)-1).toNat):=fun h=>by
  unfold Sv.lastE
  rw[if_neg (by omega),show(((o.length:Int)-1).toNat)=s.W.length-1 by omega]
 have hl0:¬0<o.length→s.lastE o=0:=fun h=>by
  unfold Sv.lastE
  rw[if_pos (by omega)]
 unfold Sv.oc at he
 unfold bstH bstP Sv.oc
 refine YCall.ent (K:=fun v H'=>v=.kb true∧∃p dp,(p↔(s.stepB t o).2.2=true)∧H'=bstP s (s.stepB t o).1 (s.stepB t o).2.1 1 2 3 4 p dp) (ycall_exec Tryz.E_ok rfl rfl rfl ?_) ?_
 ·refine x1 ?_
  refine a0b he rfl ?_
  rintro _ rfl
  (repeat' ((conv=>whnf);first|(with_reducible first|apply spl|apply spl'|refine iJ ?_)<;>intro hc<;>try(exfalso;omega)|refine vcq ?_|fail));all_goals(try conv=>whnf);try exact trivial
  ·have hlp:=hlp (by omega)
   rw[←hlp] at hc
   rw[←hlp,show s.stepB t o=(o,s.lastE o,true) from if_pos hc]
   exact⟨_,_,by simp,rfl⟩
  ·have hlp:=hlp (by omega)
   rw[←hlp] at hc
   rw[show s.stepB t o=t from if_neg hc]
   exact⟨_,_,a2W,rfl⟩
  ·have hl0:=hl0 (by omega)
   rw[←hl0] at hc
   rw[show s.stepB t o=(o,s.lastE o,true) from if_pos hc,hl0]
   exact⟨_,_,by simp,rfl⟩
  ·have hl0:=hl0 (by omega)
   rw[←hl0] at hc
   rw[show s.stepB t o=t from if_neg hc]
   exact⟨_,_,a2W,rfl⟩
 ·rintro v H' ⟨rfl,p,dp,hp,rfl⟩
  unfold bstP Sv.oc
  refine⟨_,_,⟨rfl,rfl⟩,some [some 0,some 1,some 2,some 3,some 4],?_⟩
  exact xc0
theorem next13 (s:Sv) (hs:s.Ok):∀(m:Nat) (b:List Nat) (t:List Nat×Int×Bool) (nz:Bool),b.length+m=s.W.length→Ca.Pre s.W b→
  Sx.Callee Tryz.prog 87 [.osl 0 b.length,.ptr 1 0,.ptr 2 0,.ptr 3 0] (crsH s b nz++bstH s t 5 6 7 8) (fun v H'=>v=.kb true∧H'=crsH s b nz++bstH s (s.foldB t (Ca.crs (okP s.W) s.W.length m b)) 5 6 7 8)
 |0,b,t,nz,hl,hp=>by
  have hn:=hs.few
  have ho:IsCrs s.W b:=⟨by omega,hp.nd,hp.lt,hp.asc⟩
  cases nz
  all_goals
   unfold crsH Sv.oc
   refine a0k Tryz.E_ok Tryz.func87 rfl (by kernel_rfl) ?_
   refine x11 (fun hc=>?_)
   refine a0r Tryz.E_ok Tryz.func88 rfl (by kernel_rfl) ?_
   (repeat' ((conv=>whnf);first|(with_reducible first|apply spl|apply spl'|refine iJ ?_)<;>intro hc<;>try(exfalso;omega)|refine vcq ?_|refine dr 2002 ?_));all_goals(try conv=>whnf);try exact trivial
   all_goals(first|(refine ycall_frz rfl (by simp[a2n]) ?_))
   all_goals(refine ycall_frame [4,5,6,7,8] (round13 s hs b ho t) rfl rfl ?_ ?_)
   all_goals(first|(rintro _ _ ⟨rfl,rfl⟩;refine x12 ?_)|exact xc8)
   all_goals(refine⟨_,_,⟨rfl,rfl⟩,some [some 0,some 1,some 2,some 3,some 4,some 5,some 6,some 7,some 8],?_⟩;exact xc8)
 |m+1,b,t,nz,hl,hp=>by
  have ih:=next13 s hs m
  have hn:=hs.few
  have hcon:=fun i=>contains83 b (by omega) i
  cases nz
  all_goals
   unfold crsH Sv.oc
   refine a0k Tryz.E_ok Tryz.func87 rfl (by kernel_rfl) ?_
   refine x12 (fun hc=>?_)
   refine⟨Nat×(List Nat×Int×Bool),fun p=>p.1≤s.W.length∧p.2=s.foldB t (crsP (okP s.W) s.W.length m b p.1),fun p=>s.W.length-p.1,fun p=>[(26,.int .i64 (p.1:Nat)),(6,.int .i64 (fstN b p.1))],fun p=>[(5,.cells 31 [.sl 1 p.2.1.length (a0e natC 0 p.2.1)]),(6,.cells 3 [.int .i64 p.2.2.1]),(8,.cells 4 [.prop (p.2.2.2=true) inferInstance])],fun _=>[],(0,t),⟨⟨by dsimp only;omega,rfl⟩,none,?_⟩,?_⟩
   ·refine x12 ?_
    rfl
   ·rintro⟨i,u⟩ ⟨hi,hu⟩
    dsimp only at hi hu
    have hti:(i:Int).toNat=i:=a0E i
    refine x61 (fun hc=>?_) (fun hc=>?_)
    ·have hil:i<s.W.length:=by omega
     have hfs:=fstN_spec b i
     rw[hti]
     refine a0u (hcon i) ?_
     refine x12 ?_
     rintro _ rfl
     (repeat' ((conv=>whnf);first|(with_reducible first|apply spl|apply spl'|refine iJ ?_)<;>intro hc<;>try(exfalso;omega)|refine vcq ?_|refine dr 2021 ?_));all_goals(try conv=>whnf);try exact trivial
     ·have hin:i∈b:=by assumption
      refine⟨(i+1,u),⟨⟨by dsimp only;omega,by dsimp only;rw[crsP_no (fun g=>g.1 hin)];exact hu⟩,by dsimp only;omega⟩,some [some 0,some 1,some 2,some 3,some 4,some 5,some 6,some 7,some 8],?_⟩
      dsimp only
      rw[fstN_in hin]
      exact xc8
     ·have hnb:i∉b:=by assumption
      have hneg:fstN b i<0:=by assumption
      have hall:∀k,k<i→k∈b:=by
       rcases hfs with g|⟨f,g,_⟩
       ·exact g.2
       ·omega
      have hk:okP s.W b i:=(okP_of hil hnb (a0K i) hnb hall).2 rfl
      have hlen:(b++[i]).length=b.length+1:=by simp
      refine a0c [11,1,2,3,4,5,6,7,8] (ih (b++[i]) u false (by rw[hlen];omega) (hp.snoc hil hk)) rfl ?_ ?_
      ·unfold crsH Sv.oc
       refine x12 ?_
       refine⟨a1q rfl (fun _ _=>rfl),?_⟩
       exact xc8
      ·rintro _ _ ⟨rfl,rfl⟩
       refine x12 ?_
       refine⟨(i+1,s.foldB u (Ca.crs (okP s.W) s.W.length m (b++[i]))),⟨⟨by dsimp only;omega,by dsimp only;rw[hu,crsP_yes hk];exact List.foldl_append.symm⟩,by dsimp only;omega⟩,some [some 0,some 1,some 2,some 3,some 4,some 5,some 6,some 7,some 8],?_⟩
       dsimp only
       rw[fstN_new hnb hneg]
       exact xc8
     ·exfalso
      dsimp only at hc
      rw[hti] at hc
      exact hc rfl
     ·have hnb:i∉b:=by assumption
      have hneg:¬fstN b i<0:=by assumption
      obtain⟨f,hf1,hf2,hf3,hf4⟩:=hfs.resolve_left (fun g=>hneg (by rw[g.1];omega))
      have htf:(fstN b i).toNat=f:=by rw[hf1];exact a0E f
      have hkk:=okP_of hil hnb (Nat.le_of_lt hf2) hf3 hf4
      dsimp only
      refine And.intro ⟨by omega,by omega⟩ ?_
      rw[htf]
      refine x61 (fun hc=>?_) (fun hc=>?_)
      ·have hk:okP s.W b i:=hkk.2 hc
       have hlen:(b++[i]).length=b.length+1:=by simp
       refine a0c [11,1,2,3,4,5,6,7,8] (ih (b++[i]) u false (by rw[hlen];omega) (hp.snoc hil hk)) rfl ?_ ?_
       ·unfold crsH Sv.oc
        refine x12 ?_
        refine⟨a1q rfl (fun _ _=>rfl),?_⟩
        exact xc8
       ·rintro _ _ ⟨rfl,rfl⟩
        refine x12 ?_
        refine⟨(i+1,s.foldB u (Ca.crs (okP s.W) s.W.length m (b++[i]))),⟨⟨by dsimp only;omega,by dsimp only;rw[hu,crsP_yes hk];exact List.foldl_append.symm⟩,by dsimp only;omega⟩,some [some 0,some 1,some 2,some 3,some 4,some 5,some 6,some 7,some 8],?_⟩
        dsimp only
        rw[fstN_old hneg]
        exact xc8
      ·have hk:¬okP s.W b i:=fun g=>hc (hkk.1 g)
       refine⟨(i+1,u),⟨⟨by dsimp only;omega,by dsimp only;rw[crsP_no hk];exact hu⟩,by dsimp only;omega⟩,some [some 0,some 1,some 2,some 3,some 4,some 5,some 6,some 7,some 8],?_⟩
       dsimp only
       rw[fstN_old hneg]
       exact xc8
    ·obtain rfl:i=s.W.length:=by omega
     subst hu
     refine⟨_,_,⟨rfl,rfl⟩,some [some 0,some 1,some 2,some 3,some 4,some 5,some 6,some 7,some 8],?_⟩
     exact xc8
end Go.Proofs
