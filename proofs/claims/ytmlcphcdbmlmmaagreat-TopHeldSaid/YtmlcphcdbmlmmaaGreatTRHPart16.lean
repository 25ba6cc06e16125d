/- Own work: texts of the proof of a law (T14, T15). No condition. -/
import Derived.Test.YtmlcphcdbmlmmaaGreatTRHPart15
set_option linter.unusedVariables false
set_option linter.unusedSimpArgs false
namespace Go.Proofs
open Go Go.Sx
set_option maxRecDepth 100000
set_option maxHeartbeats 40000000
namespace Tp
theorem plain_of {g : FuncId} {fn : Func} (hf : Tryz.prog.funcs[g]? = some fn) (h1 : (fn.name == "runtime.NumGoroutine") = false) (h2 : fn.body.isNone = false) : Plain Tryz.prog g := ⟨fn, hf, h1, h2⟩
theorem prop_congr {p q:Prop} {d:Decidable p} {e:Decidable q} (h:p↔q):V.prop p d=V.prop q e:=by
 have x:p=q:=propext h
 subst x
 exact congrArg (V.prop p) (Subsingleton.elim _ _)
theorem mem_filL {n:Nat} {p:Nat→Prop} {x:Int}:x∈filL n p↔∃k:Nat,k<n∧p k∧x=k:=by
 unfold filL
 constructor
 ·intro h
  obtain⟨k,hk,rfl⟩:=List.mem_map.1 h
  rw[List.mem_filter,a1Z] at hk
  exact⟨k,hk.1,by simpa using hk.2,rfl⟩
 ·rintro⟨k,h1,h2,rfl⟩
  exact List.mem_map.2 ⟨k,List.mem_filter.2 ⟨List.mem_range.2 h1,by simpa using h2⟩,rfl⟩
def MrkD (t:Tr) (M:List Int) (i:Nat) (D:List Int→Prop):Prop:=∀x,D x↔∃m:Nat,(m:Int)∈M.take i∧(x=[(m:Int)]∨∃o:Nat,(o:Int)∈M∧∃y:Nat,x=[(y:Int)]∧t.scrN m o y)
theorem mrkD_all {t:Tr} {D:List Int→Prop} (h:MrkD t (filL t.d.cnt t.bad) (filL t.d.cnt t.bad).length D) (x:List Int):D x↔∃n:Nat,x=[(n:Int)]∧t.mrk n:=by
 rw[h,List.take_length]
 constructor
 ·rintro⟨m,hm,q⟩
  obtain⟨k,h1,h2,e⟩:=mem_filL.1 hm
  have e:m=k:=Int.ofNat.inj e
  subst e
  rcases q with rfl|⟨o,ho,y,rfl,hy⟩
  ·exact⟨m,rfl,m,h1,h2,.inl rfl⟩
  ·obtain⟨k,h3,h4,e⟩:=mem_filL.1 ho
   have e:o=k:=Int.ofNat.inj e
   subst e
   exact⟨y,rfl,m,h1,h2,.inr ⟨o,h3,h4,hy⟩⟩
 ·rintro⟨n,rfl,m,h1,h2,q⟩
  refine⟨m,mem_filL.2 ⟨m,h1,h2,rfl⟩,?_⟩
  rcases q with rfl|⟨o,h3,h4,hy⟩
  ·exact .inl rfl
  ·exact .inr ⟨o,mem_filL.2 ⟨o,h3,h4,rfl⟩,n,rfl,hy⟩
def alP (t:Tr) (n y:Nat):Prop:=∃s,s<t.d.S.getD (t.lc n).1 0∧(((t.lc n).2.2:Int)-t.mg≤s∧(s:Int)≤(t.lc n).2.2+t.mg)∧y=numZ t.d (t.lc n).1 (t.lc n).2.1 s
theorem mapped59 (D:List Int→Prop) (c:List Int→Int) (m:Nat) (hc:∀k,D k→1≤c k) (n:Nat):PureC Tryz.prog 59 false [.int .i64 n,.iptr [.imap [.i64] false false D (fun k=>[.int .i64 (c k)]) m]] (·=.prop (D [(n:Int)]) (Classical.propDecidable _)):=by
 refine pureC_of_exec Tryz.E_ok Tryz.func59 rfl (by kernel_rfl) ?_
 (repeat' ((conv=>whnf);first|(with_reducible first|apply spl|apply spl'|refine iJ ?_)<;>intro hc<;>try(exfalso;omega)|refine vcq ?_|refine dr 16 ?_|refine dr 9 ?_));all_goals(try conv=>whnf);try exact trivial
 refine⟨_,rfl,?_⟩
 refine⟨?_,trivial⟩
 by_cases q:D [(n:Int)]
 ·have:=hc _ q
  rw[if_pos q]
  exact⟨fun _=>q,fun _=>by omega⟩
 ·rw[if_neg q]
  exact⟨fun u=>by omega,fun u=>absurd u q⟩
theorem mapped42 (t:Tr) (h:t.Ok) (h60:t.d.cnt≤60):PureC Tryz.prog 42 true [t.iV] (·=.sl 1 t.mapL.length (rowOf intC 0 t.mapL)):=by
 have hMl:=filL_len t.d.cnt t.bad
 have hM:∀i,i<(filL t.d.cnt t.bad).length→∃k:Nat,k<t.d.cnt∧(filL t.d.cnt t.bad).getD i 0=k:=fun i hi=>by
  obtain⟨k,h1,_,h2⟩:=mem_filL.1 (getD_mem (d:=(0:Int)) hi)
  exact⟨k,h1,h2⟩
 have hmd:=mrkD_all (t:=t) (D:=fun _=>True)
 refine pureC_of_exec Tryz.E_ok Tryz.func42 rfl (by kernel_rfl) ?_
 (repeat' ((conv=>whnf);first|(with_reducible first|apply spl|apply spl'|refine iJ ?_)<;>intro hc<;>try(exfalso;omega)|refine vcq ?_|refine dr 16 ?_|refine dr 9 ?_));all_goals(try conv=>whnf);try exact trivial
 intro g0
 (repeat' ((conv=>whnf);first|(with_reducible first|apply spl|apply spl'|refine iJ ?_)<;>intro hc<;>try(exfalso;omega)|refine vcq ?_|refine dr 16 ?_|refine dr 9 ?_));all_goals(try conv=>whnf);try exact trivial
 refine callee_view (filter56 t h t.bad) ?_
 (repeat' ((conv=>whnf);first|(with_reducible first|apply spl|apply spl'|refine iJ ?_)<;>intro hc<;>try(exfalso;omega)|refine vcq ?_|refine dr 16 ?_|refine dr 9 ?_));all_goals(try conv=>whnf);try exact trivial
 refine⟨semOb_fn (a':=[t.iV]) (b':=[]) (fun k=>(bad39 t h k.1 k.2).mono fun _ e=>by rw[e];exact prop_congr Iff.rfl) (plain_of Tryz.func39 (by kernel_rfl) (by kernel_rfl)) ?_,?_⟩
 ·(repeat' ((conv=>whnf);first|(with_reducible first|apply spl|apply spl'|refine iJ ?_)<;>intro hc<;>try(exfalso;omega)|refine vcq ?_|refine dr 16 ?_|refine dr 9 ?_));all_goals(try conv=>whnf);try exact trivial
 ·rintro _ rfl
  clear hmd
  have hall:=fun D=>mrkD_all (t:=t) (D:=D)
  generalize filL t.d.cnt t.bad=M at *
  (repeat' ((conv=>whnf);first|(with_reducible first|apply spl|apply spl'|refine iJ ?_)<;>intro hc<;>try(exfalso;omega)|refine vcq ?_|refine dr 16 ?_|refine dr 9 ?_));all_goals(try conv=>whnf);try exact trivial
  refine⟨Nat×(List Int→Prop)×(List Int→Int)×Nat×MG,fun q=>q.1≤M.length∧MrkD t M q.1 q.2.1∧CntB q.2.1 q.2.2.1 (q.1*2000),fun q=>M.length-q.1,fun q=>[(22,.int .i64 (q.1:Nat))],fun q=>[(0,.map [.i64] false false q.2.1 (fun k=>[.int .i64 (q.2.2.1 k)]) q.2.2.2.1 q.2.2.2.2)],fun _=>[],(0,(fun _=>False),(fun _=>0),0,g0),⟨⟨a2I _,fun x=>⟨fun q=>q.elim,fun⟨m,q,_⟩=>by simp at q⟩,fun x q=>q.elim⟩,some [some 0],?_⟩,?_⟩
  ·(repeat' ((conv=>whnf);first|(with_reducible first|apply spl|apply spl'|refine iJ ?_)<;>intro hc<;>try(exfalso;omega)|refine vcq ?_|refine dr 16 ?_|refine dr 9 ?_));all_goals(try conv=>whnf);try exact trivial
  ·rintro⟨i,D,c,n,g⟩ ⟨hi,hD,hC⟩
   dsimp only at hi hD hC
   by_cases hil:i<M.length
   ·obtain⟨m,hm,em⟩:=hM i hil
    have hti:((i:Nat):Int).toNat=i:=Int.toNat_natCast i
    (repeat' ((conv=>whnf);first|(with_reducible first|apply spl|apply spl'|refine iJ ?_)<;>intro hc<;>try(exfalso;omega)|refine vcq ?_|refine dr 16 ?_|refine dr 9 ?_));all_goals(try conv=>whnf);try exact trivial
    dsimp only
    rw[hti,em]
    refine And.intro (hC.inr (by omega) _) ?_
    (repeat' ((conv=>whnf);first|(with_reducible first|apply spl|apply spl'|refine iJ ?_)<;>intro hc<;>try(exfalso;omega)|refine vcq ?_|refine dr 16 ?_|refine dr 9 ?_));all_goals(try conv=>whnf);try exact trivial
    intro g1
    (repeat' ((conv=>whnf);first|(with_reducible first|apply spl|apply spl'|refine iJ ?_)<;>intro hc<;>try(exfalso;omega)|refine vcq ?_|refine dr 16 ?_|refine dr 9 ?_));all_goals(try conv=>whnf);try exact trivial
    have hw:=valPut_cnt D c [(m:Int)]
    unfold cntV at hw
    rw[hw]
    have hC1:=hC.up [(m:Int)]
    generalize hD1:domPut D [(m:Int)]=D1 at *
    generalize cntUp D c [(m:Int)]=c1 at *
    generalize nPut D n [(m:Int)]=n1 at *
    refine⟨Nat×(List Int→Prop)×(List Int→Int)×Nat×MG,fun q=>q.1≤M.length∧(∀x,q.2.1 x↔D1 x∨∃o:Nat,(o:Int)∈M.take q.1∧∃y:Nat,x=[(y:Int)]∧t.scrN m o y)∧CntB q.2.1 q.2.2.1 (i*2000+1+q.1*16),fun q=>M.length-q.1,fun q=>[(32,.int .i64 (q.1:Nat))],fun q=>[(0,.map [.i64] false false q.2.1 (fun k=>[.int .i64 (q.2.2.1 k)]) q.2.2.2.1 q.2.2.2.2)],fun _=>[],(0,D1,c1,n1,g1),⟨⟨a2I _,fun x=>⟨.inl,fun q=>q.elim id fun⟨o,q,_⟩=>by simp at q⟩,hC1⟩,some [some 0],?_⟩,?_⟩
    ·(repeat' ((conv=>whnf);first|(with_reducible first|apply spl|apply spl'|refine iJ ?_)<;>intro hc<;>try(exfalso;omega)|refine vcq ?_|refine dr 16 ?_|refine dr 9 ?_));all_goals(try conv=>whnf);try exact trivial
    ·rintro⟨j,D2,c2,n2,g2⟩ ⟨hj,hD2,hC2⟩
     dsimp only at hj hD2 hC2
     by_cases hjl:j<M.length
     ·obtain⟨o,ho,eo⟩:=hM j hjl
      have htj:((j:Nat):Int).toNat=j:=Int.toNat_natCast j
      have htm:((m:Nat):Int).toNat=m:=Int.toNat_natCast m
      have hto:((o:Nat):Int).toNat=o:=Int.toNat_natCast o
      (repeat' ((conv=>whnf);first|(with_reducible first|apply spl|apply spl'|refine iJ ?_)<;>intro hc<;>try(exfalso;omega)|refine vcq ?_|refine dr 16 ?_|refine dr 9 ?_));all_goals(try conv=>whnf);try exact trivial
      dsimp only
      rw[htj,eo]
      refine⟨⟨by omega,by omega⟩,?_⟩
      (repeat' ((conv=>whnf);first|(with_reducible first|apply spl|apply spl'|refine iJ ?_)<;>intro hc<;>try(exfalso;omega)|refine vcq ?_|refine dr 16 ?_|refine dr 9 ?_));all_goals(try conv=>whnf);try exact trivial
      rw[htm,hto]
      refine callee_frame [0] (scratch57 t h m o hm ho D2 c2 n2 g2 _ hC2 (by omega)) rfl ?_ ?_
      ·(repeat' ((conv=>whnf);first|(with_reducible first|apply spl|apply spl'|refine iJ ?_)<;>intro hc<;>try(exfalso;omega)|refine vcq ?_|refine dr 16 ?_|refine dr 9 ?_));all_goals(try conv=>whnf);try exact trivial
      ·rintro _ _ ⟨rfl,D3,c3,n3,g3,hD3,hC3,rfl⟩
       (repeat' ((conv=>whnf);first|(with_reducible first|apply spl|apply spl'|refine iJ ?_)<;>intro hc<;>try(exfalso;omega)|refine vcq ?_|refine dr 16 ?_|refine dr 9 ?_));all_goals(try conv=>whnf);try exact trivial
       refine⟨(j+1,D3,c3,n3,g3),⟨⟨by dsimp only;omega,fun x=>?_,by dsimp only;exact hC3.mono (by omega)⟩,by dsimp only;omega⟩,some [some 0],?_⟩
       ·dsimp only
        rw[hD3,hD2,or_assoc]
        refine or_congr Iff.rfl ⟨fun q=>?_,fun q=>?_⟩
        ·rcases q with⟨o',q1,q2⟩|⟨y,q1,q2⟩
         ·exact⟨o',(mem_getD hjl).2 (.inl q1),q2⟩
         ·exact⟨o,(mem_getD hjl).2 (.inr eo),y,q1,q2⟩
        ·obtain⟨o',q1,q2⟩:=q
         rcases(mem_getD hjl).1 q1 with u|u
         ·exact .inl ⟨o',u,q2⟩
         ·have e:o'=o:=Int.ofNat.inj (u.symm.trans eo)
          subst e
          exact .inr q2
       ·(repeat' ((conv=>whnf);first|(with_reducible first|apply spl|apply spl'|refine iJ ?_)<;>intro hc<;>try(exfalso;omega)|refine vcq ?_|refine dr 16 ?_|refine dr 9 ?_));all_goals(try conv=>whnf);try exact trivial
     ·have e:j=M.length:=by omega
      subst e
      rw[List.take_length] at hD2
      (repeat' ((conv=>whnf);first|(with_reducible first|apply spl|apply spl'|refine iJ ?_)<;>intro hc<;>try(exfalso;omega)|refine vcq ?_|refine dr 16 ?_|refine dr 9 ?_));all_goals(try conv=>whnf);try exact trivial
      refine⟨(i+1,D2,c2,n2,g2),⟨⟨by dsimp only;omega,fun x=>?_,by dsimp only;exact hC2.mono (by omega)⟩,by dsimp only;omega⟩,some [some 0],?_⟩
      ·dsimp only
       rw[hD2,←hD1]
       constructor
       ·rintro((q|q)|q)
        ·exact⟨m,(mem_getD hil).2 (.inr em),.inl q⟩
        ·obtain⟨m',q1,q2⟩:=(hD x).1 q
         exact⟨m',(mem_getD hil).2 (.inl q1),q2⟩
        ·exact⟨m,(mem_getD hil).2 (.inr em),.inr q⟩
       ·rintro⟨m',q1,q2⟩
        rcases(mem_getD hil).1 q1 with u|u
        ·exact .inl (.inr ((hD x).2 ⟨m',u,q2⟩))
        ·have e:m'=m:=Int.ofNat.inj (u.symm.trans em)
         subst e
         exact q2.elim (fun q=>.inl (.inl q)) .inr
      ·(repeat' ((conv=>whnf);first|(with_reducible first|apply spl|apply spl'|refine iJ ?_)<;>intro hc<;>try(exfalso;omega)|refine vcq ?_|refine dr 16 ?_|refine dr 9 ?_));all_goals(try conv=>whnf);try exact trivial
   ·have e:i=M.length:=by omega
    subst e
    have hD:=hall D hD
    clear hall
    (repeat' ((conv=>whnf);first|(with_reducible first|apply spl|apply spl'|refine iJ ?_)<;>intro hc<;>try(exfalso;omega)|refine vcq ?_|refine dr 16 ?_|refine dr 9 ?_));all_goals(try conv=>whnf);try exact trivial
    intro g2
    (repeat' ((conv=>whnf);first|(with_reducible first|apply spl|apply spl'|refine iJ ?_)<;>intro hc<;>try(exfalso;omega)|refine vcq ?_|refine dr 16 ?_|refine dr 9 ?_));all_goals(try conv=>whnf);try exact trivial
    refine⟨List Nat×(List Int→Prop)×(List Int→Int)×Nat×MG,fun q=>((∀k∈q.1,t.mrk k)∧q.1.Nodup)∧(∀x,q.2.1 x↔∃k∈q.1,∃y:Nat,x=[(y:Int)]∧alP t k y)∧CntB q.2.1 q.2.2.1 (q.1.length*100),fun q=>t.d.cnt-q.1.length,fun q=>[],fun q=>[(3,.iter 0 g (fun k=>D k∧k.length=1) (q.1.map fun k:Nat=>[(k:Int)]).reverse),(1,.map [.i64] false false q.2.1 (fun k=>[.int .i64 (q.2.2.1 k)]) q.2.2.2.1 q.2.2.2.2)],fun _=>[],([],(fun _=>False),(fun _=>0),0,g2),⟨⟨⟨fun k hk=>(List.not_mem_nil hk).elim,List.nodup_nil⟩,fun x=>⟨fun q=>q.elim,fun⟨k,hk,_⟩=>(List.not_mem_nil hk).elim⟩,fun x q=>q.elim⟩,some [some 0,some 1,some 2,some 3],?_⟩,?_⟩
    ·(repeat' ((conv=>whnf);first|(with_reducible first|apply spl|apply spl'|refine iJ ?_)<;>intro hc<;>try(exfalso;omega)|refine vcq ?_|refine dr 16 ?_|refine dr 9 ?_));all_goals(try conv=>whnf);try exact trivial
    ·rintro⟨l,D1,c1,n1,g1⟩ ⟨⟨h1,h2⟩,h3,h4⟩
     dsimp only at h1 h2 h3 h4
     (repeat' ((conv=>whnf);first|(with_reducible first|apply spl|apply spl'|refine iJ ?_)<;>intro hc<;>try(exfalso;omega)|refine vcq ?_|refine dr 16 ?_|refine dr 9 ?_));all_goals(try conv=>whnf);try exact trivial
     refine⟨fun k hk hd=>⟨hd,hk⟩,fun k hk hd hnk hcn=>?_,fun hall=>?_⟩
     ·dsimp only at hd hnk
      obtain⟨n0,rfl,hmk⟩:=(hD k).1 hd
      have hn0:=Tr.mrk_lt (cnt_pos h.d) hmk
      have hnl:n0∉l:=fun q=>hnk (List.mem_reverse.2 (List.mem_map.2 ⟨n0,q,rfl⟩))
      have hnd:(l++[n0]).Nodup:=by
       rw[List.nodup_append]
       refine⟨h2,by simp,fun a ha b hb=>?_⟩
       rw[List.mem_singleton] at hb
       subst hb
       rintro rfl
       exact hnl ha
      have hll:(l++[n0]).length≤t.d.cnt:=by
       have:=List.Nodup.length_le_of_subset hnd (l₂:=List.range t.d.cnt) (fun x hx=>by
        rw[a1Z]
        rcases a0U.1 hx with q|q
        ·exact Tr.mrk_lt (cnt_pos h.d) (h1 x q)
        ·rw[List.mem_singleton.1 q];exact hn0)
       simpa using this
      rw[a0P,List.length_singleton] at hll
      clear hcn
      have hmg:=h.mg
      have ht0:((n0:Nat):Int).toNat=n0:=Int.toNat_natCast n0
      have hvn:=(vld_loc h.d hn0).1
      (repeat' ((conv=>whnf);first|(with_reducible first|apply spl|apply spl'|refine iJ ?_)<;>intro hc<;>try(exfalso;omega)|refine vcq ?_|refine dr 16 ?_|refine dr 9 ?_));all_goals(try conv=>whnf);try exact trivial
      refine And.intro ⟨rfl,hd,rfl⟩ ?_
      (repeat' ((conv=>whnf);first|(with_reducible first|apply spl|apply spl'|refine iJ ?_)<;>intro hc<;>try(exfalso;omega)|refine vcq ?_|refine dr 16 ?_|refine dr 9 ?_));all_goals(try conv=>whnf);try exact trivial
      rw[ht0]
      have h16:t.d.S.getD (t.lc n0).1 0≤16:=by
       have h1:=hvn.1.2
       have hk:(t.lc n0).1<t.d.S.length:=by unfold Tr.lc;omega
       rw[List.getD_eq_getElem?_getD,a0I hk]
       exact(Dk.S_pos h.d _ (List.getElem_mem hk)).2
      have hal:∀y,alP t n0 y↔∃s,s<t.d.S.getD (t.lc n0).1 0∧(((t.lc n0).2.2:Int)-t.mg≤s∧(s:Int)≤(t.lc n0).2.2+t.mg)∧y=numZ t.d (t.lc n0).1 (t.lc n0).2.1 s:=fun _=>Iff.rfl
      change vld t.d (t.lc n0).1 (t.lc n0).2.1 (t.lc n0).2.2 at hvn
      rw[show loc t.d.H.toNat t.d.S n0=t.lc n0 from rfl]
      generalize t.lc n0=p at *
      obtain⟨pc,ph,pz⟩:=p
      dsimp only at hal hvn h16 ⊢
      have hp1:=hvn.1
      have hp2:=hvn.2.1
      have hp3:=hvn.2.2
      rw[Int.toNat_natCast] at hp3
      refine⟨inR_of (by omega) (by omega),?_⟩
      (repeat' ((conv=>whnf);first|(with_reducible first|apply spl|apply spl'|refine iJ ?_)<;>intro hc<;>try(exfalso;omega)|refine vcq ?_|refine dr 16 ?_|refine dr 9 ?_));all_goals(try conv=>whnf);try exact trivial
      refine⟨Nat×(List Int→Prop)×(List Int→Int)×Nat×MG,fun q=>(q.1:Int)≤2*t.mg+1∧(∀x,q.2.1 x↔D1 x∨∃y:Nat,x=[(y:Int)]∧∃s,s<t.d.S.getD pc 0∧((pz:Int)-t.mg≤s∧(s:Int)<(pz:Int)-t.mg+q.1)∧y=numZ t.d pc ph s)∧CntB q.2.1 q.2.2.1 (l.length*100+q.1),fun q=>(2*t.mg+1).toNat-q.1,fun q=>[(12,.int .i64 ((pz:Int)-t.mg+q.1))],fun q=>[(1,.map [.i64] false false q.2.1 (fun k=>[.int .i64 (q.2.2.1 k)]) q.2.2.2.1 q.2.2.2.2)],fun _=>[],(0,D1,c1,n1,g1),⟨⟨by dsimp only;omega,fun x=>⟨.inl,fun q=>q.elim id fun⟨y,_,s,_,q2,_⟩=>by dsimp only at q2;omega⟩,h4⟩,some [some 0,some 1,some 2,some 3,some 4],?_⟩,?_⟩
      ·(repeat' ((conv=>whnf);first|(with_reducible first|apply spl|apply spl'|refine iJ ?_)<;>intro hc<;>try(exfalso;omega)|refine vcq ?_|refine dr 16 ?_|refine dr 9 ?_));all_goals(try conv=>whnf);try exact trivial
      ·rintro⟨i,D2,c2,n2,g3⟩ ⟨hi2,hD2,hC2⟩
       dsimp only at hi2 hD2 hC2
       (repeat' ((conv=>whnf);first|(with_reducible first|apply spl|apply spl'|refine iJ ?_)<;>intro hc<;>try(exfalso;omega)|refine vcq ?_|refine dr 16 ?_|refine dr 9 ?_));all_goals(try conv=>whnf);try exact trivial
       ·dsimp only at hc ⊢
        refine callee_fo (sector58 t h pc ph _) rfl ?_
        rintro _ rfl
        (repeat' ((conv=>whnf);first|(with_reducible first|apply spl|apply spl'|refine iJ ?_)<;>intro hc<;>try(exfalso;omega)|refine vcq ?_|refine dr 16 ?_|refine dr 9 ?_));all_goals(try conv=>whnf);try exact trivial
        ·rename_i hs _
         have hv:vld t.d pc ph ((pz:Int)-t.mg+i):=hc
         have hv3:=hv.2.2
         rw[Int.toNat_natCast] at hv3
         obtain⟨s0,hs0⟩:∃s0:Nat,(pz:Int)-t.mg+i=s0:=⟨((pz:Int)-t.mg+i).toNat,by omega⟩
         rw[hs0] at hv ⊢
         have ey:numO t.d pc ph s0=numZ t.d pc ph s0:=if_pos hv
         rw[ey]
         generalize hy:numZ t.d pc ph s0=y at *
         dsimp only
         refine And.intro (hC2.inr (by omega) _) ?_
         (repeat' ((conv=>whnf);first|(with_reducible first|apply spl|apply spl'|refine iJ ?_)<;>intro hc<;>try(exfalso;omega)|refine vcq ?_|refine dr 16 ?_|refine dr 9 ?_));all_goals(try conv=>whnf);try exact trivial
         intro g4
         (repeat' ((conv=>whnf);first|(with_reducible first|apply spl|apply spl'|refine iJ ?_)<;>intro hc<;>try(exfalso;omega)|refine vcq ?_|refine dr 16 ?_|refine dr 9 ?_));all_goals(try conv=>whnf);try exact trivial
         have hw:=valPut_cnt D2 c2 [(y:Int)]
         unfold cntV at hw
         rw[hw]
         refine⟨(i+1,domPut D2 [(y:Int)],cntUp D2 c2 [(y:Int)],nPut D2 n2 [(y:Int)],g4),⟨⟨by dsimp only;omega,fun x=>?_,by dsimp only;exact(hC2.up _).mono (by omega)⟩,by dsimp only;omega⟩,some [some 0,some 1,some 2,some 3,some 4],?_⟩
         ·dsimp only
          constructor
          ·rintro(q|q)
           ·exact .inr ⟨y,q,s0,by omega,by omega,hy.symm⟩
           ·rcases(hD2 x).1 q with u|⟨y',u1,s',u2,u3,u4⟩
            ·exact .inl u
            ·exact .inr ⟨y',u1,s',u2,by omega,u4⟩
          ·rintro(q|⟨y',u1,s',u2,u3,u4⟩)
           ·exact .inr ((hD2 x).2 (.inl q))
           ·by_cases q:s'=s0
            ·subst q
             rw[hy] at u4
             rw[u4] at u1
             exact .inl u1
            ·exact .inr ((hD2 x).2 (.inr ⟨y',u1,s',u2,by omega,u4⟩))
         ·(repeat' ((conv=>whnf);first|(with_reducible first|apply spl|apply spl'|refine iJ ?_)<;>intro hc<;>try(exfalso;omega)|refine vcq ?_|refine dr 16 ?_|refine dr 9 ?_));all_goals(try conv=>whnf);try exact trivial
        ·have hv:¬vld t.d pc ph ((pz:Int)-t.mg+i):=hc
         have hno:∀s':Nat,s'<t.d.S.getD pc 0→(s':Int)≠(pz:Int)-t.mg+i:=fun s' q e=>hv ⟨hp1,hp2,by omega,by rw[Int.toNat_natCast];omega⟩
         refine⟨(i+1,D2,c2,n2,g3),⟨⟨by dsimp only;omega,fun x=>?_,by dsimp only;exact hC2.mono (by omega)⟩,by dsimp only;omega⟩,some [some 0,some 1,some 2,some 3,some 4],?_⟩
         ·dsimp only
          rw[hD2]
          refine or_congr Iff.rfl (exists_congr fun y=>and_congr_right fun _=>exists_congr fun s'=>?_)
          constructor
          ·rintro⟨u1,u2,u3⟩
           exact⟨u1,by omega,u3⟩
          ·rintro⟨u1,u2,u3⟩
           have:=hno s' u1
           exact⟨u1,by omega,u3⟩
         ·(repeat' ((conv=>whnf);first|(with_reducible first|apply spl|apply spl'|refine iJ ?_)<;>intro hc<;>try(exfalso;omega)|refine vcq ?_|refine dr 16 ?_|refine dr 9 ?_));all_goals(try conv=>whnf);try exact trivial
       ·dsimp only at hc
        have ei:(i:Int)=2*t.mg+1:=by omega
        refine⟨(l++[n0],D2,c2,n2,g3),⟨⟨⟨fun k hk=>?_,hnd⟩,fun x=>?_,?_⟩,?_⟩,some [some 0,some 1,some 2,some 3],?_⟩
        ·rcases a0U.1 hk with q|q
         ·exact h1 k q
         ·rw[List.mem_singleton.1 q];exact hmk
        ·dsimp only
         rw[hD2,h3]
         constructor
         ·rintro(⟨k,q1,q2⟩|⟨y,q1,s',q2,q3,q4⟩)
          ·exact⟨k,List.mem_append_left _ q1,q2⟩
          ·exact⟨n0,List.mem_append_right _ (List.mem_singleton.2 rfl),y,q1,(hal y).2 ⟨s',q2,by omega,q4⟩⟩
         ·rintro⟨k,q1,y,q2,q3⟩
          rcases a0U.1 q1 with u|u
          ·exact .inl ⟨k,u,y,q2,q3⟩
          ·rw[List.mem_singleton.1 u] at q3
           obtain⟨s',r1,r2,r3⟩:=(hal y).1 q3
           exact .inr ⟨y,q2,s',r1,by omega,r3⟩
        ·dsimp only
         rw[a0P,List.length_singleton]
         exact hC2.mono (by omega)
        ·dsimp only
         rw[a0P,List.length_singleton]
         omega
        ·(repeat' ((conv=>whnf);first|(with_reducible first|apply spl|apply spl'|refine iJ ?_)<;>intro hc<;>try(exfalso;omega)|refine vcq ?_|refine dr 16 ?_|refine dr 9 ?_));all_goals(try conv=>whnf);try exact trivial
         refine⟨by simp,?_⟩
         (repeat' ((conv=>whnf);first|(with_reducible first|apply spl|apply spl'|refine iJ ?_)<;>intro hc<;>try(exfalso;omega)|refine vcq ?_|refine dr 16 ?_|refine dr 9 ?_));all_goals(try conv=>whnf);try exact trivial
     ·dsimp only at hall ⊢
      have hfin:∀y:Nat,D1 [(y:Int)]↔t.al y:=fun y=>by
       rw[h3]
       constructor
       ·rintro⟨k,hk,y',e,s,s1,s2,s3⟩
        have e:y=y':=Int.ofNat.inj (List.cons.inj e).1
        subst e
        exact⟨k,Tr.mrk_lt (cnt_pos h.d) (h1 k hk),h1 k hk,s,s1,s2,s3⟩
       ·rintro⟨k,_,hk,s,s1,s2,s3⟩
        have:=hall [(k:Int)] rfl ((hD _).2 ⟨k,rfl,hk⟩)
        rw[List.mem_reverse] at this
        obtain⟨k',hk',e⟩:=List.mem_map.1 this
        have e:k'=k:=Int.ofNat.inj (List.cons.inj e).1
        subst e
        exact⟨k',hk',y,rfl,s,s1,s2,s3⟩
      refine callee_view (filter56 t h (fun y=>D1 [(y:Int)])) ?_
      (repeat' ((conv=>whnf);first|(with_reducible first|apply spl|apply spl'|refine iJ ?_)<;>intro hc<;>try(exfalso;omega)|refine vcq ?_|refine dr 16 ?_|refine dr 9 ?_));all_goals(try conv=>whnf);try exact trivial
      refine⟨semOb_fn (a':=[]) (b':=[.iptr [.imap [.i64] false false D1 (fun k=>[.int .i64 (c1 k)]) n1]]) (fun k=>mapped59 D1 c1 n1 (fun x q=>(h4 x q).1) k.1) (plain_of Tryz.func59 (by kernel_rfl) (by kernel_rfl)) ?_,?_⟩
      ·(repeat' ((conv=>whnf);first|(with_reducible first|apply spl|apply spl'|refine iJ ?_)<;>intro hc<;>try(exfalso;omega)|refine vcq ?_|refine dr 16 ?_|refine dr 9 ?_));all_goals(try conv=>whnf);try exact trivial
      ·rintro _ rfl
       have e:filL t.d.cnt (fun y=>D1 [(y:Int)])=t.mapL:=by
        unfold filL Tr.mapL
        congr 1
        refine List.filter_congr fun x _=>?_
        rw[decide_eq_decide]
        exact hfin x
       rw[e]
       (repeat' ((conv=>whnf);first|(with_reducible first|apply spl|apply spl'|refine iJ ?_)<;>intro hc<;>try(exfalso;omega)|refine vcq ?_|refine dr 16 ?_|refine dr 9 ?_));all_goals(try conv=>whnf);try exact trivial
       refine⟨_,rfl,?_⟩
       (repeat' ((conv=>whnf);first|(with_reducible first|apply spl|apply spl'|refine iJ ?_)<;>intro hc<;>try(exfalso;omega)|refine vcq ?_|refine dr 16 ?_|refine dr 9 ?_));all_goals(try conv=>whnf);try exact trivial
def cntH (t:Tr) (i k:Nat):Nat:=(t.mapL.take i).countP fun x=>(t.lc x.toNat).2.1 == k
theorem cntH_succ (t:Tr) {i:Nat} (hi:i<t.mapL.length) (k:Nat):cntH t (i+1) k=cntH t i k+(if(t.lc (t.mapL.getD i 0).toNat).2.1=k then 1 else 0):=by
 unfold cntH
 rw[List.take_succ_eq_append_getElem hi,List.countP_append,List.getD_eq_getElem?_getD,a0I hi]
 simp[List.countP_cons]
theorem cntH_le (t:Tr) (i k:Nat):cntH t i k≤i:=Nat.le_trans List.countP_le_length (List.length_take_le ..)
theorem mapL_len (t:Tr):t.mapL.length≤t.d.cnt:=by
 unfold Tr.mapL
 rw[List.length_map]
 refine Nat.le_trans (List.length_filter_le ..) ?_
 simp
theorem failing25 (t:Tr) (h:t.Ok) (h60:t.d.cnt≤60):PureC Tryz.prog 25 false [t.iV] (·=.sl 1 (filL t.d.H.toNat (fun k=>t.mo<t.onH k)).length (rowOf intC 0 (filL t.d.H.toNat (fun k=>t.mo<t.onH k)))):=by
 have hH:=h.d.h
 have hml:=mapL_len t
 have hmk:=Tr.mapL_ok t
 have hfl:=filL_len t.d.H.toNat (fun k=>t.mo<t.onH k)
 have hHn:(t.d.H.toNat:Int)=t.d.H:=Int.toNat_of_nonneg (by omega)
 have hfin:∀k,cntH t t.mapL.length k=t.onH k:=fun k=>by unfold cntH;rw[List.take_length];rfl
 refine pureC_of_exec Tryz.E_ok Tryz.func25 rfl (by kernel_rfl) ?_
 (repeat' ((conv=>whnf);first|(with_reducible first|apply spl|apply spl'|refine iJ ?_)<;>intro hc<;>try(exfalso;omega)|refine vcq ?_|fail));all_goals(try conv=>whnf);try exact trivial
 refine callee_fo (mapped42 t h h60) rfl ?_
 rintro _ rfl
 (repeat' ((conv=>whnf);first|(with_reducible first|apply spl|apply spl'|refine iJ ?_)<;>intro hc<;>try(exfalso;omega)|refine vcq ?_|fail));all_goals(try conv=>whnf);try exact trivial
 refine⟨Nat,fun i=>i≤t.mapL.length,fun i=>t.mapL.length-i,fun i=>[(19,.int .i64 (i:Nat))],fun i=>[(0,.row 3 1 t.d.H.toNat (fun k=>[.int .i64 (cntH t i k:Nat)]) false)],fun _=>[],0,⟨a2I _,some [some 0],?_⟩,?_⟩
 ·(repeat' ((conv=>whnf);first|(with_reducible first|apply spl|apply spl'|refine iJ ?_)<;>intro hc<;>try(exfalso;omega)|refine vcq ?_|fail));all_goals(try conv=>whnf);try exact trivial
 ·intro i hi
  have hi:i≤t.mapL.length:=hi
  have hti:((i:Nat):Int).toNat=i:=Int.toNat_natCast i
  by_cases hil:i<t.mapL.length
  ·have hx:=passOk_get hmk hil
   have hcs:=cntH_succ t hil
   obtain⟨x,ex⟩:∃x:Nat,t.mapL.getD i 0=x:=⟨(t.mapL.getD i 0).toNat,by omega⟩
   rw[ex] at hcs
   rw[Int.toNat_natCast] at hcs
   have hxl:x<t.d.cnt:=by omega
   have hv:=(vld_loc h.d hxl).1.2.1
   have htx:((x:Nat):Int).toNat=x:=Int.toNat_natCast x
   (repeat' ((conv=>whnf);first|(with_reducible first|apply spl|apply spl'|refine iJ ?_)<;>intro hc<;>try(exfalso;omega)|refine vcq ?_|fail));all_goals(try conv=>whnf);try exact trivial
   rw[hti,ex]
   refine⟨⟨by omega,by omega⟩,?_⟩
   (repeat' ((conv=>whnf);first|(with_reducible first|apply spl|apply spl'|refine iJ ?_)<;>intro hc<;>try(exfalso;omega)|refine vcq ?_|fail));all_goals(try conv=>whnf);try exact trivial
   rw[htx]
   rw[show loc t.d.H.toNat t.d.S x=t.lc x from rfl] at hv ⊢
   generalize (t.lc x).2.1=k at *
   have htk:((k:Nat):Int).toNat=k:=Int.toNat_natCast k
   have hk4:k<4:=by omega
   have hle:=cntH_le t i k
   (repeat' ((conv=>whnf);first|(with_reducible first|apply spl|apply spl'|refine iJ ?_)<;>intro hc<;>try(exfalso;omega)|refine vcq ?_|fail));all_goals(try conv=>whnf);try exact trivial
   rw[htk]
   refine⟨inR_of (by omega) (by omega),?_⟩
   (repeat' ((conv=>whnf);first|(with_reducible first|apply spl|apply spl'|refine iJ ?_)<;>intro hc<;>try(exfalso;omega)|refine vcq ?_|fail));all_goals(try conv=>whnf);try exact trivial
   refine⟨i+1,⟨by omega,by dsimp only;omega⟩,some [some 0],?_⟩
   (repeat' ((conv=>whnf);first|(with_reducible first|apply spl|apply spl'|refine iJ ?_)<;>intro hc<;>try(exfalso;omega)|refine vcq ?_|fail));all_goals(try conv=>whnf);try exact trivial
   refine⟨fun j _=>?_,?_⟩
   ·rw[htk]
    change spliceP (j=k) [V.int .i64 (cntH t i j:Nat)] 0 [V.int .i64 ((cntH t i k:Nat)+1)]=[V.int .i64 (cntH t (i+1) j:Nat)]
    rw[hcs]
    by_cases q:j=k
    ·rw[spliceP_pos q,q,if_pos rfl]
     rfl
    ·rw[spliceP_neg q,if_neg (fun e=>q e.symm)]
     rfl
   ·(repeat' ((conv=>whnf);first|(with_reducible first|apply spl|apply spl'|refine iJ ?_)<;>intro hc<;>try(exfalso;omega)|refine vcq ?_|fail));all_goals(try conv=>whnf);try exact trivial
  ·have e:i=t.mapL.length:=by omega
   subst e
   (repeat' ((conv=>whnf);first|(with_reducible first|apply spl|apply spl'|refine iJ ?_)<;>intro hc<;>try(exfalso;omega)|refine vcq ?_|fail));all_goals(try conv=>whnf);try exact trivial
   refine⟨Nat×List Int,fun q=>q.1≤t.d.H.toNat∧q.2=filL q.1 (fun k=>t.mo<t.onH k)∧q.2.length≤q.1,fun q=>t.d.H.toNat-q.1,fun q=>[(39,.int .i64 (q.1:Nat)),(6,.osl 1 q.2.length)],fun _=>[],fun q=>[.row 3 1 q.2.length (rowOf intC 0 q.2) true],(0,[]),⟨⟨a2I _,rfl,by simp⟩,some [some 0,none],?_⟩,?_⟩
   ·(repeat' ((conv=>whnf);first|(with_reducible first|apply spl|apply spl'|refine iJ ?_)<;>intro hc<;>try(exfalso;omega)|refine vcq ?_|fail));all_goals(try conv=>whnf);try exact trivial
   ·rintro⟨n,L⟩ ⟨hn,hL,hLl⟩
    dsimp only at hn hL hLl
    have htn:((n:Nat):Int).toNat=n:=Int.toNat_natCast n
    by_cases hnl:n<t.d.H.toNat
    ·have hs:=filL_succ n (fun k=>t.mo<t.onH k)
     rw[←hL] at hs
     have hlL:(L++[(n:Int)]).length=L.length+1:=by rw[a0P,List.length_singleton]
     (repeat' ((conv=>whnf);first|(with_reducible first|apply spl|apply spl'|refine iJ ?_)<;>intro hc<;>try(exfalso;omega)|refine vcq ?_|fail));all_goals(try conv=>whnf);try exact trivial
     ·dsimp only at hc
      rw[htn,hfin] at hc
      rw[if_pos hc] at hs
      refine⟨(n+1,L++[(n:Int)]),⟨⟨by dsimp only;omega,hs.symm,by dsimp only;omega⟩,by dsimp only;omega⟩,some [some 0,some 3],?_⟩
      (repeat' ((conv=>whnf);first|(with_reducible first|apply spl|apply spl'|refine iJ ?_)<;>intro hc<;>try(exfalso;omega)|refine vcq ?_|fail));all_goals(try conv=>whnf);try exact trivial
      refine⟨rowOf_snoc (c:=intC) (a:=(n:Int)) (l:=L) rfl (fun _ _=>rfl),?_⟩
      (repeat' ((conv=>whnf);first|(with_reducible first|apply spl|apply spl'|refine iJ ?_)<;>intro hc<;>try(exfalso;omega)|refine vcq ?_|fail));all_goals(try conv=>whnf);try exact trivial
     ·dsimp only at hc
      rw[htn,hfin] at hc
      rw[if_neg hc,List.append_nil] at hs
      refine⟨(n+1,L),⟨⟨by dsimp only;omega,hs.symm,by dsimp only;omega⟩,by dsimp only;omega⟩,some [some 0,some 1],?_⟩
      (repeat' ((conv=>whnf);first|(with_reducible first|apply spl|apply spl'|refine iJ ?_)<;>intro hc<;>try(exfalso;omega)|refine vcq ?_|fail));all_goals(try conv=>whnf);try exact trivial
    ·have e:n=t.d.H.toNat:=by omega
     subst e
     rw[←hL]
     (repeat' ((conv=>whnf);first|(with_reducible first|apply spl|apply spl'|refine iJ ?_)<;>intro hc<;>try(exfalso;omega)|refine vcq ?_|fail));all_goals(try conv=>whnf);try exact trivial
     refine⟨_,rfl,?_⟩
     (repeat' ((conv=>whnf);first|(with_reducible first|apply spl|apply spl'|refine iJ ?_)<;>intro hc<;>try(exfalso;omega)|refine vcq ?_|fail));all_goals(try conv=>whnf);try exact trivial
theorem OnesCount41 (s:Nat) (hs:s<16):PureC Tryz.prog 41 false [.int .u64 (s:Nat)] (·=.int .i64 (pop s:Nat)):=by
 have:s=0∨s=1∨s=2∨s=3∨s=4∨s=5∨s=6∨s=7∨s=8∨s=9∨s=10∨s=11∨s=12∨s=13∨s=14∨s=15:=by omega
 rcases this with rfl|rfl|rfl|rfl|rfl|rfl|rfl|rfl|rfl|rfl|rfl|rfl|rfl|rfl|rfl|rfl
 all_goals(
  refine pureC_of_exec Tryz.E_ok Tryz.func41 rfl (by kernel_rfl) ?_
  (repeat' ((conv=>whnf);first|(with_reducible first|apply spl|apply spl'|refine iJ ?_)<;>intro hc<;>try(exfalso;omega)|refine vcq ?_|fail));all_goals(try conv=>whnf);try exact trivial
  refine callee_exec Tryz.E_ok Tryz.func55 rfl (by kernel_rfl) ?_
  (repeat' ((conv=>whnf);first|(with_reducible first|apply spl|apply spl'|refine iJ ?_)<;>intro hc<;>try(exfalso;omega)|refine vcq ?_|fail));all_goals(try conv=>whnf);try exact trivial
  (repeat(refine And.intro (by first|decide|(unfold inR;decide +kernel)) ?_;(repeat' ((conv=>whnf);first|(with_reducible first|apply spl|apply spl'|refine iJ ?_)<;>intro hc<;>try(exfalso;omega)|refine vcq ?_|fail));all_goals((try conv=>whnf);try exact trivial)))
  refine⟨_,rfl,?_⟩
  exact⟨by decide +kernel,trivial⟩)
end Tp
end Go.Proofs
