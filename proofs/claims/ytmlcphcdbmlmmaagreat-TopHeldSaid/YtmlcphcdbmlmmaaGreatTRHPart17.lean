/- Own work: texts of the proof of a law (T16, T17, T18, T19). No condition. -/
import Derived.Test.YtmlcphcdbmlmmaaGreatTRHPart16
import Derived.Shelf.Spec.SlicesGrow
set_option linter.unusedVariables false
set_option linter.unusedSimpArgs false
namespace Go.Proofs
open Go Go.Sx
set_option maxRecDepth 100000
set_option maxHeartbeats 40000000
def Tryz.lays8_ren:Go.Shelf.Ren:=⟨fun|4=>53|n=>n,fun|22=>30|25=>3|3=>3|4=>4|9=>9|20=>20|0=>0|n=>n,fun|n=>n⟩
theorem Tryz.lays8:Go.Proofs.Lays8.n4 Tryz.prog Tryz.lays8_ren:={
 mixed:=by kernel_rfl
 f4 := ⟨"slices.Grow[[]int,int]", by decide, Tryz.func53.trans (congrArg some (by kernel_rfl))⟩
 t0:=Tryz.underlying0
 a0:=Tryz.isAgg0
 z0:=Tryz.sizeOf0
 v0:=Tryz.zeroValue0
 t3:=Tryz.underlying3
 a3:=Tryz.isAgg3
 z3:=Tryz.sizeOf3
 v3:=Tryz.zeroValue3
 t4:=Tryz.underlying4
 a4:=Tryz.isAgg4
 z4:=Tryz.sizeOf4
 v4:=Tryz.zeroValue4
 t9:=Tryz.underlying9
 a9:=Tryz.isAgg9
 z9:=Tryz.sizeOf9
 v9:=Tryz.zeroValue9
 t20:=Tryz.underlying20
 a20:=Tryz.isAgg20
 z20:=Tryz.sizeOf20
 v20:=Tryz.zeroValue20
 t22:=Tryz.underlying30
 a22:=Tryz.isAgg30
 z22:=Tryz.sizeOf30
 v22:=Tryz.zeroValue30}
namespace Tp
theorem info3:(Tryz.prog.info? 3).map (fun i=>(i.zero,i.size,i.bytes))=some (some (.int .i64 0),1,8):=by kernel_rfl
theorem Grow53 (n:Nat) (h0:0<n) (hn:n≤1000000):NewC Tryz.prog 53 [.lit (.slice none 0 0),.int .i64 n] (fun r H=>r=.osl 0 0∧H=[.row 3 1 0 (fun _=>[]) false]):=by
 refine⟨⟨_,Tryz.func53,by kernel_rfl,by kernel_rfl⟩,fun I w vals hI hd=>?_⟩
 obtain⟨v0,r0,rfl,e0,v1,r1,rfl,e1,e2⟩:=hd
 have e0:v0=.slice none 0 0:=e0
 have e1:v1=.int .i64 n:=e1
 have e2:r1=[]:=e2
 subst e0 e1 e2
 obtain⟨i0,hi0,hi⟩:∃i0,Tryz.prog.info? 3=some i0∧(i0.zero,i0.size,i0.bytes)=(some (.int .i64 0),1,8):=by
  have:=info3
  cases h:Tryz.prog.info? 3 with
  |none=>rw[h] at this;cases this
  |some i=>rw[h] at this;exact⟨i,rfl,a1C this⟩
 have hz:i0.zero=some (.int .i64 0):=congrArg Prod.fst hi
 have hs:i0.size=1:=congrArg (fun x=>x.2.1) hi
 have hb:i0.bytes=8:=congrArg (fun x=>x.2.2) hi
 refine(Any8.slices_Grow_grow Tryz.lays8 i0 (.int .i64 0) hi0 hz (by rw[hs];decide) none 0 0 n [] w (a0O _) (by omega) (by rw[hb];omega) (by omega) (by simp) (fun _=>rfl) (fun a h=>by cases h)).mono ?_
 rintro e w' ⟨rfl,rfl⟩
 have key:∀(cap:Nat) (cur:Array Value),cap≤maxLen→cur.size=cap*1→∃I' η' H' ret v,Ending.returned (Value.slice (some ⟨w.heap.size,0,none⟩) 0 cap)=Ending.returned v∧(ret=V.osl 0 0∧H'=[O.row 3 1 0 (fun _=>[]) false])∧Sat I' η' (w.drew.alloc (.cells cur 3)) H'∧Den I' η' (w.drew.alloc (.cells cur 3)) ret v∧Step I (own [] []) w I' (own η' H') (w.drew.alloc (.cells cur 3)):=by
  intro cap cur hcm hsz
  have s0:Sat I [] w.drew []:=sat_nil hI
  obtain⟨g1,_,g3⟩:=s0.push (.cells cur 3) (.row 3 1 0 (fun _=>[]) false) cap ⟨[],⟨rfl,.inr ⟨w.heap.size,cap,cur,rfl,a2I _,heap_alloc_new w.drew _,a2I _,hcm,hsz,rfl⟩⟩,by simp,⟨fun q=>(by cases q),fun q=>(by cases q.1)⟩,fun i hi=>(by omega)⟩
  have st:Step I (own [] []) w I (own [] []) w.drew:=⟨rfl,rfl,rfl,a0O _,fun _ _ _=>rfl,fun _ q=>q,fun _ q=>.inl q,fun _ q=>.inl q,fun _ _ q _=>q⟩
  exact⟨I,[(some w.heap.size,cap)],[.row 3 1 0 (fun _=>[]) false],.osl 0 0,_,rfl,⟨rfl,rfl⟩,g1,⟨(some w.heap.size,cap),rfl,fun q=>(by cases q),rfl⟩,st.trans g3⟩
 have hge:=grownCap_ge w (0+n) 0 3
 refine key (grownCap w (0+n) 0 3) _ (grownCap_le_maxLen w (0+n) 0 3 (by simp only[maxLen];omega)) ?_
 have hz1:(Value.int IntKind.i64 0).cells.size=1:=rfl
 simp only[Array.size_append,size_zeroCells,hz1,a1J,List.length_nil]
 have e3:Tryz.lays8_ren.t 25=3:=rfl
 rw[e3]
 omega
theorem Grow53z:NewC Tryz.prog 53 [.lit (.slice none 0 0),.int .i64 0] (fun r H=>r=.lit (.slice none 0 0)∧H=[]):=by
 refine⟨⟨_,Tryz.func53,by kernel_rfl,by kernel_rfl⟩,fun I w vals hI hd=>?_⟩
 obtain⟨v0,r0,rfl,e0,v1,r1,rfl,e1,e2⟩:=hd
 have e0:v0=.slice none 0 0:=e0
 have e1:v1=.int .i64 0:=e1
 have e2:r1=[]:=e2
 subst e0 e1 e2
 refine(Any8.slices_Grow_room Tryz.lays8 none 0 0 0 w (a0O _) (by omega) (by omega) (a0O _)).mono ?_
 rintro e w' ⟨rfl,rfl⟩
 exact⟨I,[],[],_,_,rfl,⟨rfl,rfl⟩,sat_nil hI,rfl,Step.refl _ _ _⟩
theorem row_app (a b:List Int):∀i,i<a.length+b.length→appF a.length (rowOf intC 0 a) (rowOf intC 0 b) i=rowOf intC 0 (a++b) i:=fun i _=>by
 unfold appF rowOf
 by_cases h:i<a.length
 ·rw[if_pos h,List.getD_eq_getElem?_getD,List.getD_eq_getElem?_getD,a0D h]
 ·rw[if_neg h,List.getD_eq_getElem?_getD,List.getD_eq_getElem?_getD,a0Q (by omega)]
theorem flat_succ {P:List (List Int)} {i:Nat} (hi:i<P.length):(P.take (i+1)).flatten=(P.take i).flatten++P.getD i []:=by
 rw[List.take_succ_eq_append_getElem hi,List.flatten_append,List.getD_eq_getElem?_getD,a0I hi]
 simp
theorem Concat38 (P:List (List Int)) (hP:P.length≤20) (hl:∀i,i<P.length→(P.getD i []).length≤5120):PureC Tryz.prog 38 false [.sl 1 P.length (rowOf lsC [] P)] (·=.sl 1 P.flatten.length (rowOf intC 0 P.flatten)):=by
 have hlen:∀i,i≤P.length→(P.take i).flatten.length≤5120*i:=by
  intro i
  induction i with
  |zero=>intro _;simp
  |succ i ih=>
   intro hi
   have h1:=ih (by omega)
   have h2:=hl i (by omega)
   rw[flat_succ (by omega),a0P]
   omega
 refine pureC_of_exec Tryz.E_ok Tryz.func38 rfl (by kernel_rfl) ?_
 (repeat' ((conv=>whnf);first|(with_reducible first|apply spl|apply spl'|refine iJ ?_)<;>intro hc<;>try(exfalso;omega)|refine vcq ?_|fail));all_goals(try conv=>whnf);try exact trivial
 refine⟨Nat,fun i=>i≤P.length,fun i=>P.length-i,fun i=>[(11,.int .i64 (i:Nat)),(3,.int .i64 ((P.take i).flatten.length:Nat))],fun _=>[],fun _=>[],0,⟨a2I _,some [],?_⟩,?_⟩
 ·(repeat' ((conv=>whnf);first|(with_reducible first|apply spl|apply spl'|refine iJ ?_)<;>intro hc<;>try(exfalso;omega)|refine vcq ?_|fail));all_goals(try conv=>whnf);try exact trivial
 ·intro i hi
  have hi:i≤P.length:=hi
  have hti:((i:Nat):Int).toNat=i:=Int.toNat_natCast i
  have hle:=hlen i hi
  by_cases hil:i<P.length
  ·have hs:=congrArg List.length (flat_succ hil)
   rw[a0P] at hs
   have h5:=hl i hil
   (repeat' ((conv=>whnf);first|(with_reducible first|apply spl|apply spl'|refine iJ ?_)<;>intro hc<;>try(exfalso;omega)|refine vcq ?_|fail));all_goals(try conv=>whnf);try exact trivial
   rw[hti]
   refine⟨inR_of (by omega) (by omega),?_⟩
   (repeat' ((conv=>whnf);first|(with_reducible first|apply spl|apply spl'|refine iJ ?_)<;>intro hc<;>try(exfalso;omega)|refine vcq ?_|fail));all_goals(try conv=>whnf);try exact trivial
   refine⟨i+1,⟨by omega,by dsimp only;omega⟩,some [],?_⟩
   (repeat' ((conv=>whnf);first|(with_reducible first|apply spl|apply spl'|refine iJ ?_)<;>intro hc<;>try(exfalso;omega)|refine vcq ?_|fail));all_goals(try conv=>whnf);try exact trivial
  ·have e:i=P.length:=by omega
   subst e
   have ht:P.take P.length=P:=List.take_length
   rw[ht] at hle
   by_cases h0:P.flatten.length=0
   ·(repeat' ((conv=>whnf);first|(with_reducible first|apply spl|apply spl'|refine iJ ?_)<;>intro hc<;>try(exfalso;omega)|refine vcq ?_|fail));all_goals(try conv=>whnf);try exact trivial
    rw[ht,h0]
    refine callee_new Grow53z rfl ?_
    rintro _ _ ⟨rfl,rfl⟩
    (repeat' ((conv=>whnf);first|(with_reducible first|apply spl|apply spl'|refine iJ ?_)<;>intro hc<;>try(exfalso;omega)|refine vcq ?_|fail));all_goals(try conv=>whnf);try exact trivial
    refine⟨Nat,fun i=>i≤P.length,fun i=>P.length-i,fun i=>[(27,.int .i64 (i:Nat)),(6,.osl 0 (P.take i).flatten.length)],fun i=>[],fun i=>[.row 3 1 (P.take i).flatten.length (rowOf intC 0 (P.take i).flatten) true],0,⟨a2I _,some [none],?_⟩,?_⟩
    ·(repeat' ((conv=>whnf);first|(with_reducible first|apply spl|apply spl'|refine iJ ?_)<;>intro hc<;>try(exfalso;omega)|refine vcq ?_|fail));all_goals(try conv=>whnf);try exact trivial
    ·intro i hi
     have hi:i≤P.length:=hi
     have hti:((i:Nat):Int).toNat=i:=Int.toNat_natCast i
     have hle:=hlen i hi
     by_cases hil:i<P.length
     ·have hs:=flat_succ hil
      have h5:=hl i hil
      have hs2:=congrArg List.length hs
      rw[a0P] at hs2
      have hr:=row_app (P.take i).flatten (P.getD i [])
      rw[←hs,←hs2] at hr
      (repeat' ((conv=>whnf);first|(with_reducible first|apply spl|apply spl'|refine iJ ?_)<;>intro hc<;>try(exfalso;omega)|refine vcq ?_|fail));all_goals(try conv=>whnf);try exact trivial
      rw[hti]
      refine⟨by omega,?_⟩
      (repeat' ((conv=>whnf);first|(with_reducible first|apply spl|apply spl'|refine iJ ?_)<;>intro hc<;>try(exfalso;omega)|refine vcq ?_|fail));all_goals(try conv=>whnf);try exact trivial
      refine⟨i+1,⟨by omega,by dsimp only;omega⟩,some [some 1],?_⟩
      (repeat' ((conv=>whnf);first|(with_reducible first|apply spl|apply spl'|refine iJ ?_)<;>intro hc<;>try(exfalso;omega)|refine vcq ?_|fail));all_goals(try conv=>whnf);try exact trivial
      refine⟨fun j hj=>hr j (by omega),?_⟩
      (repeat' ((conv=>whnf);first|(with_reducible first|apply spl|apply spl'|refine iJ ?_)<;>intro hc<;>try(exfalso;omega)|refine vcq ?_|fail));all_goals(try conv=>whnf);try exact trivial
     ·have e:i=P.length:=by omega
      subst e
      (repeat' ((conv=>whnf);first|(with_reducible first|apply spl|apply spl'|refine iJ ?_)<;>intro hc<;>try(exfalso;omega)|refine vcq ?_|fail));all_goals(try conv=>whnf);try exact trivial
      rw[ht]
      refine⟨_,rfl,?_⟩
      (repeat' ((conv=>whnf);first|(with_reducible first|apply spl|apply spl'|refine iJ ?_)<;>intro hc<;>try(exfalso;omega)|refine vcq ?_|fail));all_goals(try conv=>whnf);try exact trivial
   ·(repeat' ((conv=>whnf);first|(with_reducible first|apply spl|apply spl'|refine iJ ?_)<;>intro hc<;>try(exfalso;omega)|refine vcq ?_|fail));all_goals(try conv=>whnf);try exact trivial
    rw[ht]
    refine callee_new (Grow53 P.flatten.length (by omega) (by omega)) rfl ?_
    rintro _ _ ⟨rfl,rfl⟩
    (repeat' ((conv=>whnf);first|(with_reducible first|apply spl|apply spl'|refine iJ ?_)<;>intro hc<;>try(exfalso;omega)|refine vcq ?_|fail));all_goals(try conv=>whnf);try exact trivial
    refine⟨Nat,fun i=>i≤P.length,fun i=>P.length-i,fun i=>[(27,.int .i64 (i:Nat)),(6,.osl 0 (P.take i).flatten.length),(24,.any)],fun i=>[(0,.row 3 1 (P.take i).flatten.length (rowOf intC 0 (P.take i).flatten) false)],fun i=>[],0,⟨a2I _,some [some 0],?_⟩,?_⟩
    ·(repeat' ((conv=>whnf);first|(with_reducible first|apply spl|apply spl'|refine iJ ?_)<;>intro hc<;>try(exfalso;omega)|refine vcq ?_|fail));all_goals(try conv=>whnf);try exact trivial
    ·intro i hi
     have hi:i≤P.length:=hi
     have hti:((i:Nat):Int).toNat=i:=Int.toNat_natCast i
     have hle:=hlen i hi
     by_cases hil:i<P.length
     ·have hs:=flat_succ hil
      have h5:=hl i hil
      have hs2:=congrArg List.length hs
      rw[a0P] at hs2
      have hr:=row_app (P.take i).flatten (P.getD i [])
      rw[←hs,←hs2] at hr
      (repeat' ((conv=>whnf);first|(with_reducible first|apply spl|apply spl'|refine iJ ?_)<;>intro hc<;>try(exfalso;omega)|refine vcq ?_|fail));all_goals(try conv=>whnf);try exact trivial
      rw[hti]
      refine⟨by omega,?_⟩
      (repeat' ((conv=>whnf);first|(with_reducible first|apply spl|apply spl'|refine iJ ?_)<;>intro hc<;>try(exfalso;omega)|refine vcq ?_|fail));all_goals(try conv=>whnf);try exact trivial
      refine⟨i+1,⟨by omega,by dsimp only;omega⟩,some [some 1],?_⟩
      (repeat' ((conv=>whnf);first|(with_reducible first|apply spl|apply spl'|refine iJ ?_)<;>intro hc<;>try(exfalso;omega)|refine vcq ?_|fail));all_goals(try conv=>whnf);try exact trivial
      refine⟨fun j hj=>hr j (by omega),?_⟩
      (repeat' ((conv=>whnf);first|(with_reducible first|apply spl|apply spl'|refine iJ ?_)<;>intro hc<;>try(exfalso;omega)|refine vcq ?_|fail));all_goals(try conv=>whnf);try exact trivial
     ·have e:i=P.length:=by omega
      subst e
      (repeat' ((conv=>whnf);first|(with_reducible first|apply spl|apply spl'|refine iJ ?_)<;>intro hc<;>try(exfalso;omega)|refine vcq ?_|fail));all_goals(try conv=>whnf);try exact trivial
      rw[ht]
      refine⟨_,rfl,?_⟩
      (repeat' ((conv=>whnf);first|(with_reducible first|apply spl|apply spl'|refine iJ ?_)<;>intro hc<;>try(exfalso;omega)|refine vcq ?_|fail));all_goals(try conv=>whnf);try exact trivial
theorem in51 (n x y:Int):PureC Tryz.prog 51 false [.int .i64 n,.int .i64 x,.int .i64 y] (·=.prop (x≤n∧n≤y) inferInstance):=by
 refine pureC_of_exec Tryz.E_ok Tryz.func51 rfl (by kernel_rfl) ?_
 (repeat' ((conv=>whnf);first|(with_reducible first|apply spl|apply spl'|refine iJ ?_)<;>intro hc<;>try(exfalso;omega)|refine vcq ?_|fail));all_goals((try conv=>whnf);try exact trivial);(all_goals(try(refine⟨_,rfl,?_⟩;(repeat' ((conv=>whnf);first|(with_reducible first|apply spl|apply spl'|refine iJ ?_)<;>intro hc<;>try(exfalso;omega)|refine vcq ?_|fail));all_goals((try conv=>whnf);try exact trivial))))
 all_goals exact⟨by omega,trivial⟩
theorem passOk_len {n:Nat} {l:List Int} (h:PassOk n l):l.length≤n:=by
 have hnd:(l.map Int.toNat).Nodup:=by
  unfold List.Nodup
  rw[a2F]
  refine(List.Pairwise.and_mem.1 h.1).imp ?_
  rintro a b ⟨ha,hb,hab⟩ e
  have:=h.2 a ha
  have:=h.2 b hb
  omega
 have:=List.Nodup.length_le_of_subset hnd (l₂:=List.range n) (fun x hx=>by
  obtain⟨y,hy,rfl⟩:=List.mem_map.1 hx
  have:=h.2 y hy
  rw[a1Z]
  omega)
 simpa using this
theorem Check36 (t:Tr) (h:t.Ok):PureC Tryz.prog 36 false [t.v] (·=.int .i64 0):=by
 have hcn:=Dk.cnt_le h.d
 obtain⟨hd,h1,h2,h3,h4,h5,h6,h7,h8,h9⟩:=h
 refine pureC_of_exec Tryz.E_ok Tryz.func36 rfl (by kernel_rfl) ?_
 (repeat' ((conv=>whnf);first|(with_reducible first|apply spl|apply spl'|refine iJ ?_)<;>intro hc<;>try(exfalso;omega)|refine vcq ?_|fail));all_goals(try conv=>whnf);try exact trivial
 refine callee_fo (Size81 t.d hd) rfl ?_
 rintro _ rfl
 (repeat' ((conv=>whnf);first|(with_reducible first|apply spl|apply spl'|refine iJ ?_)<;>intro hc<;>try(exfalso;omega)|refine vcq ?_|fail));all_goals(try conv=>whnf);try exact trivial
 refine⟨Nat,fun i=>i≤7,fun i=>7-i,fun i=>[(44,.int .i64 (i:Nat))],fun _=>[],fun _=>[],0,⟨a2I _,some [some 0,some 1],?_⟩,?_⟩
 ·(repeat' ((conv=>whnf);first|(with_reducible first|apply spl|apply spl'|refine iJ ?_)<;>intro hc<;>try(exfalso;omega)|refine vcq ?_|fail));all_goals(try conv=>whnf);try exact trivial
 ·intro i hi
  have hi:i≤7:=hi
  have hii:i=0∨i=1∨i=2∨i=3∨i=4∨i=5∨i=6∨i=7:=by omega
  rcases hii with rfl|rfl|rfl|rfl|rfl|rfl|rfl|rfl
  ·(repeat' ((conv=>whnf);first|(with_reducible first|apply spl|apply spl'|refine iJ ?_)<;>intro hc<;>try(exfalso;omega)|refine vcq ?_|fail));all_goals((try conv=>whnf);try exact trivial);(repeat' ((first|(refine callee_fo (in51 _ _ _) rfl ?_;rintro _ rfl)|(refine pcall_intro (in51 _ _ _) rfl ?_)|(refine pcall_soft (fun _=>in51 _ _ _) rfl ?_));(repeat' ((conv=>whnf);first|(with_reducible first|apply spl|apply spl'|refine iJ ?_)<;>intro hc<;>try(exfalso;omega)|refine vcq ?_|fail));all_goals((try conv=>whnf);try exact trivial)))
   refine⟨1,⟨by dsimp only;omega,by dsimp only;omega⟩,some [some 0,some 1],?_⟩
   (repeat' ((conv=>whnf);first|(with_reducible first|apply spl|apply spl'|refine iJ ?_)<;>intro hc<;>try(exfalso;omega)|refine vcq ?_|fail));all_goals(try conv=>whnf);try exact trivial
  ·(repeat' ((conv=>whnf);first|(with_reducible first|apply spl|apply spl'|refine iJ ?_)<;>intro hc<;>try(exfalso;omega)|refine vcq ?_|fail));all_goals((try conv=>whnf);try exact trivial);(repeat' ((first|(refine callee_fo (in51 _ _ _) rfl ?_;rintro _ rfl)|(refine pcall_intro (in51 _ _ _) rfl ?_)|(refine pcall_soft (fun _=>in51 _ _ _) rfl ?_));(repeat' ((conv=>whnf);first|(with_reducible first|apply spl|apply spl'|refine iJ ?_)<;>intro hc<;>try(exfalso;omega)|refine vcq ?_|fail));all_goals((try conv=>whnf);try exact trivial)))
   refine⟨2,⟨by dsimp only;omega,by dsimp only;omega⟩,some [some 0,some 1],?_⟩
   (repeat' ((conv=>whnf);first|(with_reducible first|apply spl|apply spl'|refine iJ ?_)<;>intro hc<;>try(exfalso;omega)|refine vcq ?_|fail));all_goals(try conv=>whnf);try exact trivial
  ·(repeat' ((conv=>whnf);first|(with_reducible first|apply spl|apply spl'|refine iJ ?_)<;>intro hc<;>try(exfalso;omega)|refine vcq ?_|fail));all_goals((try conv=>whnf);try exact trivial);(repeat' ((first|(refine callee_fo (in51 _ _ _) rfl ?_;rintro _ rfl)|(refine pcall_intro (in51 _ _ _) rfl ?_)|(refine pcall_soft (fun _=>in51 _ _ _) rfl ?_));(repeat' ((conv=>whnf);first|(with_reducible first|apply spl|apply spl'|refine iJ ?_)<;>intro hc<;>try(exfalso;omega)|refine vcq ?_|fail));all_goals((try conv=>whnf);try exact trivial)))
   refine⟨3,⟨by dsimp only;omega,by dsimp only;omega⟩,some [some 0,some 1],?_⟩
   (repeat' ((conv=>whnf);first|(with_reducible first|apply spl|apply spl'|refine iJ ?_)<;>intro hc<;>try(exfalso;omega)|refine vcq ?_|fail));all_goals(try conv=>whnf);try exact trivial
  ·(repeat' ((conv=>whnf);first|(with_reducible first|apply spl|apply spl'|refine iJ ?_)<;>intro hc<;>try(exfalso;omega)|refine vcq ?_|fail));all_goals((try conv=>whnf);try exact trivial);(repeat' ((first|(refine callee_fo (in51 _ _ _) rfl ?_;rintro _ rfl)|(refine pcall_intro (in51 _ _ _) rfl ?_)|(refine pcall_soft (fun _=>in51 _ _ _) rfl ?_));(repeat' ((conv=>whnf);first|(with_reducible first|apply spl|apply spl'|refine iJ ?_)<;>intro hc<;>try(exfalso;omega)|refine vcq ?_|fail));all_goals((try conv=>whnf);try exact trivial)))
   refine⟨4,⟨by dsimp only;omega,by dsimp only;omega⟩,some [some 0,some 1],?_⟩
   (repeat' ((conv=>whnf);first|(with_reducible first|apply spl|apply spl'|refine iJ ?_)<;>intro hc<;>try(exfalso;omega)|refine vcq ?_|fail));all_goals(try conv=>whnf);try exact trivial
  ·(repeat' ((conv=>whnf);first|(with_reducible first|apply spl|apply spl'|refine iJ ?_)<;>intro hc<;>try(exfalso;omega)|refine vcq ?_|fail));all_goals((try conv=>whnf);try exact trivial);(repeat' ((first|(refine callee_fo (in51 _ _ _) rfl ?_;rintro _ rfl)|(refine pcall_intro (in51 _ _ _) rfl ?_)|(refine pcall_soft (fun _=>in51 _ _ _) rfl ?_));(repeat' ((conv=>whnf);first|(with_reducible first|apply spl|apply spl'|refine iJ ?_)<;>intro hc<;>try(exfalso;omega)|refine vcq ?_|fail));all_goals((try conv=>whnf);try exact trivial)))
   refine⟨5,⟨by dsimp only;omega,by dsimp only;omega⟩,some [some 0,some 1],?_⟩
   (repeat' ((conv=>whnf);first|(with_reducible first|apply spl|apply spl'|refine iJ ?_)<;>intro hc<;>try(exfalso;omega)|refine vcq ?_|fail));all_goals(try conv=>whnf);try exact trivial
  ·(repeat' ((conv=>whnf);first|(with_reducible first|apply spl|apply spl'|refine iJ ?_)<;>intro hc<;>try(exfalso;omega)|refine vcq ?_|fail));all_goals((try conv=>whnf);try exact trivial);(repeat' ((first|(refine callee_fo (in51 _ _ _) rfl ?_;rintro _ rfl)|(refine pcall_intro (in51 _ _ _) rfl ?_)|(refine pcall_soft (fun _=>in51 _ _ _) rfl ?_));(repeat' ((conv=>whnf);first|(with_reducible first|apply spl|apply spl'|refine iJ ?_)<;>intro hc<;>try(exfalso;omega)|refine vcq ?_|fail));all_goals((try conv=>whnf);try exact trivial)))
   refine⟨6,⟨by dsimp only;omega,by dsimp only;omega⟩,some [some 0,some 1],?_⟩
   (repeat' ((conv=>whnf);first|(with_reducible first|apply spl|apply spl'|refine iJ ?_)<;>intro hc<;>try(exfalso;omega)|refine vcq ?_|fail));all_goals(try conv=>whnf);try exact trivial
  ·(repeat' ((conv=>whnf);first|(with_reducible first|apply spl|apply spl'|refine iJ ?_)<;>intro hc<;>try(exfalso;omega)|refine vcq ?_|fail));all_goals((try conv=>whnf);try exact trivial);(repeat' ((first|(refine callee_fo (in51 _ _ _) rfl ?_;rintro _ rfl)|(refine pcall_intro (in51 _ _ _) rfl ?_)|(refine pcall_soft (fun _=>in51 _ _ _) rfl ?_));(repeat' ((conv=>whnf);first|(with_reducible first|apply spl|apply spl'|refine iJ ?_)<;>intro hc<;>try(exfalso;omega)|refine vcq ?_|fail));all_goals((try conv=>whnf);try exact trivial)))
   refine⟨7,⟨by dsimp only;omega,by dsimp only;omega⟩,some [some 0,some 1],?_⟩
   (repeat' ((conv=>whnf);first|(with_reducible first|apply spl|apply spl'|refine iJ ?_)<;>intro hc<;>try(exfalso;omega)|refine vcq ?_|fail));all_goals(try conv=>whnf);try exact trivial
  ·(repeat' ((conv=>whnf);first|(with_reducible first|apply spl|apply spl'|refine iJ ?_)<;>intro hc<;>try(exfalso;omega)|refine vcq ?_|fail));all_goals((try conv=>whnf);try exact trivial);(repeat' ((first|(refine callee_fo (in51 _ _ _) rfl ?_;rintro _ rfl)|(refine pcall_intro (in51 _ _ _) rfl ?_)|(refine pcall_soft (fun _=>in51 _ _ _) rfl ?_));(repeat' ((conv=>whnf);first|(with_reducible first|apply spl|apply spl'|refine iJ ?_)<;>intro hc<;>try(exfalso;omega)|refine vcq ?_|fail));all_goals((try conv=>whnf);try exact trivial)))
   have hml:∀i,i<t.P.length→PassOk t.d.cnt (t.P.getD i []):=fun i hi=>h9 _ (getD_mem hi)
   refine⟨Nat,fun i=>i≤t.P.length,fun i=>t.P.length-i,fun i=>[(63,.int .i64 (i:Nat))],fun _=>[],fun _=>[],0,⟨a2I _,some [some 0,some 1],?_⟩,?_⟩
   ·(repeat' ((conv=>whnf);first|(with_reducible first|apply spl|apply spl'|refine iJ ?_)<;>intro hc<;>try(exfalso;omega)|refine vcq ?_|fail));all_goals(try conv=>whnf);try exact trivial
   ·intro i hi
    have hi:i≤t.P.length:=hi
    have hti:((i:Nat):Int).toNat=i:=Int.toNat_natCast i
    by_cases hil:i<t.P.length
    ·have hpo:=hml i hil
     have hll:=passOk_len hpo
     (repeat' ((conv=>whnf);first|(with_reducible first|apply spl|apply spl'|refine iJ ?_)<;>intro hc<;>try(exfalso;omega)|refine vcq ?_|fail));all_goals(try conv=>whnf);try exact trivial
     rw[hti]
     generalize t.P.getD i []=l at *
     refine⟨Nat,fun k=>k≤l.length,fun k=>l.length-k,fun k=>[(69,.int .i64 (k:Nat)),(9,.int .i64 (if k=0 then -1 else l.getD (k-1) 0))],fun _=>[],fun _=>[],0,⟨a2I _,some [some 0,some 1],?_⟩,?_⟩
     ·(repeat' ((conv=>whnf);first|(with_reducible first|apply spl|apply spl'|refine iJ ?_)<;>intro hc<;>try(exfalso;omega)|refine vcq ?_|fail));all_goals(try conv=>whnf);try exact trivial
     ·intro k hk
      have hk:k≤l.length:=hk
      have htk:((k:Nat):Int).toNat=k:=Int.toNat_natCast k
      by_cases hkl:k<l.length
      ·have hg:=passOk_get hpo hkl
       have hlo:-1≤(if k=0 then -1 else l.getD (k-1) 0)∧(if k=0 then -1 else l.getD (k-1) 0)<l.getD k 0:=by
        split
        ·omega
        ·have h3:=(passOk_get hpo (show k-1<l.length by omega)).1
         have h4:=hg.2 (by omega)
         omega
       have hnx:(if k+1=0 then -1 else l.getD (k+1-1) 0)=l.getD k 0:=by rw[if_neg (by omega)];rfl
       generalize hla:(if k=0 then(-1:Int) else l.getD (k-1) 0)=la at *
       (repeat' ((conv=>whnf);first|(with_reducible first|apply spl|apply spl'|refine iJ ?_)<;>intro hc<;>try(exfalso;omega)|refine vcq ?_|fail));all_goals(try conv=>whnf);try exact trivial
       rw[hla,htk]
       (repeat' ((conv=>whnf);first|(with_reducible first|apply spl|apply spl'|refine iJ ?_)<;>intro hc<;>try(exfalso;omega)|refine vcq ?_|fail));all_goals((try conv=>whnf);try exact trivial);(repeat' ((first|(refine callee_fo (in51 _ _ _) rfl ?_;rintro _ rfl)|(refine pcall_intro (in51 _ _ _) rfl ?_)|(refine pcall_soft (fun _=>in51 _ _ _) rfl ?_));(repeat' ((conv=>whnf);first|(with_reducible first|apply spl|apply spl'|refine iJ ?_)<;>intro hc<;>try(exfalso;omega)|refine vcq ?_|fail));all_goals((try conv=>whnf);try exact trivial)))
       refine⟨k+1,⟨by omega,by dsimp only;omega⟩,some [some 0,some 1],?_⟩
       (repeat' ((conv=>whnf);first|(with_reducible first|apply spl|apply spl'|refine iJ ?_)<;>intro hc<;>try(exfalso;omega)|refine vcq ?_|fail));all_goals(try conv=>whnf);try exact trivial
      ·(repeat' ((conv=>whnf);first|(with_reducible first|apply spl|apply spl'|refine iJ ?_)<;>intro hc<;>try(exfalso;omega)|refine vcq ?_|fail));all_goals(try conv=>whnf);try exact trivial
       refine⟨i+1,⟨by dsimp only;omega,by dsimp only;omega⟩,some [some 0,some 1],?_⟩
       (repeat' ((conv=>whnf);first|(with_reducible first|apply spl|apply spl'|refine iJ ?_)<;>intro hc<;>try(exfalso;omega)|refine vcq ?_|fail));all_goals(try conv=>whnf);try exact trivial
    ·(repeat' ((conv=>whnf);first|(with_reducible first|apply spl|apply spl'|refine iJ ?_)<;>intro hc<;>try(exfalso;omega)|refine vcq ?_|fail));all_goals(try conv=>whnf);try exact trivial
     refine⟨_,rfl,?_⟩
     (repeat' ((conv=>whnf);first|(with_reducible first|apply spl|apply spl'|refine iJ ?_)<;>intro hc<;>try(exfalso;omega)|refine vcq ?_|fail));all_goals(try conv=>whnf);try exact trivial
def Tr.iM (t:Tr) (m:Nat):V:=.iptr [.int .i64 t.d.H,.int .i64 t.d.T,.sl 2 t.d.Z.length (rowOf zC (0,0) t.d.Z),.int .i64 t.d.hk,.int .i64 t.d.ck,.int .i64 t.d.hs.1,.int .i64 t.d.hs.2,.int .i64 t.d.cs.1,.int .i64 t.d.cs.2,.int .i64 t.sp,.sl 1 t.P.length (rowOf lsC [] t.P),.int .i64 t.ms,.int .i64 t.fl,.int .i64 t.mg,.int .i64 t.sc,.int .i64 t.mo,.int .i64 t.nd,.sl 1 t.d.cnt (flC t),.sl 3 m t.d.plR]
theorem badM (t:Tr) (h:t.Ok) (m n:Nat) (hn:n<t.d.cnt):PureC Tryz.prog 39 false [t.iM m,.int .i64 n] (·=.prop (t.bad n) inferInstance):=by
 have hle:=flg_le t n
 have hp:=h.P
 have htn:((n:Nat):Int).toNat=n:=Int.toNat_natCast n
 refine pureC_of_exec Tryz.E_ok Tryz.func39 rfl (by kernel_rfl) ?_
 (repeat' ((conv=>whnf);first|(with_reducible first|apply spl|apply spl'|refine iJ ?_)<;>intro hc<;>try(exfalso;omega)|refine vcq ?_|refine dr 21 ?_|refine dr 14 ?_|refine dr 6 ?_|refine dr 2007 ?_));all_goals(try conv=>whnf);try exact trivial
 rw[htn]
 refine⟨inR_of (by omega) (by omega),?_⟩
 (repeat' ((conv=>whnf);first|(with_reducible first|apply spl|apply spl'|refine iJ ?_)<;>intro hc<;>try(exfalso;omega)|refine vcq ?_|refine dr 21 ?_|refine dr 14 ?_|refine dr 6 ?_|refine dr 2007 ?_));all_goals(try conv=>whnf);try exact trivial
 refine⟨_,rfl,?_⟩
 exact⟨Iff.rfl,trivial⟩
theorem goodM (t:Tr) (m n:Nat) (hn:n<t.d.cnt):PureC Tryz.prog 40 false [t.iM m,.int .i64 n] (·=.prop (t.good n) inferInstance):=by
 have htn:((n:Nat):Int).toNat=n:=Int.toNat_natCast n
 refine pureC_of_exec Tryz.E_ok Tryz.func40 rfl (by kernel_rfl) ?_
 (repeat' ((conv=>whnf);first|(with_reducible first|apply spl|apply spl'|refine iJ ?_)<;>intro hc<;>try(exfalso;omega)|refine vcq ?_|refine dr 21 ?_|refine dr 14 ?_|refine dr 6 ?_|refine dr 2007 ?_));all_goals(try conv=>whnf);try exact trivial
 rw[htn]
 refine⟨_,rfl,?_⟩
 exact⟨Iff.rfl,trivial⟩
theorem count_pass {n:Nat} {l:List Int} (h:PassOk n l) (k:Int):l.count k=if k∈l then 1 else 0:=by
 have hnd:l.Nodup:=h.1.imp fun q=>Int.ne_of_lt q
 split
 ·rename_i q
  have h1:=List.nodup_iff_count.1 hnd k
  have h2:=List.count_pos_iff.2 q
  omega
 ·rename_i q
  exact List.count_eq_zero.2 q
theorem count_flat {n:Nat}:∀{P:List (List Int)},(∀l∈P,PassOk n l)→∀k:Nat,P.flatten.count (k:Int)=P.countP fun l=>decide ((k:Int)∈l)
 |[],_,_=>rfl
 |l :: P,h,k=>by
  rw[List.flatten_cons,List.count_append,count_flat (fun l hl=>h l (a2E _ hl)) k,count_pass (h l (List.mem_cons_self ..)),List.countP_cons]
  by_cases q:(k:Int)∈l
  ·simp[q];omega
  ·simp[q]
theorem flat_mem {n:Nat} {P:List (List Int)} (h:∀l∈P,PassOk n l) {x:Int} (hx:x∈P.flatten):0≤x∧x<n:=by
 obtain⟨l,hl,hxl⟩:=List.mem_flatten.1 hx
 exact(h l hl).2 x hxl
theorem count_succ' {l:List Int} {i:Nat} (hi:i<l.length) (k:Int):(l.take (i+1)).count k=(l.take i).count k+(if l.getD i 0=k then 1 else 0):=by
 rw[List.take_succ_eq_append_getElem hi,List.count_append,List.getD_eq_getElem?_getD,a0I hi]
 simp[List.count_cons]
def anyS:Nat→Nat→List (Nat×V)
 |_,0=>[]
 |a,n+1=>(a,.any) :: anyS (a+1) n
theorem open22 (t:Tr) (h:t.Ok) (hp:t.Poss):PureC Tryz.prog 22 true [t.v,.kb true] (·=.tup [t.iV,.int .i64 0]):=by
 have hcn:=Dk.cnt_le h.d
 have hPl:=h.P
 have hml:∀i,i<t.P.length→(t.P.getD i []).length≤5120:=fun i hi=>Nat.le_trans (passOk_len (h.pass _ (getD_mem hi))) hcn
 have hcc:=Concat38 t.P (by omega) hml
 have hfm:∀i,i<t.P.flatten.length→0≤t.P.flatten.getD i 0∧t.P.flatten.getD i 0<t.d.cnt:=fun i hi=>flat_mem h.pass (getD_mem hi)
 have hfc:=count_flat h.pass
 have hfl:t.P.flatten.length≤1000000:=by
  have:∀P:List (List Int),(∀l∈P,l.length≤5120)→P.flatten.length≤5120*P.length:=by
   intro P
   induction P with
   |nil=>intro _;simp
   |cons l P ih=>
    intro q
    have h1:=q l (List.mem_cons_self ..)
    have h2:=ih fun l hl=>q l (a2E _ hl)
    rw[List.flatten_cons,a0P,List.length_cons]
    omega
  have:=this t.P fun l hl=>Nat.le_trans (passOk_len (h.pass l hl)) hcn
  omega
 refine pureC_of_exec Tryz.E_ok Tryz.func22 rfl (by kernel_rfl) ?_
 (repeat' ((conv=>whnf);first|(with_reducible first|apply spl|apply spl'|refine iJ ?_)<;>intro hc<;>try(exfalso;omega)|refine vcq ?_|refine dr 21 ?_|refine dr 14 ?_|refine dr 6 ?_|refine dr 2007 ?_));all_goals(try conv=>whnf);try exact trivial
 refine callee_fo (Check36 t h) rfl ?_
 rintro _ rfl
 (repeat' ((conv=>whnf);first|(with_reducible first|apply spl|apply spl'|refine iJ ?_)<;>intro hc<;>try(exfalso;omega)|refine vcq ?_|refine dr 21 ?_|refine dr 14 ?_|refine dr 6 ?_|refine dr 2007 ?_));all_goals(try conv=>whnf);try exact trivial
 refine callee_fo (Size81 t.d h.d) rfl ?_
 rintro _ rfl
 (repeat' ((conv=>whnf);first|(with_reducible first|apply spl|apply spl'|refine iJ ?_)<;>intro hc<;>try(exfalso;omega)|refine vcq ?_|refine dr 21 ?_|refine dr 14 ?_|refine dr 6 ?_|refine dr 2007 ?_));all_goals(try conv=>whnf);try exact trivial
 refine callee_fo hcc rfl ?_
 rintro _ rfl
 generalize t.P.flatten=F at *
 (repeat' ((conv=>whnf);first|(with_reducible first|apply spl|apply spl'|refine iJ ?_)<;>intro hc<;>try(exfalso;omega)|refine vcq ?_|refine dr 21 ?_|refine dr 14 ?_|refine dr 6 ?_|refine dr 2007 ?_));all_goals(try conv=>whnf);try exact trivial
 have ecn:((t.d.cnt:Nat):Int).toNat=t.d.cnt:=Int.toNat_natCast _
 rw[ecn]
 refine⟨Nat,fun i=>i≤F.length,fun i=>F.length-i,fun i=>[(37,.int .i64 (i:Nat))]++anyS 15 20,fun i=>[(1,.row 3 1 t.d.cnt (fun n=>[.int .i64 ((F.take i).count (n:Int):Nat)]) false)],fun _=>[],0,⟨a2I _,some [some 0,some 1,some 2],?_⟩,?_⟩
 ·(repeat' ((conv=>whnf);first|(with_reducible first|apply spl|apply spl'|refine iJ ?_)<;>intro hc<;>try(exfalso;omega)|refine vcq ?_|refine dr 21 ?_|refine dr 14 ?_|refine dr 6 ?_|refine dr 2007 ?_));all_goals(try conv=>whnf);try exact trivial
 ·intro i hi
  have hi:i≤F.length:=hi
  have hti:((i:Nat):Int).toNat=i:=Int.toNat_natCast i
  by_cases hil:i<F.length
  ·have hx:=hfm i hil
   have hcs:=count_succ' hil
   obtain⟨x,ex⟩:∃x:Nat,F.getD i 0=x:=⟨(F.getD i 0).toNat,by omega⟩
   have htx:((x:Nat):Int).toNat=x:=Int.toNat_natCast x
   have hle:(F.take i).count (x:Int)≤i:=Nat.le_trans List.count_le_length (List.length_take_le ..)
   (repeat' ((conv=>whnf);first|(with_reducible first|apply spl|apply spl'|refine iJ ?_)<;>intro hc<;>try(exfalso;omega)|refine vcq ?_|refine dr 21 ?_|refine dr 14 ?_|refine dr 6 ?_|refine dr 2007 ?_));all_goals(try conv=>whnf);try exact trivial
   rw[hti,ex]
   refine⟨⟨by omega,by omega⟩,?_⟩
   (repeat' ((conv=>whnf);first|(with_reducible first|apply spl|apply spl'|refine iJ ?_)<;>intro hc<;>try(exfalso;omega)|refine vcq ?_|refine dr 21 ?_|refine dr 14 ?_|refine dr 6 ?_|refine dr 2007 ?_));all_goals(try conv=>whnf);try exact trivial
   rw[htx]
   refine⟨inR_of (by omega) (by omega),?_⟩
   (repeat' ((conv=>whnf);first|(with_reducible first|apply spl|apply spl'|refine iJ ?_)<;>intro hc<;>try(exfalso;omega)|refine vcq ?_|refine dr 21 ?_|refine dr 14 ?_|refine dr 6 ?_|refine dr 2007 ?_));all_goals(try conv=>whnf);try exact trivial
   refine⟨i+1,⟨by omega,by dsimp only;omega⟩,some [some 0,some 1,some 2],?_⟩
   (repeat' ((conv=>whnf);first|(with_reducible first|apply spl|apply spl'|refine iJ ?_)<;>intro hc<;>try(exfalso;omega)|refine vcq ?_|refine dr 21 ?_|refine dr 14 ?_|refine dr 6 ?_|refine dr 2007 ?_));all_goals(try conv=>whnf);try exact trivial
   refine⟨fun j _=>?_,?_⟩
   ·rw[htx]
    change spliceP (j=x) [V.int .i64 ((F.take i).count (j:Int):Nat)] 0 [V.int .i64 (((F.take i).count (x:Int):Nat)+1)]=[V.int .i64 ((F.take (i+1)).count (j:Int):Nat)]
    rw[hcs,ex]
    by_cases q:j=x
    ·rw[spliceP_pos q,q,if_pos rfl]
     rfl
    ·rw[spliceP_neg q,if_neg (show ¬(x:Int)=(j:Int) by omega)]
     rfl
   ·(repeat' ((conv=>whnf);first|(with_reducible first|apply spl|apply spl'|refine iJ ?_)<;>intro hc<;>try(exfalso;omega)|refine vcq ?_|refine dr 21 ?_|refine dr 14 ?_|refine dr 6 ?_|refine dr 2007 ?_));all_goals(try conv=>whnf);try exact trivial
  ·have e:i=F.length:=by omega
   subst e
   have hrow:∀n:Nat,(F.take F.length).count (n:Int)=t.flg n:=fun n=>by rw[List.take_length,hfc];rfl
   (repeat' ((conv=>whnf);first|(with_reducible first|apply spl|apply spl'|refine iJ ?_)<;>intro hc<;>try(exfalso;omega)|refine vcq ?_|refine dr 21 ?_|refine dr 14 ?_|refine dr 6 ?_|refine dr 2007 ?_));all_goals(try conv=>whnf);try exact trivial
   refine⟨Nat,fun n=>n≤t.d.cnt,fun n=>t.d.cnt-n,fun n=>[(52,.int .i64 (n:Nat))]++anyS 35 16,fun n=>[(1,.row 3 1 t.d.cnt (flC t) false),(2,.cells 89 [.int .i64 t.d.H,.int .i64 t.d.T,.sl 2 t.d.Z.length (rowOf zC (0,0) t.d.Z),.int .i64 t.d.hk,.int .i64 t.d.ck,.int .i64 t.d.hs.1,.int .i64 t.d.hs.2,.int .i64 t.d.cs.1,.int .i64 t.d.cs.2,.int .i64 t.sp,.sl 1 t.P.length (rowOf lsC [] t.P),.int .i64 t.ms,.int .i64 t.fl,.int .i64 t.mg,.int .i64 t.sc,.int .i64 t.mo,.int .i64 t.nd,.osl 1 t.d.cnt,.osl 3 n])],fun n=>[.row 52 3 n t.d.plR true],0,⟨a2I _,some [some 0,some 1,some 2,none],?_⟩,?_⟩
   ·(repeat' ((conv=>whnf);first|(with_reducible first|apply spl|apply spl'|refine iJ ?_)<;>intro hc<;>try(exfalso;omega)|refine vcq ?_|refine dr 21 ?_|refine dr 14 ?_|refine dr 6 ?_|refine dr 2007 ?_));all_goals(try conv=>whnf);try exact trivial
    refine⟨fun n _=>by dsimp only;rw[hrow];rfl,?_⟩
    (repeat' ((conv=>whnf);first|(with_reducible first|apply spl|apply spl'|refine iJ ?_)<;>intro hc<;>try(exfalso;omega)|refine vcq ?_|refine dr 21 ?_|refine dr 14 ?_|refine dr 6 ?_|refine dr 2007 ?_));all_goals(try conv=>whnf);try exact trivial
   ·intro n hn
    have hn:n≤t.d.cnt:=hn
    have htn:((n:Nat):Int).toNat=n:=Int.toNat_natCast n
    by_cases hnl:n<t.d.cnt
    ·have hat:=at_loc (H:=t.d.H.toNat) (S:=t.d.S) (n:=n) hnl
     (repeat' ((conv=>whnf);first|(with_reducible first|apply spl|apply spl'|refine iJ ?_)<;>intro hc<;>try(exfalso;omega)|refine vcq ?_|refine dr 21 ?_|refine dr 14 ?_|refine dr 6 ?_|refine dr 2007 ?_));all_goals(try conv=>whnf);try exact trivial
     refine callee_fo (Place73 t.d h.d n _ _ _ hat) rfl ?_
     rintro _ rfl
     (repeat' ((conv=>whnf);first|(with_reducible first|apply spl|apply spl'|refine iJ ?_)<;>intro hc<;>try(exfalso;omega)|refine vcq ?_|refine dr 21 ?_|refine dr 14 ?_|refine dr 6 ?_|refine dr 2007 ?_));all_goals(try conv=>whnf);try exact trivial
     have hap:=appF_one (n:=n) (f:=t.d.plR) (c:=plC (loc t.d.H.toNat t.d.S n)) rfl
     refine callee_view (badM t h (n+1) n hnl) ?_
     (repeat' ((conv=>whnf);first|(with_reducible first|apply spl|apply spl'|refine iJ ?_)<;>intro hc<;>try(exfalso;omega)|refine vcq ?_|refine dr 21 ?_|refine dr 14 ?_|refine dr 6 ?_|refine dr 2007 ?_));all_goals(try conv=>whnf);try exact trivial
     refine⟨hap,.inl rfl,?_⟩
     (repeat' ((conv=>whnf);first|(with_reducible first|apply spl|apply spl'|refine iJ ?_)<;>intro hc<;>try(exfalso;omega)|refine vcq ?_|refine dr 21 ?_|refine dr 14 ?_|refine dr 6 ?_|refine dr 2007 ?_));all_goals(try conv=>whnf);try exact trivial
     rintro _ rfl
     (repeat' ((conv=>whnf);first|(with_reducible first|apply spl|apply spl'|refine iJ ?_)<;>intro hc<;>try(exfalso;omega)|refine vcq ?_|refine dr 21 ?_|refine dr 14 ?_|refine dr 6 ?_|refine dr 2007 ?_));all_goals(try conv=>whnf);try exact trivial
     ·refine callee_view (goodM t (n+1) n hnl) ?_
      (repeat' ((conv=>whnf);first|(with_reducible first|apply spl|apply spl'|refine iJ ?_)<;>intro hc<;>try(exfalso;omega)|refine vcq ?_|refine dr 21 ?_|refine dr 14 ?_|refine dr 6 ?_|refine dr 2007 ?_));all_goals(try conv=>whnf);try exact trivial
      refine⟨hap,.inl rfl,?_⟩
      (repeat' ((conv=>whnf);first|(with_reducible first|apply spl|apply spl'|refine iJ ?_)<;>intro hc<;>try(exfalso;omega)|refine vcq ?_|refine dr 21 ?_|refine dr 14 ?_|refine dr 6 ?_|refine dr 2007 ?_));all_goals(try conv=>whnf);try exact trivial
      rintro _ rfl
      (repeat' ((conv=>whnf);first|(with_reducible first|apply spl|apply spl'|refine iJ ?_)<;>intro hc<;>try(exfalso;omega)|refine vcq ?_|refine dr 21 ?_|refine dr 14 ?_|refine dr 6 ?_|refine dr 2007 ?_));all_goals(try conv=>whnf);try exact trivial
      ·rename_i hb
       exact absurd (hp n hnl) (fun q=>q.elim hb hc)
      ·refine⟨n+1,⟨by dsimp only;omega,by dsimp only;omega⟩,some [some 0,some 1,some 2,some 6],?_⟩
       (repeat' ((conv=>whnf);first|(with_reducible first|apply spl|apply spl'|refine iJ ?_)<;>intro hc<;>try(exfalso;omega)|refine vcq ?_|refine dr 21 ?_|refine dr 14 ?_|refine dr 6 ?_|refine dr 2007 ?_));all_goals(try conv=>whnf);try exact trivial
       refine⟨hap,?_⟩
       (repeat' ((conv=>whnf);first|(with_reducible first|apply spl|apply spl'|refine iJ ?_)<;>intro hc<;>try(exfalso;omega)|refine vcq ?_|refine dr 21 ?_|refine dr 14 ?_|refine dr 6 ?_|refine dr 2007 ?_));all_goals(try conv=>whnf);try exact trivial
     ·refine⟨n+1,⟨by dsimp only;omega,by dsimp only;omega⟩,some [some 0,some 1,some 2,some 6],?_⟩
      (repeat' ((conv=>whnf);first|(with_reducible first|apply spl|apply spl'|refine iJ ?_)<;>intro hc<;>try(exfalso;omega)|refine vcq ?_|refine dr 21 ?_|refine dr 14 ?_|refine dr 6 ?_|refine dr 2007 ?_));all_goals(try conv=>whnf);try exact trivial
      refine⟨hap,?_⟩
      (repeat' ((conv=>whnf);first|(with_reducible first|apply spl|apply spl'|refine iJ ?_)<;>intro hc<;>try(exfalso;omega)|refine vcq ?_|refine dr 21 ?_|refine dr 14 ?_|refine dr 6 ?_|refine dr 2007 ?_));all_goals(try conv=>whnf);try exact trivial
    ·have e:n=t.d.cnt:=by omega
     subst e
     (repeat' ((conv=>whnf);first|(with_reducible first|apply spl|apply spl'|refine iJ ?_)<;>intro hc<;>try(exfalso;omega)|refine vcq ?_|refine dr 21 ?_|refine dr 14 ?_|refine dr 6 ?_|refine dr 2007 ?_));all_goals(try conv=>whnf);try exact trivial
     refine⟨_,rfl,?_⟩
     (repeat' ((conv=>whnf);first|(with_reducible first|apply spl|apply spl'|refine iJ ?_)<;>intro hc<;>try(exfalso;omega)|refine vcq ?_|refine dr 21 ?_|refine dr 14 ?_|refine dr 6 ?_|refine dr 2007 ?_));all_goals(try conv=>whnf);try exact trivial
end Tp
end Go.Proofs
