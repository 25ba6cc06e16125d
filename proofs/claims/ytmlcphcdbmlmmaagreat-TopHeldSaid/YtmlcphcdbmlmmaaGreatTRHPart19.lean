/- Own work: texts of the proof of a law (T26, T27). No condition. -/
import Derived.Test.YtmlcphcdbmlmmaaGreatTRHPart18
set_option linter.unusedVariables false
set_option linter.unusedSimpArgs false
namespace Go.Proofs
open Go Go.Sx
set_option maxRecDepth 100000
set_option maxHeartbeats 40000000
namespace Tp
def gdL (d:Dk) (L:List Int) (i:Nat):List Int:=goodK L (zF d i) (zF d (i+1)-zF d i)
def cutN (d:Dk) (sp:Int) (L:List Int) (i:Nat):Nat:=(gdL d L i).length-sp.toNat
def frC (d:Dk) (sp:Int) (L:List Int) (i:Nat):List V:=[.sl 1 ((gdL d L i).length-cutN d sp L i) (fun k=>rowOf intC 0 (gdL d L i) (cutN d sp L i+k))]
def plV (d:Dk) (sp:Int) (L:List Int):V:=.iptr [.int .i64 d.H,.int .i64 d.T,.sl 2 d.Z.length (rowOf zC (0,0) d.Z),.int .i64 d.hk,.int .i64 d.ck,.int .i64 d.hs.1,.int .i64 d.hs.2,.int .i64 d.cs.1,.int .i64 d.cs.2,.int .i64 sp,.sl 1 L.length (rowOf intC 0 L),.sl 3 0 (fun _=>[]),.sl 1 (blk d sp L d.Z.length).length (rowOf intC 0 (blk d sp L d.Z.length)),.any,.any]
def GvD (L:List Int) (i:Nat) (D:List Int→Prop):Prop:=∀x,D x↔∃y,y∈L.take i∧x=[y]
theorem blk_len {d:Dk} (sp:Int) (L:List Int):∀{i:Nat},i≤d.Z.length→(blk d sp L i).length≤zF d i
 |0,_=>a2I _
 |i+1,hi=>by
  have h1:=blk_len (d:=d) sp L (Nat.le_of_lt hi)
  have h2:=zF_le d hi
  have h3:=goodK_len L (zF d i) (zF d (i+1)-zF d i)
  rw[blk_succ,a0P,a0N]
  omega
theorem row_take (a b:List Int) {m:Nat}:∀i,i<a.length+m→appF a.length (rowOf intC 0 a) (fun j=>rowOf intC 0 b (0+j)) i=rowOf intC 0 (a++b.take m) i:=fun i hi=>by
 unfold appF rowOf
 by_cases h:i<a.length
 ·rw[if_pos h,List.getD_eq_getElem?_getD,List.getD_eq_getElem?_getD,a0D h]
 ·rw[if_neg h]
  dsimp only
  rw[List.getD_eq_getElem?_getD,List.getD_eq_getElem?_getD,a0Q (by omega),List.getElem?_take_of_lt (by omega),a2K]
theorem lay45 (d:Dk) (h:d.Ok) (h60:d.cnt≤60) (sp:Int) (hsp:0≤sp∧sp≤20) (L:List Int) (hL:PassOk d.cnt L) (hl:L.length≤60):PureC Tryz.prog 45 true [.agg (fC d sp L)] (·=.tup [plV d sp L,.int .i64 0]):=by
 have hcn:=Dk.cnt_le h
 have hz20:=h.z
 have hC:=Check62 d h sp hsp L hL hl
 have hZ:=zones63 d h
 unfold fC at hC
 unfold plI at hZ
 refine pureC_of_exec Tryz.E_ok Tryz.func45 rfl (by kernel_rfl) ?_
 (repeat' ((conv=>whnf);first|(with_reducible first|apply spl|apply spl'|refine iJ ?_)<;>intro hc<;>try(exfalso;omega)|refine vcq ?_|refine dr 2008 ?_));all_goals(try conv=>whnf);try exact trivial
 refine callee_fo hC rfl ?_
 rintro _ rfl
 (repeat' ((conv=>whnf);first|(with_reducible first|apply spl|apply spl'|refine iJ ?_)<;>intro hc<;>try(exfalso;omega)|refine vcq ?_|refine dr 2008 ?_));all_goals(try conv=>whnf);try exact trivial
 intro g0
 (repeat' ((conv=>whnf);first|(with_reducible first|apply spl|apply spl'|refine iJ ?_)<;>intro hc<;>try(exfalso;omega)|refine vcq ?_|refine dr 2008 ?_));all_goals(try conv=>whnf);try exact trivial
 refine⟨Nat×(List Int→Prop)×(List Int→Int)×Nat×MG,fun q=>q.1≤L.length∧GvD L q.1 q.2.1∧CntB q.2.1 q.2.2.1 q.1,fun q=>L.length-q.1,fun q=>[(28,.int .i64 (q.1:Nat)),(7,.any)]++anyS 29 10,fun q=>[(1,.map [.i64] false false q.2.1 (fun k=>[.int .i64 (q.2.2.1 k)]) q.2.2.2.1 q.2.2.2.2)],fun _=>[],(0,(fun _=>False),(fun _=>0),0,g0),⟨⟨a2I _,fun x=>⟨fun q=>q.elim,fun⟨y,q,_⟩=>by simp at q⟩,fun x q=>q.elim⟩,some [some 0,some 1,some 2],?_⟩,?_⟩
 ·(repeat' ((conv=>whnf);first|(with_reducible first|apply spl|apply spl'|refine iJ ?_)<;>intro hc<;>try(exfalso;omega)|refine vcq ?_|refine dr 2008 ?_));all_goals(try conv=>whnf);try exact trivial
 ·rintro⟨i,D,c,n,g⟩ ⟨hi,hD,hCn⟩
  dsimp only at hi hD hCn
  have hti:((i:Nat):Int).toNat=i:=Int.toNat_natCast i
  by_cases hil:i<L.length
  ·(repeat' ((conv=>whnf);first|(with_reducible first|apply spl|apply spl'|refine iJ ?_)<;>intro hc<;>try(exfalso;omega)|refine vcq ?_|refine dr 2008 ?_));all_goals(try conv=>whnf);try exact trivial
   dsimp only
   rw[hti]
   refine And.intro (hCn.inr (by omega) _) ?_
   (repeat' ((conv=>whnf);first|(with_reducible first|apply spl|apply spl'|refine iJ ?_)<;>intro hc<;>try(exfalso;omega)|refine vcq ?_|refine dr 2008 ?_));all_goals(try conv=>whnf);try exact trivial
   intro g1
   (repeat' ((conv=>whnf);first|(with_reducible first|apply spl|apply spl'|refine iJ ?_)<;>intro hc<;>try(exfalso;omega)|refine vcq ?_|refine dr 2008 ?_));all_goals(try conv=>whnf);try exact trivial
   have hw:=valPut_cnt D c [L.getD i 0]
   unfold cntV at hw
   rw[hw]
   refine⟨(i+1,domPut D [L.getD i 0],cntUp D c [L.getD i 0],nPut D n [L.getD i 0],g1),⟨⟨by dsimp only;omega,fun x=>?_,by dsimp only;exact hCn.up _⟩,by dsimp only;omega⟩,some [some 0,some 1,some 2],?_⟩
   ·dsimp only
    constructor
    ·rintro(q|q)
     ·exact⟨_,(mem_getD hil).2 (.inr rfl),q⟩
     ·obtain⟨y,q1,q2⟩:=(hD x).1 q
      exact⟨y,(mem_getD hil).2 (.inl q1),q2⟩
    ·rintro⟨y,q1,q2⟩
     rcases(mem_getD hil).1 q1 with u|u
     ·exact .inr ((hD x).2 ⟨y,u,q2⟩)
     ·rw[←u] at q2
      exact .inl q2
   ·(repeat' ((conv=>whnf);first|(with_reducible first|apply spl|apply spl'|refine iJ ?_)<;>intro hc<;>try(exfalso;omega)|refine vcq ?_|refine dr 2008 ?_));all_goals(try conv=>whnf);try exact trivial
  ·have e:i=L.length:=by omega
   subst e
   have hDL:∀y:Int,D [y]↔y∈L:=fun y=>by
    rw[hD,List.take_length]
    exact⟨fun⟨z,q1,q2⟩=>by rw[(List.cons.inj q2).1];exact q1,fun q=>⟨y,q,rfl⟩⟩
   clear hD
   (repeat' ((conv=>whnf);first|(with_reducible first|apply spl|apply spl'|refine iJ ?_)<;>intro hc<;>try(exfalso;omega)|refine vcq ?_|refine dr 2008 ?_));all_goals(try conv=>whnf);try exact trivial
   refine callee_view hZ ?_
   (repeat' ((conv=>whnf);first|(with_reducible first|apply spl|apply spl'|refine iJ ?_)<;>intro hc<;>try(exfalso;omega)|refine vcq ?_|refine dr 2008 ?_));all_goals(try conv=>whnf);try exact trivial
   rintro _ rfl
   (repeat' ((conv=>whnf);first|(with_reducible first|apply spl|apply spl'|refine iJ ?_)<;>intro hc<;>try(exfalso;omega)|refine vcq ?_|refine dr 2008 ?_));all_goals(try conv=>whnf);try exact trivial
   clear hC hZ
   refine⟨Nat,fun i=>i≤d.Z.length,fun i=>d.Z.length-i,fun i=>[(43,.int .i64 (i:Nat))]++anyS 9 4++anyS 44 50,fun i=>[(2,.cells 100 [.int .i64 d.H,.int .i64 d.T,.sl 2 d.Z.length (rowOf zC (0,0) d.Z),.int .i64 d.hk,.int .i64 d.ck,.int .i64 d.hs.1,.int .i64 d.hs.2,.int .i64 d.cs.1,.int .i64 d.cs.2,.int .i64 sp,.sl 1 L.length (rowOf intC 0 L),.sl 3 0 (fun _=>[]),.osl 3 (blk d sp L i).length,.osl 4 i,.map 1])],fun i=>[.row 3 1 (blk d sp L i).length (rowOf intC 0 (blk d sp L i)) true,.row 30 1 i (frC d sp L) true],0,⟨a2I _,some [some 0,some 1,some 2,none,none],?_⟩,?_⟩
   ·(repeat' ((conv=>whnf);first|(with_reducible first|apply spl|apply spl'|refine iJ ?_)<;>intro hc<;>try(exfalso;omega)|refine vcq ?_|refine dr 2008 ?_));all_goals(try conv=>whnf);try exact trivial
   ·intro i hi
    have hi:i≤d.Z.length:=hi
    have hti:((i:Nat):Int).toNat=i:=Int.toNat_natCast i
    have hbl:=blk_len sp L hi
    by_cases hil:i<d.Z.length
    ·have hle:=zF_le d hil
     have hle2:zF d (i+1)≤d.cnt:=by
      rw[←zF_all d]
      exact zF_mono d (by omega) (a0O _)
     (repeat' ((conv=>whnf);first|(with_reducible first|apply spl|apply spl'|refine iJ ?_)<;>intro hc<;>try(exfalso;omega)|refine vcq ?_|refine dr 2008 ?_));all_goals(try conv=>whnf);try exact trivial
     rw[hti]
     refine⟨Nat×List Int,fun q=>zF d i+q.1≤zF d (i+1)∧q.2=goodK L (zF d i) q.1∧q.2.length≤q.1,fun q=>zF d (i+1)-(zF d i+q.1),fun q=>[(11,.int .i64 ((zF d i+q.1:Nat):Int)),(10,.osl 6 q.2.length)],fun _=>[],fun q=>[.row 3 1 q.2.length (rowOf intC 0 q.2) true],(0,[]),⟨⟨by dsimp only;omega,rfl,by simp⟩,some [some 0,some 1,some 2,some 3,some 4,some 5,none],?_⟩,?_⟩
     ·(repeat' ((conv=>whnf);first|(with_reducible first|apply spl|apply spl'|refine iJ ?_)<;>intro hc<;>try(exfalso;omega)|refine vcq ?_|refine dr 2008 ?_));all_goals(try conv=>whnf);try exact trivial
     ·rintro⟨k,G⟩ ⟨hk,hG,hGl⟩
      dsimp only at hk hG hGl
      by_cases hkl:zF d i+k<zF d (i+1)
      ·have hs:=goodK_succ L (zF d i) k
       rw[←hG] at hs
       have hlL:(G++[((zF d i+k:Nat):Int)]).length=G.length+1:=by rw[a0P,List.length_singleton]
       (repeat' ((conv=>whnf);first|(with_reducible first|apply spl|apply spl'|refine iJ ?_)<;>intro hc<;>try(exfalso;omega)|refine vcq ?_|refine dr 2008 ?_));all_goals(try conv=>whnf);try exact trivial
       ·dsimp only at hc
        have nm:((zF d i+k:Nat):Int)∉L:=fun q=>by
         have q1:=(hDL _).2 q
         have q2:=hCn _ q1
         rw[if_pos q1] at hc
         omega
        rw[if_neg nm] at hs
        refine⟨(k+1,G++[((zF d i+k:Nat):Int)]),⟨⟨by dsimp only;omega,hs.symm,by dsimp only;omega⟩,by dsimp only;omega⟩,some [some 0,some 1,some 2,some 3,some 4,some 5,some 8],?_⟩
        (repeat' ((conv=>whnf);first|(with_reducible first|apply spl|apply spl'|refine iJ ?_)<;>intro hc<;>try(exfalso;omega)|refine vcq ?_|refine dr 2008 ?_));all_goals(try conv=>whnf);try exact trivial
        refine⟨rowOf_snoc (c:=intC) (a:=((zF d i+k:Nat):Int)) (l:=G) rfl (fun _ _=>rfl),?_⟩
        (repeat' ((conv=>whnf);first|(with_reducible first|apply spl|apply spl'|refine iJ ?_)<;>intro hc<;>try(exfalso;omega)|refine vcq ?_|refine dr 2008 ?_));all_goals(try conv=>whnf);try exact trivial
       ·dsimp only at hc
        have nm:((zF d i+k:Nat):Int)∈L:=by
         refine a0W fun q=>hc ?_
         rw[if_neg (fun q1=>q ((hDL _).1 q1))]
        rw[if_pos nm,List.append_nil] at hs
        refine⟨(k+1,G),⟨⟨by dsimp only;omega,hs.symm,by dsimp only;omega⟩,by dsimp only;omega⟩,some [some 0,some 1,some 2,some 3,some 4,some 5,some 6],?_⟩
        (repeat' ((conv=>whnf);first|(with_reducible first|apply spl|apply spl'|refine iJ ?_)<;>intro hc<;>try(exfalso;omega)|refine vcq ?_|refine dr 2008 ?_));all_goals(try conv=>whnf);try exact trivial
      ·have e:zF d i+k=zF d (i+1):=by omega
       have ek:k=zF d (i+1)-zF d i:=by omega
       have hG2:G=gdL d L i:=by rw[hG,ek];rfl
       subst hG2
       clear hG
       have hbs:=blk_succ d sp L i
       have hbl1:(blk d sp L (i+1)).length=(blk d sp L i).length+cutN d sp L i:=by
        rw[hbs,a0P,a0N]
        unfold cutN gdL
        omega
       have hcut:cutN d sp L i=(gdL d L i).length-sp.toNat:=rfl
       (repeat' ((conv=>whnf);first|(with_reducible first|apply spl|apply spl'|refine iJ ?_)<;>intro hc<;>try(exfalso;omega)|refine vcq ?_|refine dr 2008 ?_));all_goals(try conv=>whnf);try exact trivial
       refine⟨i+1,⟨by omega,by dsimp only;omega⟩,some [some 0,some 1,some 2,some 7,some 9],?_⟩
       (repeat' ((conv=>whnf);first|(with_reducible first|apply spl|apply spl'|refine iJ ?_)<;>intro hc<;>try(exfalso;omega)|refine vcq ?_|refine dr 2008 ?_));all_goals(try conv=>whnf);try exact trivial
       have hm:(max 0 (((gdL d L i).length:Int)-sp)-0).toNat=cutN d sp L i:=by omega
       have hm2:(((gdL d L i).length:Int)-max 0 (((gdL d L i).length:Int)-sp)).toNat=(gdL d L i).length-cutN d sp L i:=by omega
       have hm3:(max 0 (((gdL d L i).length:Int)-sp)).toNat=cutN d sp L i:=by omega
       refine⟨fun j hj=>?_,?_⟩
       ·dsimp only at hj ⊢
        rw[hm] at hj
        rw[hbs]
        exact row_take _ _ j hj
       ·(repeat' ((conv=>whnf);first|(with_reducible first|apply spl|apply spl'|refine iJ ?_)<;>intro hc<;>try(exfalso;omega)|refine vcq ?_|refine dr 2008 ?_));all_goals(try conv=>whnf);try exact trivial
        refine⟨fun j hj=>?_,?_⟩
        ·dsimp only at hj ⊢
         rw[hm2,hm3]
         unfold appF
         by_cases q:j<i
         ·rw[if_pos q]
         ·have e:j=i:=by omega
          rw[if_neg q,e]
          rfl
        ·(repeat' ((conv=>whnf);first|(with_reducible first|apply spl|apply spl'|refine iJ ?_)<;>intro hc<;>try(exfalso;omega)|refine vcq ?_|refine dr 2008 ?_));all_goals(try conv=>whnf);try exact trivial
    ·have e:i=d.Z.length:=by omega
     subst e
     clear hDL hCn
     (repeat' ((conv=>whnf);first|(with_reducible first|apply spl|apply spl'|refine iJ ?_)<;>intro hc<;>try(exfalso;omega)|refine vcq ?_|refine dr 2008 ?_));all_goals(try conv=>whnf);try exact trivial
     refine callee_exec Tryz.E_ok Tryz.func64 rfl (by kernel_rfl) ?_
     (repeat' ((conv=>whnf);first|(with_reducible first|apply spl|apply spl'|refine iJ ?_)<;>intro hc<;>try(exfalso;omega)|refine vcq ?_|refine dr 2008 ?_));all_goals(try conv=>whnf);try exact trivial
     intro g1
     (repeat' ((conv=>whnf);first|(with_reducible first|apply spl|apply spl'|refine iJ ?_)<;>intro hc<;>try(exfalso;omega)|refine vcq ?_|refine dr 2008 ?_));all_goals(try conv=>whnf);try exact trivial
     intro g2
     (repeat' ((conv=>whnf);first|(with_reducible first|apply spl|apply spl'|refine iJ ?_)<;>intro hc<;>try(exfalso;omega)|refine vcq ?_|refine dr 2008 ?_));all_goals(try conv=>whnf);try exact trivial
     refine callee_view Concat74z ?_
     (repeat' ((conv=>whnf);first|(with_reducible first|apply spl|apply spl'|refine iJ ?_)<;>intro hc<;>try(exfalso;omega)|refine vcq ?_|refine dr 2008 ?_));all_goals(try conv=>whnf);try exact trivial
     rintro _ rfl
     (repeat' ((conv=>whnf);first|(with_reducible first|apply spl|apply spl'|refine iJ ?_)<;>intro hc<;>try(exfalso;omega)|refine vcq ?_|refine dr 2008 ?_));all_goals(try conv=>whnf);try exact trivial
     refine⟨Unit,fun _=>True,fun _=>0,fun _=>[(12,.int .i64 0)],fun _=>[],fun _=>[],(),⟨trivial,none,?_⟩,?_⟩
     ·(repeat' ((conv=>whnf);first|(with_reducible first|apply spl|apply spl'|refine iJ ?_)<;>intro hc<;>try(exfalso;omega)|refine vcq ?_|refine dr 2008 ?_));all_goals(try conv=>whnf);try exact trivial
     ·intro _ _
      (repeat' ((conv=>whnf);first|(with_reducible first|apply spl|apply spl'|refine iJ ?_)<;>intro hc<;>try(exfalso;omega)|refine vcq ?_|refine dr 2008 ?_));all_goals(try conv=>whnf);try exact trivial
      refine callee_frame [7,8] (sorted65 g1 g2) rfl ?_ ?_
      ·(repeat' ((conv=>whnf);first|(with_reducible first|apply spl|apply spl'|refine iJ ?_)<;>intro hc<;>try(exfalso;omega)|refine vcq ?_|refine dr 2008 ?_));all_goals(try conv=>whnf);try exact trivial
       refine⟨fun _ _ _=>⟨Iff.rfl,fun _=>rfl⟩,?_⟩
       (repeat' ((conv=>whnf);first|(with_reducible first|apply spl|apply spl'|refine iJ ?_)<;>intro hc<;>try(exfalso;omega)|refine vcq ?_|refine dr 2008 ?_));all_goals(try conv=>whnf);try exact trivial
      rintro _ _ ⟨rfl,rfl⟩
      (repeat' ((conv=>whnf);first|(with_reducible first|apply spl|apply spl'|refine iJ ?_)<;>intro hc<;>try(exfalso;omega)|refine vcq ?_|refine dr 2008 ?_));all_goals(try conv=>whnf);try exact trivial
      refine callee_view SortStable66z ?_
      (repeat' ((conv=>whnf);first|(with_reducible first|apply spl|apply spl'|refine iJ ?_)<;>intro hc<;>try(exfalso;omega)|refine vcq ?_|refine dr 2008 ?_));all_goals(try conv=>whnf);try exact trivial
      rintro _ rfl
      (repeat' ((conv=>whnf);first|(with_reducible first|apply spl|apply spl'|refine iJ ?_)<;>intro hc<;>try(exfalso;omega)|refine vcq ?_|refine dr 2008 ?_));all_goals(try conv=>whnf);try exact trivial
      refine⟨Unit,fun _=>True,fun _=>0,fun _=>[(105,.int .i64 0)],fun _=>[],fun _=>[],(),⟨trivial,none,?_⟩,?_⟩
      ·(repeat' ((conv=>whnf);first|(with_reducible first|apply spl|apply spl'|refine iJ ?_)<;>intro hc<;>try(exfalso;omega)|refine vcq ?_|refine dr 2008 ?_));all_goals(try conv=>whnf);try exact trivial
      ·intro _ _
       (repeat' ((conv=>whnf);first|(with_reducible first|apply spl|apply spl'|refine iJ ?_)<;>intro hc<;>try(exfalso;omega)|refine vcq ?_|refine dr 2008 ?_));all_goals(try conv=>whnf);try exact trivial
       refine⟨_,rfl,?_⟩
       unfold plV
       (repeat' ((conv=>whnf);first|(with_reducible first|apply spl|apply spl'|refine iJ ?_)<;>intro hc<;>try(exfalso;omega)|refine vcq ?_|refine dr 2008 ?_));all_goals(try conv=>whnf);try exact trivial
theorem Blocks43 (d:Dk) (h:d.Ok) (h60:d.cnt≤60) (sp:Int) (hsp:0≤sp∧sp≤20) (L:List Int) (hL:PassOk d.cnt L) (hl:L.length≤60):PureC Tryz.prog 43 false [.agg (fC d sp L)] (·=.tup [.int .i64 ((blk d sp L d.Z.length).length:Nat),.int .i64 0]):=by
 have hP:=lay45 d h h60 sp hsp L hL hl
 unfold fC plV at hP
 refine pureC_of_exec Tryz.E_ok Tryz.func43 rfl (by kernel_rfl) ?_
 (repeat' ((conv=>whnf);first|(with_reducible first|apply spl|apply spl'|refine iJ ?_)<;>intro hc<;>try(exfalso;omega)|refine vcq ?_|refine dr 17 ?_));all_goals(try conv=>whnf);try exact trivial
 refine callee_exec Tryz.E_ok Tryz.func60 rfl (by kernel_rfl) ?_
 (repeat' ((conv=>whnf);first|(with_reducible first|apply spl|apply spl'|refine iJ ?_)<;>intro hc<;>try(exfalso;omega)|refine vcq ?_|refine dr 17 ?_));all_goals(try conv=>whnf);try exact trivial
 refine callee_fo hP rfl ?_
 rintro _ rfl
 (repeat' ((conv=>whnf);first|(with_reducible first|apply spl|apply spl'|refine iJ ?_)<;>intro hc<;>try(exfalso;omega)|refine vcq ?_|refine dr 17 ?_));all_goals(try conv=>whnf);try exact trivial
 refine callee_exec Tryz.E_ok Tryz.func61 rfl (by kernel_rfl) ?_
 (repeat' ((conv=>whnf);first|(with_reducible first|apply spl|apply spl'|refine iJ ?_)<;>intro hc<;>try(exfalso;omega)|refine vcq ?_|refine dr 17 ?_));all_goals(try conv=>whnf);try exact trivial
 refine⟨_,rfl,?_⟩
 (repeat' ((conv=>whnf);first|(with_reducible first|apply spl|apply spl'|refine iJ ?_)<;>intro hc<;>try(exfalso;omega)|refine vcq ?_|refine dr 17 ?_));all_goals(try conv=>whnf);try exact trivial
theorem Where29 (d:Dk) (h:d.Ok) (h60:d.cnt≤60) (sp:Int) (hsp:0≤sp∧sp≤20) (L:List Int) (hL:PassOk d.cnt L) (hl:L.length≤60) (b:Nat) (hb:b<(blk d sp L d.Z.length).length):PureC Tryz.prog 29 false [.agg (fC d sp L),.int .i64 b] (·=.tup [.int .i64 ((blk d sp L d.Z.length).getD b 0),.int .i64 0]):=by
 have hP:=lay45 d h h60 sp hsp L hL hl
 have hg:=(blk_get (sp:=sp) (L:=L) (fun i hi=>zF_le d hi) (zF_all d) hb).2.1
 have htb:((b:Nat):Int).toNat=b:=Int.toNat_natCast b
 unfold fC plV at hP
 refine pureC_of_exec Tryz.E_ok Tryz.func29 rfl (by kernel_rfl) ?_
 (repeat' ((conv=>whnf);first|(with_reducible first|apply spl|apply spl'|refine iJ ?_)<;>intro hc<;>try(exfalso;omega)|refine vcq ?_|refine dr 17 ?_));all_goals(try conv=>whnf);try exact trivial
 refine callee_fo hP rfl ?_
 rintro _ rfl
 (repeat' ((conv=>whnf);first|(with_reducible first|apply spl|apply spl'|refine iJ ?_)<;>intro hc<;>try(exfalso;omega)|refine vcq ?_|refine dr 17 ?_));all_goals(try conv=>whnf);try exact trivial
 ·rw[htb] at hc
  omega
 ·rw[htb]
  refine⟨_,rfl,?_⟩
  (repeat' ((conv=>whnf);first|(with_reducible first|apply spl|apply spl'|refine iJ ?_)<;>intro hc<;>try(exfalso;omega)|refine vcq ?_|refine dr 17 ?_));all_goals(try conv=>whnf);try exact trivial
theorem capacity26 (t:Tr) (h:t.Ok) (h60:t.d.cnt≤60):PureC Tryz.prog 26 false [t.iV] (·=.tup [.int .i64 (t.blks.length:Nat),.int .i64 0]):=by
 have hml:=mapL_len t
 have hB:=Blocks43 t.d h.d h60 t.sp h.sp t.mapL (Tr.mapL_ok t) (by omega)
 refine pureC_of_exec Tryz.E_ok Tryz.func26 rfl (by kernel_rfl) ?_
 (repeat' ((conv=>whnf);first|(with_reducible first|apply spl|apply spl'|refine iJ ?_)<;>intro hc<;>try(exfalso;omega)|refine vcq ?_|refine dr 17 ?_));all_goals(try conv=>whnf);try exact trivial
 refine callee_fo (mapped42 t h h60) rfl ?_
 rintro _ rfl
 (repeat' ((conv=>whnf);first|(with_reducible first|apply spl|apply spl'|refine iJ ?_)<;>intro hc<;>try(exfalso;omega)|refine vcq ?_|refine dr 17 ?_));all_goals(try conv=>whnf);try exact trivial
 refine pcall_view hB ?_ ?_
 ·(repeat' ((conv=>whnf);first|(with_reducible first|apply spl|apply spl'|refine iJ ?_)<;>intro hc<;>try(exfalso;omega)|refine vcq ?_|refine dr 17 ?_));all_goals(try conv=>whnf);try exact trivial
 (repeat' ((conv=>whnf);first|(with_reducible first|apply spl|apply spl'|refine iJ ?_)<;>intro hc<;>try(exfalso;omega)|refine vcq ?_|refine dr 17 ?_));all_goals(try conv=>whnf);try exact trivial
 refine⟨_,rfl,?_⟩
 (repeat' ((conv=>whnf);first|(with_reducible first|apply spl|apply spl'|refine iJ ?_)<;>intro hc<;>try(exfalso;omega)|refine vcq ?_|refine dr 17 ?_));all_goals(try conv=>whnf);try exact trivial
theorem passes24 (t:Tr) (h:t.Ok) (h60:t.d.cnt≤60):PureC Tryz.prog 24 false [t.iV] (·=.prop (t.nd≤(t.blks.length:Nat)) inferInstance):=by
 refine pureC_of_exec Tryz.E_ok Tryz.func24 rfl (by kernel_rfl) ?_
 (repeat' ((conv=>whnf);first|(with_reducible first|apply spl|apply spl'|refine iJ ?_)<;>intro hc<;>try(exfalso;omega)|refine vcq ?_|refine dr 17 ?_));all_goals(try conv=>whnf);try exact trivial
 refine callee_fo (capacity26 t h h60) rfl ?_
 rintro _ rfl
 (repeat' ((conv=>whnf);first|(with_reducible first|apply spl|apply spl'|refine iJ ?_)<;>intro hc<;>try(exfalso;omega)|refine vcq ?_|refine dr 17 ?_));all_goals(try conv=>whnf);try exact trivial
 refine⟨_,rfl,?_⟩
 exact⟨⟨fun q=>q.2,fun q=>⟨rfl,q⟩⟩,trivial⟩
theorem Map28 (t:Tr) (h:t.Ok) (hp:t.Poss) (h60:t.d.cnt≤60):PureC Tryz.prog 28 true [t.v] (·=.tup [.sl 1 t.mapL.length (rowOf intC 0 t.mapL),.int .i64 0]):=by
 refine pureC_of_exec Tryz.E_ok Tryz.func28 rfl (by kernel_rfl) ?_
 (repeat' ((conv=>whnf);first|(with_reducible first|apply spl|apply spl'|refine iJ ?_)<;>intro hc<;>try(exfalso;omega)|refine vcq ?_|refine dr 17 ?_));all_goals(try conv=>whnf);try exact trivial
 refine callee_fo (open22 t h hp) rfl ?_
 rintro _ rfl
 (repeat' ((conv=>whnf);first|(with_reducible first|apply spl|apply spl'|refine iJ ?_)<;>intro hc<;>try(exfalso;omega)|refine vcq ?_|refine dr 17 ?_));all_goals(try conv=>whnf);try exact trivial
 refine callee_fo (mapped42 t h h60) rfl ?_
 rintro _ rfl
 (repeat' ((conv=>whnf);first|(with_reducible first|apply spl|apply spl'|refine iJ ?_)<;>intro hc<;>try(exfalso;omega)|refine vcq ?_|refine dr 17 ?_));all_goals(try conv=>whnf);try exact trivial
 refine⟨_,rfl,?_⟩
 (repeat' ((conv=>whnf);first|(with_reducible first|apply spl|apply spl'|refine iJ ?_)<;>intro hc<;>try(exfalso;omega)|refine vcq ?_|refine dr 17 ?_));all_goals(try conv=>whnf);try exact trivial
end Tp
end Go.Proofs
