/- Own work: texts of the proof of a law (T20, T21, T22, T23, T24, T25, T25b). No condition. -/
import Derived.Test.YtmlcphcdbmlmmaaGreatTRHPart17
import Derived.Shelf.Spec.SlicesGrow
set_option linter.unusedVariables false
set_option linter.unusedSimpArgs false
namespace Go.Proofs
open Go Go.Sx
set_option maxRecDepth 100000
set_option maxHeartbeats 40000000
namespace Tp
theorem shr_bit:∀s,s<16→∀k,k<4→(bitsI BinOp.and .i64 (((s:Nat):Int).fdiv (2 ^ ((k:Nat):Int).toNat)) 1=0↔s.testBit k=false):=by decide +kernel
def nwN (t:Tr) (s k:Nat):Int:=if Tr.gv s (t.lc k).2.1 then -1 else(cl t.d.H.toNat t.d.S (Tr.gv s) k:Nat)
theorem nw_ne {t:Tr} {s n j:Nat} (q:¬j=n):(if j<n+1 then nwN t s j else 0)=if j<n then nwN t s j else 0:=by
 by_cases e:j<n
 ·rw[if_pos e,if_pos (by omega)]
 ·rw[if_neg e,if_neg (by omega)]
theorem lessL_succ {H:Nat} {S:List Nat} {g:Nat→Bool} {l:List Int} {k:Nat} (hk:k<l.length):lessL H S g (l.take (k+1))=lessL H S g (l.take k)++(if g (loc H S (l.getD k 0).toNat).2.1 then [] else [(cl H S g (l.getD k 0).toNat:Int)]):=by
 unfold lessL
 rw[List.take_succ_eq_append_getElem hk,List.filter_append,List.map_append,List.getD_eq_getElem?_getD,a0I hk]
 congr 1
 dsimp only[Option.getD]
 generalize l[k]=x
 by_cases e:g (loc H S x.toNat).2.1=true<;>simp[e]
theorem less_P (t:Tr) (s:Nat) {i:Nat} (hi:i<t.P.length):(t.less s).P.getD i []=lessL t.d.H.toNat t.d.S (Tr.gv s) (t.P.getD i []):=by
 change (t.P.map _).getD i []=_
 rw[List.getD_eq_getElem?_getD,List.getD_eq_getElem?_getD,a2G,a0I hi]
 rfl
theorem without23 (t:Tr) (h:t.Ok) (s:Nat) (hs:s<2 ^ t.d.H.toNat-1):PureC Tryz.prog 23 true [t.iV,.int .i64 s] (·=.agg (t.less s).c):=by
 have hcn:=Dk.cnt_le h.d
 have hPl:=h.P
 have hH:=h.d.h
 have hz:=h.d.z
 have hH5:t.d.H.toNat<5:=by omega
 have hs16:s<16:=by
  have:t.d.H.toNat=1∨t.d.H.toNat=2∨t.d.H.toNat=3∨t.d.H.toNat=4:=by omega
  rcases this with q|q|q|q<;>rw[q] at hs<;>omega
 have hrk:=rk_pop _ hH5 s (by omega)
 have hpop:pop s≤4:=by omega
 have hml:∀i,i<t.P.length→PassOk t.d.cnt (t.P.getD i []):=fun i hi=>h.pass _ (getD_mem hi)
 refine pureC_of_exec Tryz.E_ok Tryz.func23 rfl (by kernel_rfl) ?_
 (repeat' ((conv=>whnf);first|(with_reducible first|apply spl|apply spl'|refine iJ ?_)<;>intro hc<;>try(exfalso;omega)|refine vcq ?_|refine dr 9 ?_));all_goals(try conv=>whnf);try exact trivial
 refine⟨show(0:Int)≤s∧(s:Int)≤18446744073709551615 by omega,?_⟩
 (repeat' ((conv=>whnf);first|(with_reducible first|apply spl|apply spl'|refine iJ ?_)<;>intro hc<;>try(exfalso;omega)|refine vcq ?_|refine dr 9 ?_));all_goals(try conv=>whnf);try exact trivial
 refine pcall_intro (OnesCount41 s hs16) rfl ?_
 (repeat' ((conv=>whnf);first|(with_reducible first|apply spl|apply spl'|refine iJ ?_)<;>intro hc<;>try(exfalso;omega)|refine vcq ?_|refine dr 9 ?_));all_goals(try conv=>whnf);try exact trivial
 have ecn:((t.d.cnt:Nat):Int).toNat=t.d.cnt:=Int.toNat_natCast _
 rw[ecn]
 have hcl0:cl t.d.H.toNat t.d.S (Tr.gv s) 0=0:=rfl
 refine⟨Nat,fun n=>n≤t.d.cnt,fun n=>t.d.cnt-n,fun n=>[(48,.int .i64 (n:Nat)),(7,.int .i64 (cl t.d.H.toNat t.d.S (Tr.gv s) n:Nat))]++anyS 15 27,fun n=>[(3,.row 3 1 t.d.cnt (fun k=>[.int .i64 (if k<n then nwN t s k else 0)]) false)],fun _=>[],0,⟨a2I _,some [some 0,some 1,some 2,some 3],?_⟩,?_⟩
 ·(repeat' ((conv=>whnf);first|(with_reducible first|apply spl|apply spl'|refine iJ ?_)<;>intro hc<;>try(exfalso;omega)|refine vcq ?_|refine dr 9 ?_));all_goals(try conv=>whnf);try exact trivial
 ·intro n hn
  have hn:n≤t.d.cnt:=hn
  have htn:((n:Nat):Int).toNat=n:=Int.toNat_natCast n
  have hle:=cl_le t.d.H.toNat t.d.S (Tr.gv s) n
  by_cases hnl:n<t.d.cnt
  ·have hv:=(vld_loc h.d hnl).1.2.1
   have hsu:=cl_succ t.d.H.toNat t.d.S (Tr.gv s) n
   have hw:nwN t s n=if Tr.gv s (t.lc n).2.1 then(-1:Int) else((cl t.d.H.toNat t.d.S (Tr.gv s) n:Nat):Int):=rfl
   have hb:=fun k (hk:k<4)=>shr_bit s hs16 k hk
   rw[show loc t.d.H.toNat t.d.S n=t.lc n from rfl] at hv hsu
   (repeat' ((conv=>whnf);first|(with_reducible first|apply spl|apply spl'|refine iJ ?_)<;>intro hc<;>try(exfalso;omega)|refine vcq ?_|refine dr 9 ?_));all_goals(try conv=>whnf);try exact trivial
   rw[htn,show loc t.d.H.toNat t.d.S n=t.lc n from rfl]
   generalize (t.lc n).2.1=k at *
   have hk4:k<4:=by omega
   have hb:=hb k hk4
   refine⟨⟨by omega,show((k:Nat):Int).toNat≤64 by omega⟩,?_⟩
   (repeat' ((conv=>whnf);first|(with_reducible first|apply spl|apply spl'|refine iJ ?_)<;>intro hc<;>try(exfalso;omega)|refine vcq ?_|refine dr 9 ?_));all_goals(try conv=>whnf);try exact trivial
   ·have hg:Tr.gv s k=false:=hb.1 hc
    rw[hg,if_neg Bool.false_ne_true] at hsu hw
    refine⟨n+1,⟨by omega,by dsimp only;omega⟩,some [some 0,some 1,some 2,some 3],?_⟩
    (repeat' ((conv=>whnf);first|(with_reducible first|apply spl|apply spl'|refine iJ ?_)<;>intro hc<;>try(exfalso;omega)|refine vcq ?_|refine dr 9 ?_));all_goals(try conv=>whnf);try exact trivial
    refine⟨fun j _=>?_,?_⟩
    ·rw[htn]
     change spliceP (j=n) (spliceP (j=n) [V.int .i64 (if j<n then nwN t s j else 0)] 0 [V.int .i64 (-1)]) 0 [V.int .i64 (cl t.d.H.toNat t.d.S (Tr.gv s) n:Nat)]=[V.int .i64 (if j<n+1 then nwN t s j else 0)]
     by_cases q:j=n
     ·rw[spliceP_pos q,spliceP_pos q,q,if_pos (show n<n+1 by omega),hw]
      rfl
     ·rw[spliceP_neg q,spliceP_neg q,nw_ne q]
    ·(repeat' ((conv=>whnf);first|(with_reducible first|apply spl|apply spl'|refine iJ ?_)<;>intro hc<;>try(exfalso;omega)|refine vcq ?_|refine dr 9 ?_));all_goals(try conv=>whnf);try exact trivial
   ·have hg:Tr.gv s k=true:=by cases q:Tr.gv s k with|true=>rfl|false=>exact absurd (hb.2 q) hc
    rw[hg,if_pos rfl] at hsu hw
    refine⟨n+1,⟨by omega,by dsimp only;omega⟩,some [some 0,some 1,some 2,some 3],?_⟩
    (repeat' ((conv=>whnf);first|(with_reducible first|apply spl|apply spl'|refine iJ ?_)<;>intro hc<;>try(exfalso;omega)|refine vcq ?_|refine dr 9 ?_));all_goals(try conv=>whnf);try exact trivial
    refine⟨fun j _=>?_,?_⟩
    ·change spliceP (j=n) [V.int .i64 (if j<n then nwN t s j else 0)] 0 [V.int .i64 (-1)]=[V.int .i64 (if j<n+1 then nwN t s j else 0)]
     by_cases q:j=n
     ·rw[spliceP_pos q,q,if_pos (show n<n+1 by omega),hw]
      rfl
     ·rw[spliceP_neg q,nw_ne q]
    ·(repeat' ((conv=>whnf);first|(with_reducible first|apply spl|apply spl'|refine iJ ?_)<;>intro hc<;>try(exfalso;omega)|refine vcq ?_|refine dr 9 ?_));all_goals(try conv=>whnf);try exact trivial
  ·have e:n=t.d.cnt:=by omega
   subst e
   (repeat' ((conv=>whnf);first|(with_reducible first|apply spl|apply spl'|refine iJ ?_)<;>intro hc<;>try(exfalso;omega)|refine vcq ?_|refine dr 9 ?_));all_goals(try conv=>whnf);try exact trivial
   refine⟨Nat,fun i=>i≤t.P.length,fun i=>t.P.length-i,fun i=>[(76,.int .i64 (i:Nat))]++anyS 10 5,fun i=>[(1,.cells 29 [.int .i64 (t.d.H-(pop s:Nat)),.int .i64 t.d.T,.osl 2 t.d.Z.length,.int .i64 t.d.hk,.int .i64 t.d.ck,.int .i64 t.d.hs.1,.int .i64 t.d.hs.2,.int .i64 t.d.cs.1,.int .i64 t.d.cs.2,.int .i64 t.sp,.osl 4 i,.int .i64 t.ms,.int .i64 t.fl,.int .i64 t.mg,.int .i64 t.sc,.int .i64 t.mo,.int .i64 t.nd]),(3,.row 3 1 t.d.cnt (fun k=>[.int .i64 (nwN t s k)]) false)],fun i=>[.row 30 1 i (rowOf lsC [] (t.less s).P) true],0,⟨a2I _,some [some 0,some 1,some 2,some 3,none],?_⟩,?_⟩
   ·(repeat' ((conv=>whnf);first|(with_reducible first|apply spl|apply spl'|refine iJ ?_)<;>intro hc<;>try(exfalso;omega)|refine vcq ?_|refine dr 9 ?_));all_goals(try conv=>whnf);try exact trivial
    refine⟨fun k hk=>by dsimp only;rw[if_pos hk],?_⟩
    (repeat' ((conv=>whnf);first|(with_reducible first|apply spl|apply spl'|refine iJ ?_)<;>intro hc<;>try(exfalso;omega)|refine vcq ?_|refine dr 9 ?_));all_goals(try conv=>whnf);try exact trivial
   ·intro i hi
    have hi:i≤t.P.length:=hi
    have hti:((i:Nat):Int).toNat=i:=Int.toNat_natCast i
    by_cases hil:i<t.P.length
    ·have hok:=hml i hil
     have hln:=passOk_len hok
     have hPi:(t.less s).P.getD i []=lessL t.d.H.toNat t.d.S (Tr.gv s) (t.P.getD i []):=less_P t s hil
     (repeat' ((conv=>whnf);first|(with_reducible first|apply spl|apply spl'|refine iJ ?_)<;>intro hc<;>try(exfalso;omega)|refine vcq ?_|refine dr 9 ?_));all_goals(try conv=>whnf);try exact trivial
     rw[hti]
     generalize t.P.getD i []=l at *
     refine⟨Nat×List Int,fun q=>q.1≤l.length∧q.2=lessL t.d.H.toNat t.d.S (Tr.gv s) (l.take q.1)∧q.2.length≤q.1,fun q=>l.length-q.1,fun q=>[(82,.int .i64 (q.1:Nat)),(12,.osl 5 q.2.length)]++anyS 13 2,fun _=>[],fun q=>[.row 3 1 q.2.length (rowOf intC 0 q.2) true],(0,[]),⟨⟨a2I _,rfl,by simp⟩,some [some 0,some 1,some 2,some 3,some 4,none],?_⟩,?_⟩
     ·(repeat' ((conv=>whnf);first|(with_reducible first|apply spl|apply spl'|refine iJ ?_)<;>intro hc<;>try(exfalso;omega)|refine vcq ?_|refine dr 9 ?_));all_goals(try conv=>whnf);try exact trivial
     ·rintro⟨n,L⟩ ⟨hn,hL,hLl⟩
      dsimp only at hn hL hLl
      have htn:((n:Nat):Int).toNat=n:=Int.toNat_natCast n
      by_cases hnl:n<l.length
      ·have hx:=passOk_get hok hnl
       have hsu:=lessL_succ (H:=t.d.H.toNat) (S:=t.d.S) (g:=Tr.gv s) hnl
       rw[←hL] at hsu
       obtain⟨x,ex⟩:∃x:Nat,l.getD n 0=x:=⟨(l.getD n 0).toNat,by omega⟩
       have htx:((x:Nat):Int).toNat=x:=Int.toNat_natCast x
       have hxl:x<t.d.cnt:=by omega
       have hw:nwN t s x=if Tr.gv s (t.lc x).2.1 then(-1:Int) else((cl t.d.H.toNat t.d.S (Tr.gv s) x:Nat):Int):=rfl
       have hcx:=cl_le t.d.H.toNat t.d.S (Tr.gv s) x
       rw[ex,htx,show loc t.d.H.toNat t.d.S x=t.lc x from rfl] at hsu
       (repeat' ((conv=>whnf);first|(with_reducible first|apply spl|apply spl'|refine iJ ?_)<;>intro hc<;>try(exfalso;omega)|refine vcq ?_|refine dr 9 ?_));all_goals(try conv=>whnf);try exact trivial
       rw[htn,ex]
       refine⟨⟨by omega,by omega⟩,?_⟩
       (repeat' ((conv=>whnf);first|(with_reducible first|apply spl|apply spl'|refine iJ ?_)<;>intro hc<;>try(exfalso;omega)|refine vcq ?_|refine dr 9 ?_));all_goals(try conv=>whnf);try exact trivial
       ·rw[htx] at hc
        have hg:Tr.gv s (t.lc x).2.1=false:=by
         cases q:Tr.gv s (t.lc x).2.1 with
         |false=>rfl
         |true=>rw[q,if_pos rfl] at hw;omega
        rw[hg,if_neg Bool.false_ne_true] at hsu hw
        have hlL:(L++[((cl t.d.H.toNat t.d.S (Tr.gv s) x:Nat):Int)]).length=L.length+1:=by rw[a0P,List.length_singleton]
        rw[htx,hw]
        refine⟨(n+1,L++[((cl t.d.H.toNat t.d.S (Tr.gv s) x:Nat):Int)]),⟨⟨by dsimp only;omega,hsu.symm,by dsimp only;omega⟩,by dsimp only;omega⟩,some [some 0,some 1,some 2,some 3,some 4,some 7],?_⟩
        (repeat' ((conv=>whnf);first|(with_reducible first|apply spl|apply spl'|refine iJ ?_)<;>intro hc<;>try(exfalso;omega)|refine vcq ?_|refine dr 9 ?_));all_goals(try conv=>whnf);try exact trivial
        refine⟨rowOf_snoc (c:=intC) (a:=((cl t.d.H.toNat t.d.S (Tr.gv s) x:Nat):Int)) (l:=L) rfl (fun _ _=>rfl),?_⟩
        (repeat' ((conv=>whnf);first|(with_reducible first|apply spl|apply spl'|refine iJ ?_)<;>intro hc<;>try(exfalso;omega)|refine vcq ?_|refine dr 9 ?_));all_goals(try conv=>whnf);try exact trivial
       ·rw[htx] at hc
        have hg:Tr.gv s (t.lc x).2.1=true:=by
         cases q:Tr.gv s (t.lc x).2.1 with
         |true=>rfl
         |false=>rw[q,if_neg Bool.false_ne_true] at hw;omega
        rw[hg,if_pos rfl,List.append_nil] at hsu
        refine⟨(n+1,L),⟨⟨by dsimp only;omega,hsu.symm,by dsimp only;omega⟩,by dsimp only;omega⟩,some [some 0,some 1,some 2,some 3,some 4,some 5],?_⟩
        (repeat' ((conv=>whnf);first|(with_reducible first|apply spl|apply spl'|refine iJ ?_)<;>intro hc<;>try(exfalso;omega)|refine vcq ?_|refine dr 9 ?_));all_goals(try conv=>whnf);try exact trivial
      ·have e:n=l.length:=by omega
       subst e
       rw[List.take_length] at hL
       rw[←hL] at hPi
       (repeat' ((conv=>whnf);first|(with_reducible first|apply spl|apply spl'|refine iJ ?_)<;>intro hc<;>try(exfalso;omega)|refine vcq ?_|refine dr 9 ?_));all_goals(try conv=>whnf);try exact trivial
       refine⟨i+1,⟨by omega,by dsimp only;omega⟩,some [some 0,some 1,some 2,some 3,some 7],?_⟩
       (repeat' ((conv=>whnf);first|(with_reducible first|apply spl|apply spl'|refine iJ ?_)<;>intro hc<;>try(exfalso;omega)|refine vcq ?_|refine dr 9 ?_));all_goals(try conv=>whnf);try exact trivial
       refine⟨fun k hk=>?_,?_⟩
       ·change appF i (rowOf lsC [] (t.less s).P) (fun _=>lsC L) k=rowOf lsC [] (t.less s).P k
        unfold appF
        by_cases q:k<i
        ·rw[if_pos q]
        ·have:k=i:=by omega
         rw[if_neg q,this]
         unfold rowOf
         rw[hPi]
       ·(repeat' ((conv=>whnf);first|(with_reducible first|apply spl|apply spl'|refine iJ ?_)<;>intro hc<;>try(exfalso;omega)|refine vcq ?_|refine dr 9 ?_));all_goals(try conv=>whnf);try exact trivial
    ·have e:i=t.P.length:=by omega
     subst e
     (repeat' ((conv=>whnf);first|(with_reducible first|apply spl|apply spl'|refine iJ ?_)<;>intro hc<;>try(exfalso;omega)|refine vcq ?_|refine dr 9 ?_));all_goals(try conv=>whnf);try exact trivial
     refine⟨_,rfl,?_⟩
     have hlP:(t.less s).P.length=t.P.length:=List.length_map ..
     have er:(t.less s).c=[.int .i64 ((rk (Tr.gv s) t.d.H.toNat:Nat):Int),.int .i64 t.d.T,.sl 2 t.d.Z.length (rowOf zC (0,0) t.d.Z),.int .i64 t.d.hk,.int .i64 t.d.ck,.int .i64 t.d.hs.1,.int .i64 t.d.hs.2,.int .i64 t.d.cs.1,.int .i64 t.d.cs.2,.int .i64 t.sp,.sl 1 t.P.length (rowOf lsC [] (t.less s).P),.int .i64 t.ms,.int .i64 t.fl,.int .i64 t.mg,.int .i64 t.sc,.int .i64 t.mo,.int .i64 t.nd]:=by rw[←hlP];rfl
     rw[er]
     (repeat' ((conv=>whnf);first|(with_reducible first|apply spl|apply spl'|refine iJ ?_)<;>intro hc<;>try(exfalso;omega)|refine vcq ?_|refine dr 9 ?_));all_goals(try conv=>whnf);try exact trivial
def or3 (f:Nat→Int):Int:=if f 0=0 then if f 1=0 then f 2 else f 1 else f 0
theorem Or44 (f:Nat→Int):PureC Tryz.prog 44 false [.sl 1 3 (fun k=>[.int .i64 (f k)])] (·=.int .i64 (or3 f)):=by
 refine pureC_of_exec Tryz.E_ok Tryz.func44 rfl (by kernel_rfl) ?_
 (repeat' ((conv=>whnf);first|(with_reducible first|apply spl|apply spl'|refine iJ ?_)<;>intro hc<;>try(exfalso;omega)|refine vcq ?_|refine dr 19 ?_));all_goals(try conv=>whnf);try exact trivial
 refine⟨Nat,fun i=>i≤3∧∀k,k<i→f k=0,fun i=>3-i,fun i=>[(8,.int .i64 (i:Nat))],fun _=>[],fun _=>[],0,⟨⟨a2I _,fun k hk=>by omega⟩,some [],?_⟩,?_⟩
 ·(repeat' ((conv=>whnf);first|(with_reducible first|apply spl|apply spl'|refine iJ ?_)<;>intro hc<;>try(exfalso;omega)|refine vcq ?_|refine dr 19 ?_));all_goals(try conv=>whnf);try exact trivial
 ·rintro i ⟨hi,h0⟩
  have hti:((i:Nat):Int).toNat=i:=Int.toNat_natCast i
  by_cases hil:i<3
  ·(repeat' ((conv=>whnf);first|(with_reducible first|apply spl|apply spl'|refine iJ ?_)<;>intro hc<;>try(exfalso;omega)|refine vcq ?_|refine dr 19 ?_));all_goals(try conv=>whnf);try exact trivial
   ·rw[hti] at hc ⊢
    refine⟨_,rfl,?_⟩
    have e:or3 f=f i:=by
     unfold or3
     have:i=0∨i=1∨i=2:=by omega
     rcases this with rfl|rfl|rfl
     ·rw[if_neg hc]
     ·rw[if_pos (h0 0 (by omega)),if_neg hc]
     ·rw[if_pos (h0 0 (by omega)),if_pos (h0 1 (by omega))]
    rw[e]
    (repeat' ((conv=>whnf);first|(with_reducible first|apply spl|apply spl'|refine iJ ?_)<;>intro hc<;>try(exfalso;omega)|refine vcq ?_|refine dr 19 ?_));all_goals(try conv=>whnf);try exact trivial
   ·rw[hti] at hc
    refine⟨i+1,⟨⟨by omega,fun k hk=>?_⟩,by dsimp only;omega⟩,some [],?_⟩
    ·rcases Nat.lt_or_eq_of_le (Nat.le_of_lt_succ hk) with q|q
     ·exact h0 k q
     ·rw[q];omega
    ·(repeat' ((conv=>whnf);first|(with_reducible first|apply spl|apply spl'|refine iJ ?_)<;>intro hc<;>try(exfalso;omega)|refine vcq ?_|refine dr 19 ?_));all_goals(try conv=>whnf);try exact trivial
  ·have e:i=3:=by omega
   subst e
   (repeat' ((conv=>whnf);first|(with_reducible first|apply spl|apply spl'|refine iJ ?_)<;>intro hc<;>try(exfalso;omega)|refine vcq ?_|refine dr 19 ?_));all_goals(try conv=>whnf);try exact trivial
   refine⟨_,rfl,?_⟩
   have e:or3 f=0:=by
    unfold or3
    rw[if_pos (h0 0 (by omega)),if_pos (h0 1 (by omega)),h0 2 (by omega)]
   rw[e]
   (repeat' ((conv=>whnf);first|(with_reducible first|apply spl|apply spl'|refine iJ ?_)<;>intro hc<;>try(exfalso;omega)|refine vcq ?_|refine dr 19 ?_));all_goals(try conv=>whnf);try exact trivial
def cmpR (a b:Nat×Nat):Int:=or3 fun k=>if k=0 then(pop a.1:Int)-pop b.1 else if k=1 then(b.2:Int)-a.2 else(a.1:Int)-b.1
theorem cmpR_lt (a b:Nat×Nat):cmpR a b<0↔Tr.better a b:=by
 unfold cmpR or3 Tr.better
 simp only[if_true,Nat.one_ne_zero,if_false,show((2:Nat)=0)=False from by decide,show((2:Nat)=1)=False from by decide]
 (repeat' split)<;>omega
theorem compare27 (a b:Nat×Nat) (ha:a.1<16∧a.2≤5120) (hb:b.1<16∧b.2≤5120):PureC Tryz.prog 27 false [.agg [.int .i64 (a.1:Nat),.int .i64 (a.2:Nat)],.agg [.int .i64 (b.1:Nat),.int .i64 (b.2:Nat)]] (·=.int .i64 (cmpR a b)):=by
 refine pureC_of_exec Tryz.E_ok Tryz.func27 rfl (by kernel_rfl) ?_
 (repeat' ((conv=>whnf);first|(with_reducible first|apply spl|apply spl'|refine iJ ?_)<;>intro hc<;>try(exfalso;omega)|refine vcq ?_|refine dr 19 ?_));all_goals(try conv=>whnf);try exact trivial
 refine⟨show(0:Int)≤(a.1:Nat)∧((a.1:Nat):Int)≤18446744073709551615 by omega,?_⟩
 (repeat' ((conv=>whnf);first|(with_reducible first|apply spl|apply spl'|refine iJ ?_)<;>intro hc<;>try(exfalso;omega)|refine vcq ?_|refine dr 19 ?_));all_goals(try conv=>whnf);try exact trivial
 refine pcall_intro (OnesCount41 a.1 ha.1) rfl ?_
 (repeat' ((conv=>whnf);first|(with_reducible first|apply spl|apply spl'|refine iJ ?_)<;>intro hc<;>try(exfalso;omega)|refine vcq ?_|refine dr 19 ?_));all_goals(try conv=>whnf);try exact trivial
 refine⟨show(0:Int)≤(b.1:Nat)∧((b.1:Nat):Int)≤18446744073709551615 by omega,?_⟩
 (repeat' ((conv=>whnf);first|(with_reducible first|apply spl|apply spl'|refine iJ ?_)<;>intro hc<;>try(exfalso;omega)|refine vcq ?_|refine dr 19 ?_));all_goals(try conv=>whnf);try exact trivial
 refine pcall_intro (OnesCount41 b.1 hb.1) rfl ?_
 have hpa:pop a.1≤4:=by have:=rk_pop 4 (by omega) a.1 (by omega);omega
 have hpb:pop b.1≤4:=by have:=rk_pop 4 (by omega) b.1 (by omega);omega
 (repeat' ((conv=>whnf);first|(with_reducible first|apply spl|apply spl'|refine iJ ?_)<;>intro hc<;>try(exfalso;omega)|refine vcq ?_|refine dr 19 ?_));all_goals(try conv=>whnf);try exact trivial
 refine callee_view (Or44 fun k=>if k=0 then(pop a.1:Int)-pop b.1 else if k=1 then(b.2:Int)-a.2 else(a.1:Int)-b.1) ?_
 (repeat' ((conv=>whnf);first|(with_reducible first|apply spl|apply spl'|refine iJ ?_)<;>intro hc<;>try(exfalso;omega)|refine vcq ?_|refine dr 19 ?_));all_goals(try conv=>whnf);try exact trivial
 refine⟨fun k hk=>?_,?_⟩
 ·have:k=0∨k=1∨k=2:=by omega
  rcases this with rfl|rfl|rfl<;>rfl
 refine⟨.inl rfl,?_⟩
 (repeat' ((conv=>whnf);first|(with_reducible first|apply spl|apply spl'|refine iJ ?_)<;>intro hc<;>try(exfalso;omega)|refine vcq ?_|refine dr 19 ?_));all_goals(try conv=>whnf);try exact trivial
 rintro _ rfl
 (repeat' ((conv=>whnf);first|(with_reducible first|apply spl|apply spl'|refine iJ ?_)<;>intro hc<;>try(exfalso;omega)|refine vcq ?_|refine dr 19 ?_));all_goals(try conv=>whnf);try exact trivial
 refine⟨_,rfl,?_⟩
 unfold cmpR
 (repeat' ((conv=>whnf);first|(with_reducible first|apply spl|apply spl'|refine iJ ?_)<;>intro hc<;>try(exfalso;omega)|refine vcq ?_|refine dr 19 ?_));all_goals(try conv=>whnf);try exact trivial
theorem ascending85 {n:Nat} {l:List Int} (h:PassOk n l) (hl:l.length≤60):PureC Tryz.prog 85 false [.sl 1 l.length (rowOf intC 0 l),.int .i64 0,.int .i64 ((n:Int)-1)] (·=.kb true):=by
 refine pureC_of_exec Tryz.E_ok Tryz.func85 rfl (by kernel_rfl) ?_
 (repeat' ((conv=>whnf);first|(with_reducible first|apply spl|apply spl'|refine iJ ?_)<;>intro hc<;>try(exfalso;omega)|refine vcq ?_|fail));all_goals(try conv=>whnf);try exact trivial
 refine⟨Nat,fun i=>i≤l.length,fun i=>l.length-i,fun i=>[(11,.int .i64 (i:Nat)),(6,.kb false)],fun _=>[],fun _=>[],0,⟨a2I _,some [],?_⟩,?_⟩
 ·(repeat' ((conv=>whnf);first|(with_reducible first|apply spl|apply spl'|refine iJ ?_)<;>intro hc<;>try(exfalso;omega)|refine vcq ?_|fail));all_goals(try conv=>whnf);try exact trivial
 ·intro i hi
  have hi:i≤l.length:=hi
  have hti:((i:Nat):Int).toNat=i:=Int.toNat_natCast i
  by_cases hil:i<l.length
  ·have hx:=passOk_get h hil
   have e1:((i:Nat):Int).toNat=i:=hti
   have e2:(((i:Nat):Int)-1).toNat=i-1:=by omega
   (repeat' ((conv=>whnf);first|(with_reducible first|apply spl|apply spl'|refine iJ ?_)<;>intro hc<;>try(exfalso;omega)|refine vcq ?_|fail));all_goals(try conv=>whnf);try exact trivial
   ·rw[e1,e2] at hc
    exfalso
    rcases hc with(q|q)|⟨q,r⟩
    ·omega
    ·omega
    ·have:=hx.2 (by omega)
     omega
   ·refine⟨i+1,⟨by omega,by dsimp only;omega⟩,some [],?_⟩
    (repeat' ((conv=>whnf);first|(with_reducible first|apply spl|apply spl'|refine iJ ?_)<;>intro hc<;>try(exfalso;omega)|refine vcq ?_|fail));all_goals(try conv=>whnf);try exact trivial
  ·have e:i=l.length:=by omega
   subst e
   (repeat' ((conv=>whnf);first|(with_reducible first|apply spl|apply spl'|refine iJ ?_)<;>intro hc<;>try(exfalso;omega)|refine vcq ?_|fail));all_goals(try conv=>whnf);try exact trivial
   refine⟨_,rfl,?_⟩
   (repeat' ((conv=>whnf);first|(with_reducible first|apply spl|apply spl'|refine iJ ?_)<;>intro hc<;>try(exfalso;omega)|refine vcq ?_|fail));all_goals(try conv=>whnf);try exact trivial
def znC (d:Dk) (i:Nat):List V:=[.int .i64 (zF d i:Nat),.int .i64 (zF d (i+1):Nat)]
def plI (d:Dk):V:=.iptr [.int .i64 d.H,.int .i64 d.T,.sl 2 d.Z.length (rowOf zC (0,0) d.Z),.any,.any,.any,.any,.any,.any,.any,.any,.any,.any,.any,.any]
theorem zF_mono (d:Dk) {a:Nat}:∀{b:Nat},a≤b→b≤d.Z.length→zF d a≤zF d b
 |0,e,_=>by rw[Nat.le_zero.1 e];exact a0O _
 |b+1,e,hb=>by
  rcases Nat.lt_or_eq_of_le e with q|q
  ·exact Nat.le_trans (zF_mono d (Nat.le_of_lt_succ q) (by omega)) (zF_le d (by omega))
  ·rw[q];exact a0O _
theorem zones63 (d:Dk) (h:d.Ok):PureC Tryz.prog 63 false [plI d] (·=.sl 2 d.Z.length (znC d)):=by
 unfold plI
 refine pureC_of_exec Tryz.E_ok Tryz.func63 rfl (by kernel_rfl) ?_
 (repeat' ((conv=>whnf);first|(with_reducible first|apply spl|apply spl'|refine iJ ?_)<;>intro hc<;>try(exfalso;omega)|refine vcq ?_|refine dr 13 ?_));all_goals(try conv=>whnf);try exact trivial
 refine⟨Nat,fun i=>i≤d.Z.length,fun i=>d.Z.length-i,fun i=>[(15,.int .i64 (i:Nat)),(4,.int .i64 (zF d i:Nat)),(3,.osl 0 i)]++anyS 5 3,fun _=>[],fun i=>[.row 122 2 i (znC d) true],0,⟨a2I _,some [none],?_⟩,?_⟩
 ·(repeat' ((conv=>whnf);first|(with_reducible first|apply spl|apply spl'|refine iJ ?_)<;>intro hc<;>try(exfalso;omega)|refine vcq ?_|refine dr 13 ?_));all_goals(try conv=>whnf);try exact trivial
 ·intro i hi
  have hi:i≤d.Z.length:=hi
  have hti:((i:Nat):Int).toNat=i:=Int.toNat_natCast i
  by_cases hil:i<d.Z.length
  ·have hsu:=zF_succ d hil
   have hle:zF d (i+1)≤d.cnt:=by
    rw[←zF_all d]
    exact zF_mono d (by omega) (a0O _)
   have hzz:=h.zone _ (getD_mem (d:=((0:Int),(0:Int))) hil)
   have hH:=h.h
   generalize hze:d.Z.getD i (0,0)=z at *
   obtain⟨zc,zs⟩:=z
   dsimp only at hzz hsu
   obtain⟨c,rfl⟩:∃c:Nat,zc=c:=⟨zc.toNat,by omega⟩
   obtain⟨u,rfl⟩:∃u:Nat,zs=u:=⟨zs.toNat,by omega⟩
   obtain⟨H,eH⟩:∃H:Nat,d.H=H:=⟨d.H.toNat,by omega⟩
   rw[eH] at hsu hH
   simp only[Int.toNat_natCast] at hsu
   have m1:H*c≤4*c:=a0C _ (by omega)
   have m2:((H:Nat):Int)*(c:Nat)=(H*c:Nat):=(Int.natCast_mul _ _).symm
   have m3:((H*c:Nat):Int)*(u:Nat)=(H*(c*u):Nat):=by rw[←Nat.mul_assoc];exact(Int.natCast_mul _ _).symm
   (repeat' ((conv=>whnf);first|(with_reducible first|apply spl|apply spl'|refine iJ ?_)<;>intro hc<;>try(exfalso;omega)|refine vcq ?_|refine dr 13 ?_));all_goals(try conv=>whnf);try exact trivial
   rw[hti,hze,eH]
   dsimp only
   rw[m2]
   refine⟨inR_of (by omega) (by omega),?_⟩
   (repeat' ((conv=>whnf);first|(with_reducible first|apply spl|apply spl'|refine iJ ?_)<;>intro hc<;>try(exfalso;omega)|refine vcq ?_|refine dr 13 ?_));all_goals(try conv=>whnf);try exact trivial
   rw[m3]
   have hcn:=Dk.cnt_le h
   have hzl:=h.z
   generalize H*(c*u)=w at *
   refine⟨inR_of (by omega) (by omega),?_⟩
   (repeat' ((conv=>whnf);first|(with_reducible first|apply spl|apply spl'|refine iJ ?_)<;>intro hc<;>try(exfalso;omega)|refine vcq ?_|refine dr 13 ?_));all_goals(try conv=>whnf);try exact trivial
   refine⟨i+1,⟨by omega,by omega⟩,some [some 3],?_⟩
   (repeat' ((conv=>whnf);first|(with_reducible first|apply spl|apply spl'|refine iJ ?_)<;>intro hc<;>try(exfalso;omega)|refine vcq ?_|refine dr 13 ?_));all_goals(try conv=>whnf);try exact trivial
   refine⟨fun k hk=>?_,?_⟩
   ·unfold appF
    by_cases q:k<i
    ·rw[if_pos q]
    ·have e:k=i:=by omega
     rw[if_neg q,e]
     unfold znC
     rw[hsu]
     rfl
   ·(repeat' ((conv=>whnf);first|(with_reducible first|apply spl|apply spl'|refine iJ ?_)<;>intro hc<;>try(exfalso;omega)|refine vcq ?_|refine dr 13 ?_));all_goals(try conv=>whnf);try exact trivial
  ·have e:i=d.Z.length:=by omega
   subst e
   (repeat' ((conv=>whnf);first|(with_reducible first|apply spl|apply spl'|refine iJ ?_)<;>intro hc<;>try(exfalso;omega)|refine vcq ?_|refine dr 13 ?_));all_goals(try conv=>whnf);try exact trivial
   refine⟨_,rfl,?_⟩
   (repeat' ((conv=>whnf);first|(with_reducible first|apply spl|apply spl'|refine iJ ?_)<;>intro hc<;>try(exfalso;omega)|refine vcq ?_|refine dr 13 ?_));all_goals(try conv=>whnf);try exact trivial
def fC (d:Dk) (sp:Int) (L:List Int):List V:=[.int .i64 d.H,.int .i64 d.T,.sl 2 d.Z.length (rowOf zC (0,0) d.Z),.int .i64 d.hk,.int .i64 d.ck,.int .i64 d.hs.1,.int .i64 d.hs.2,.int .i64 d.cs.1,.int .i64 d.cs.2,.int .i64 sp,.sl 1 L.length (rowOf intC 0 L),.sl 3 0 (fun _=>[])]
theorem form72 (d:Dk) (h:d.Ok) (sp:Int) (hsp:0≤sp∧sp≤20) (L:List Int) (hL:PassOk d.cnt L) (hl:L.length≤60):PureC Tryz.prog 72 false [.agg (fC d sp L)] (·=.int .i64 0):=by
 have hcn:=Dk.cnt_le h
 refine pureC_of_exec Tryz.E_ok Tryz.func72 rfl (by kernel_rfl) ?_
 (repeat' ((conv=>whnf);first|(with_reducible first|apply spl|apply spl'|refine iJ ?_)<;>intro hc<;>try(exfalso;omega)|refine vcq ?_|fail));all_goals(try conv=>whnf);try exact trivial
 refine callee_fo (Size81 d h) rfl ?_
 rintro _ rfl
 (repeat' ((conv=>whnf);first|(with_reducible first|apply spl|apply spl'|refine iJ ?_)<;>intro hc<;>try(exfalso;omega)|refine vcq ?_|fail));all_goals(try conv=>whnf);try exact trivial
 refine callee_fo (ascending85 hL hl) rfl ?_
 rintro _ rfl
 (repeat' ((conv=>whnf);first|(with_reducible first|apply spl|apply spl'|refine iJ ?_)<;>intro hc<;>try(exfalso;omega)|refine vcq ?_|fail));all_goals(try conv=>whnf);try exact trivial
 refine callee_exec Tryz.E_ok Tryz.func86 rfl (by kernel_rfl) ?_
 (repeat' ((conv=>whnf);first|(with_reducible first|apply spl|apply spl'|refine iJ ?_)<;>intro hc<;>try(exfalso;omega)|refine vcq ?_|fail));all_goals(try conv=>whnf);try exact trivial
 refine callee_exec Tryz.E_ok Tryz.func96 rfl (by kernel_rfl) ?_
 (repeat' ((conv=>whnf);first|(with_reducible first|apply spl|apply spl'|refine iJ ?_)<;>intro hc<;>try(exfalso;omega)|refine vcq ?_|fail));all_goals(try conv=>whnf);try exact trivial
 refine⟨Unit,fun _=>True,fun _=>0,fun _=>[(8,.int .i64 0)],fun _=>[],fun _=>[],(),⟨trivial,none,?_⟩,?_⟩
 ·(repeat' ((conv=>whnf);first|(with_reducible first|apply spl|apply spl'|refine iJ ?_)<;>intro hc<;>try(exfalso;omega)|refine vcq ?_|fail));all_goals(try conv=>whnf);try exact trivial
 ·intro _ _
  (repeat' ((conv=>whnf);first|(with_reducible first|apply spl|apply spl'|refine iJ ?_)<;>intro hc<;>try(exfalso;omega)|refine vcq ?_|fail));all_goals(try conv=>whnf);try exact trivial
  refine⟨_,rfl,?_⟩
  (repeat' ((conv=>whnf);first|(with_reducible first|apply spl|apply spl'|refine iJ ?_)<;>intro hc<;>try(exfalso;omega)|refine vcq ?_|fail));all_goals(try conv=>whnf);try exact trivial
end Tp
def Tryz.lays8b_ren:Go.Shelf.Ren:=⟨fun|4=>88|n=>n,fun|22=>70|25=>131|3=>3|4=>4|9=>9|20=>20|0=>0|n=>n,fun|n=>n⟩
theorem Tryz.lays8b:Go.Proofs.Lays8.n4 Tryz.prog Tryz.lays8b_ren:={
 mixed:=by kernel_rfl
 f4 := ⟨"slices.Grow[[]platter/api.Defect,platter/api.Defect]", by decide, Tryz.func88.trans (congrArg some (by kernel_rfl))⟩
 t0:=Tryz.underlying0
 a0:=Tryz.isAgg0
 z0:=Tryz.sizeOf0
 v0:=Tryz.zeroValue0
 t3:=Tryz.underlying3
 a3:=Tryz.isAgg3
 z3:=Tryz.sizeOf3
 v3:=Tryz.zeroValue3
 t4:=Tryz.underlying4
 a4:=Tryz.isAgg4
 z4:=Tryz.sizeOf4
 v4:=Tryz.zeroValue4
 t9:=Tryz.underlying9
 a9:=Tryz.isAgg9
 z9:=Tryz.sizeOf9
 v9:=Tryz.zeroValue9
 t20:=Tryz.underlying20
 a20:=Tryz.isAgg20
 z20:=Tryz.sizeOf20
 v20:=Tryz.zeroValue20
 t22:=Tryz.underlying70
 a22:=Tryz.isAgg70
 z22:=Tryz.sizeOf70
 v22:=Tryz.zeroValue70}
namespace Tp
theorem Grow88z:NewC Tryz.prog 88 [.lit (.slice none 0 0),.int .i64 0] (fun r H=>r=.lit (.slice none 0 0)∧H=[]):=by
 refine⟨⟨_,Tryz.func88,by kernel_rfl,by kernel_rfl⟩,fun I w vals hI hd=>?_⟩
 obtain⟨v0,r0,rfl,e0,v1,r1,rfl,e1,e2⟩:=hd
 have e0:v0=.slice none 0 0:=e0
 have e1:v1=.int .i64 0:=e1
 have e2:r1=[]:=e2
 subst e0 e1 e2
 refine(Any8.slices_Grow_room Tryz.lays8b none 0 0 0 w (a0O _) (by omega) (by omega) (a0O _)).mono ?_
 rintro e w' ⟨rfl,rfl⟩
 exact⟨I,[],[],_,_,rfl,⟨rfl,rfl⟩,sat_nil hI,rfl,Step.refl _ _ _⟩
theorem Concat74z:PureC Tryz.prog 74 false [.sl 1 1 (fun _=>[.sl 3 0 (fun _=>[])])] (·=.sl 3 0 (fun _=>[])):=by
 refine pureC_of_exec Tryz.E_ok Tryz.func74 rfl (by kernel_rfl) ?_
 (repeat' ((conv=>whnf);first|(with_reducible first|apply spl|apply spl'|refine iJ ?_)<;>intro hc<;>try(exfalso;omega)|refine vcq ?_|fail));all_goals(try conv=>whnf);try exact trivial
 refine⟨Nat,fun i=>i≤1,fun i=>1-i,fun i=>[(11,.int .i64 (i:Nat)),(3,.int .i64 0)],fun _=>[],fun _=>[],0,⟨a2I _,some [],?_⟩,?_⟩
 ·(repeat' ((conv=>whnf);first|(with_reducible first|apply spl|apply spl'|refine iJ ?_)<;>intro hc<;>try(exfalso;omega)|refine vcq ?_|fail));all_goals(try conv=>whnf);try exact trivial
 ·intro i hi
  have hi:i≤1:=hi
  by_cases hil:i<1
  ·(repeat' ((conv=>whnf);first|(with_reducible first|apply spl|apply spl'|refine iJ ?_)<;>intro hc<;>try(exfalso;omega)|refine vcq ?_|fail));all_goals(try conv=>whnf);try exact trivial
   refine⟨i+1,⟨by omega,by dsimp only;omega⟩,some [],?_⟩
   (repeat' ((conv=>whnf);first|(with_reducible first|apply spl|apply spl'|refine iJ ?_)<;>intro hc<;>try(exfalso;omega)|refine vcq ?_|fail));all_goals(try conv=>whnf);try exact trivial
  ·have e:i=1:=by omega
   subst e
   (repeat' ((conv=>whnf);first|(with_reducible first|apply spl|apply spl'|refine iJ ?_)<;>intro hc<;>try(exfalso;omega)|refine vcq ?_|fail));all_goals(try conv=>whnf);try exact trivial
   refine callee_new Grow88z rfl ?_
   rintro _ _ ⟨rfl,rfl⟩
   (repeat' ((conv=>whnf);first|(with_reducible first|apply spl|apply spl'|refine iJ ?_)<;>intro hc<;>try(exfalso;omega)|refine vcq ?_|fail));all_goals(try conv=>whnf);try exact trivial
   refine⟨Nat,fun i=>i≤1,fun i=>1-i,fun i=>[(27,.int .i64 (i:Nat)),(6,.osl 0 0)],fun _=>[],fun _=>[.row 131 3 0 (fun _=>[]) true],0,⟨a2I _,some [none],?_⟩,?_⟩
   ·(repeat' ((conv=>whnf);first|(with_reducible first|apply spl|apply spl'|refine iJ ?_)<;>intro hc<;>try(exfalso;omega)|refine vcq ?_|fail));all_goals(try conv=>whnf);try exact trivial
   ·intro i hi
    have hi:i≤1:=hi
    by_cases hil:i<1
    ·(repeat' ((conv=>whnf);first|(with_reducible first|apply spl|apply spl'|refine iJ ?_)<;>intro hc<;>try(exfalso;omega)|refine vcq ?_|fail));all_goals(try conv=>whnf);try exact trivial
     refine⟨i+1,⟨by omega,by dsimp only;omega⟩,some [some 1],?_⟩
     (repeat' ((conv=>whnf);first|(with_reducible first|apply spl|apply spl'|refine iJ ?_)<;>intro hc<;>try(exfalso;omega)|refine vcq ?_|fail));all_goals(try conv=>whnf);try exact trivial
    ·have e:i=1:=by omega
     subst e
     (repeat' ((conv=>whnf);first|(with_reducible first|apply spl|apply spl'|refine iJ ?_)<;>intro hc<;>try(exfalso;omega)|refine vcq ?_|fail));all_goals(try conv=>whnf);try exact trivial
     refine⟨_,rfl,?_⟩
     (repeat' ((conv=>whnf);first|(with_reducible first|apply spl|apply spl'|refine iJ ?_)<;>intro hc<;>try(exfalso;omega)|refine vcq ?_|fail));all_goals(try conv=>whnf);try exact trivial
theorem Check62 (d:Dk) (h:d.Ok) (sp:Int) (hsp:0≤sp∧sp≤20) (L:List Int) (hL:PassOk d.cnt L) (hl:L.length≤60):PureC Tryz.prog 62 false [.agg (fC d sp L)] (·=.int .i64 0):=by
 have hF:=form72 d h sp hsp L hL hl
 unfold fC at hF
 refine pureC_of_exec Tryz.E_ok Tryz.func62 rfl (by kernel_rfl) ?_
 (repeat' ((conv=>whnf);first|(with_reducible first|apply spl|apply spl'|refine iJ ?_)<;>intro hc<;>try(exfalso;omega)|refine vcq ?_|fail));all_goals(try conv=>whnf);try exact trivial
 refine callee_fo hF rfl ?_
 rintro _ rfl
 (repeat' ((conv=>whnf);first|(with_reducible first|apply spl|apply spl'|refine iJ ?_)<;>intro hc<;>try(exfalso;omega)|refine vcq ?_|fail));all_goals(try conv=>whnf);try exact trivial
 refine callee_exec Tryz.E_ok Tryz.func64 rfl (by kernel_rfl) ?_
 (repeat' ((conv=>whnf);first|(with_reducible first|apply spl|apply spl'|refine iJ ?_)<;>intro hc<;>try(exfalso;omega)|refine vcq ?_|fail));all_goals(try conv=>whnf);try exact trivial
 intro g0
 (repeat' ((conv=>whnf);first|(with_reducible first|apply spl|apply spl'|refine iJ ?_)<;>intro hc<;>try(exfalso;omega)|refine vcq ?_|fail));all_goals(try conv=>whnf);try exact trivial
 intro g1
 (repeat' ((conv=>whnf);first|(with_reducible first|apply spl|apply spl'|refine iJ ?_)<;>intro hc<;>try(exfalso;omega)|refine vcq ?_|fail));all_goals(try conv=>whnf);try exact trivial
 refine callee_view Concat74z ?_
 (repeat' ((conv=>whnf);first|(with_reducible first|apply spl|apply spl'|refine iJ ?_)<;>intro hc<;>try(exfalso;omega)|refine vcq ?_|fail));all_goals(try conv=>whnf);try exact trivial
 rintro _ rfl
 (repeat' ((conv=>whnf);first|(with_reducible first|apply spl|apply spl'|refine iJ ?_)<;>intro hc<;>try(exfalso;omega)|refine vcq ?_|fail));all_goals(try conv=>whnf);try exact trivial
 refine⟨Unit,fun _=>True,fun _=>0,fun _=>[(12,.int .i64 0)],fun _=>[],fun _=>[],(),⟨trivial,none,?_⟩,?_⟩
 ·(repeat' ((conv=>whnf);first|(with_reducible first|apply spl|apply spl'|refine iJ ?_)<;>intro hc<;>try(exfalso;omega)|refine vcq ?_|fail));all_goals(try conv=>whnf);try exact trivial
 ·intro _ _
  (repeat' ((conv=>whnf);first|(with_reducible first|apply spl|apply spl'|refine iJ ?_)<;>intro hc<;>try(exfalso;omega)|refine vcq ?_|fail));all_goals(try conv=>whnf);try exact trivial
  refine callee_exec Tryz.E_ok Tryz.func73 rfl (by kernel_rfl) ?_
  (repeat' ((conv=>whnf);first|(with_reducible first|apply spl|apply spl'|refine iJ ?_)<;>intro hc<;>try(exfalso;omega)|refine vcq ?_|fail));all_goals(try conv=>whnf);try exact trivial
  refine⟨_,rfl,?_⟩
  (repeat' ((conv=>whnf);first|(with_reducible first|apply spl|apply spl'|refine iJ ?_)<;>intro hc<;>try(exfalso;omega)|refine vcq ?_|fail));all_goals(try conv=>whnf);try exact trivial
theorem byteAt_le (s:ByteArray) (i:Nat):0≤byteAt s i∧byteAt s i≤255:=by
 unfold byteAt
 cases s[i]? with
 |none=>simp
 |some b=>
  simp only[Option.map_some,Option.getD_some]
  have:=b.toNat_lt
  omega
theorem len99 (n:Nat) (h:n≤12):PureC Tryz.prog 99 false [.int .u64 n] (fun r=>∃k:Int,r=.int .i64 k):=by
 refine pureC_of_exec Tryz.E_ok Tryz.func99 rfl (by kernel_rfl) ?_
 (repeat' ((conv=>whnf);first|(with_reducible first|apply spl|apply spl'|refine iJ ?_)<;>intro hc<;>try(exfalso;omega)|refine vcq ?_|fail));all_goals(try conv=>whnf);try exact trivial
 refine callee_exec Tryz.E_ok Tryz.func110 rfl (by kernel_rfl) ?_
 (repeat' ((conv=>whnf);first|(with_reducible first|apply spl|apply spl'|refine iJ ?_)<;>intro hc<;>try(exfalso;omega)|refine vcq ?_|fail));all_goals(try conv=>whnf);try exact trivial
 refine⟨⟨by show(0:Int)≤n;omega,by show(n:Int)≤255;omega⟩,?_⟩
 (repeat' ((conv=>whnf);first|(with_reducible first|apply spl|apply spl'|refine iJ ?_)<;>intro hc<;>try(exfalso;omega)|refine vcq ?_|fail));all_goals(try conv=>whnf);try exact trivial
 refine⟨⟨by omega,Int.lt_of_lt_of_le (show(n:Int)<256 by omega) (by decide +kernel)⟩,?_⟩
 generalize hby:byteAt _ _=y
 have hy:0≤y∧y≤255:=by rw[←hby];exact byteAt_le _ _
 (repeat' ((conv=>whnf);first|(with_reducible first|apply spl|apply spl'|refine iJ ?_)<;>intro hc<;>try(exfalso;omega)|refine vcq ?_|fail));all_goals(try conv=>whnf);try exact trivial
 exact⟨_,⟨_,rfl⟩,rfl,trivial⟩
theorem isort92z:PureC Tryz.prog 92 false [.sl 3 0 (fun _=>[]),.int .i64 0,.int .i64 0,.any] (·=.tup []):=by
 refine pureC_of_exec Tryz.E_ok Tryz.func92 rfl (by kernel_rfl) ?_
 (repeat' ((conv=>whnf);first|(with_reducible first|apply spl|apply spl'|refine iJ ?_)<;>intro hc<;>try(exfalso;omega)|refine vcq ?_|fail));all_goals(try conv=>whnf);try exact trivial
 refine⟨Unit,fun _=>True,fun _=>0,fun _=>[(8,.int .i64 1)],fun _=>[],fun _=>[],(),⟨trivial,none,?_⟩,?_⟩
 ·(repeat' ((conv=>whnf);first|(with_reducible first|apply spl|apply spl'|refine iJ ?_)<;>intro hc<;>try(exfalso;omega)|refine vcq ?_|fail));all_goals(try conv=>whnf);try exact trivial
 ·intro _ _
  (repeat' ((conv=>whnf);first|(with_reducible first|apply spl|apply spl'|refine iJ ?_)<;>intro hc<;>try(exfalso;omega)|refine vcq ?_|fail));all_goals(try conv=>whnf);try exact trivial
  refine⟨_,rfl,?_⟩
  (repeat' ((conv=>whnf);first|(with_reducible first|apply spl|apply spl'|refine iJ ?_)<;>intro hc<;>try(exfalso;omega)|refine vcq ?_|fail));all_goals(try conv=>whnf);try exact trivial
theorem SortFunc90z:PureC Tryz.prog 90 false [.sl 3 0 (fun _=>[]),.fn (.func 77) [] []] (·=.tup []):=by
 refine pureC_of_exec Tryz.E_ok Tryz.func90 rfl (by kernel_rfl) ?_
 (repeat' ((conv=>whnf);first|(with_reducible first|apply spl|apply spl'|refine iJ ?_)<;>intro hc<;>try(exfalso;omega)|refine vcq ?_|fail));all_goals(try conv=>whnf);try exact trivial
 refine⟨show(0:Int)≤0∧(0:Int)≤18446744073709551615 by omega,?_⟩
 (repeat' ((conv=>whnf);first|(with_reducible first|apply spl|apply spl'|refine iJ ?_)<;>intro hc<;>try(exfalso;omega)|refine vcq ?_|fail));all_goals(try conv=>whnf);try exact trivial
 refine callee_fo (len99 0 (by omega)) rfl ?_
 rintro _ ⟨k,rfl⟩
 (repeat' ((conv=>whnf);first|(with_reducible first|apply spl|apply spl'|refine iJ ?_)<;>intro hc<;>try(exfalso;omega)|refine vcq ?_|fail));all_goals(try conv=>whnf);try exact trivial
 refine callee_exec Tryz.E_ok Tryz.func98 rfl (by kernel_rfl) ?_
 (repeat' ((conv=>whnf);first|(with_reducible first|apply spl|apply spl'|refine iJ ?_)<;>intro hc<;>try(exfalso;omega)|refine vcq ?_|fail));all_goals(try conv=>whnf);try exact trivial
 refine⟨Unit,fun _=>True,fun _=>0,fun _=>[(1,.int .i64 0),(2,.int .i64 0),(3,.int .i64 k)],fun _=>[],fun _=>[],(),⟨trivial,none,?_⟩,?_⟩
 ·(repeat' ((conv=>whnf);first|(with_reducible first|apply spl|apply spl'|refine iJ ?_)<;>intro hc<;>try(exfalso;omega)|refine vcq ?_|fail));all_goals(try conv=>whnf);try exact trivial
 ·intro _ _
  (repeat' ((conv=>whnf);first|(with_reducible first|apply spl|apply spl'|refine iJ ?_)<;>intro hc<;>try(exfalso;omega)|refine vcq ?_|fail));all_goals(try conv=>whnf);try exact trivial
  refine callee_view isort92z ?_
  (repeat' ((conv=>whnf);first|(with_reducible first|apply spl|apply spl'|refine iJ ?_)<;>intro hc<;>try(exfalso;omega)|refine vcq ?_|fail));all_goals(try conv=>whnf);try exact trivial
  rintro _ rfl
  (repeat' ((conv=>whnf);first|(with_reducible first|apply spl|apply spl'|refine iJ ?_)<;>intro hc<;>try(exfalso;omega)|refine vcq ?_|fail));all_goals(try conv=>whnf);try exact trivial
  refine⟨_,rfl,?_⟩
  (repeat' ((conv=>whnf);first|(with_reducible first|apply spl|apply spl'|refine iJ ?_)<;>intro hc<;>try(exfalso;omega)|refine vcq ?_|fail));all_goals(try conv=>whnf);try exact trivial
theorem SortStable66z:PureC Tryz.prog 66 false [.sl 3 0 (fun _=>[]),.fn (.func 67) [] []] (·=.tup []):=by
 refine pureC_of_exec Tryz.E_ok Tryz.func66 rfl (by kernel_rfl) ?_
 (repeat' ((conv=>whnf);first|(with_reducible first|apply spl|apply spl'|refine iJ ?_)<;>intro hc<;>try(exfalso;omega)|refine vcq ?_|fail));all_goals(try conv=>whnf);try exact trivial
 refine callee_exec Tryz.E_ok Tryz.func78 rfl (by kernel_rfl) ?_
 (repeat' ((conv=>whnf);first|(with_reducible first|apply spl|apply spl'|refine iJ ?_)<;>intro hc<;>try(exfalso;omega)|refine vcq ?_|fail));all_goals(try conv=>whnf);try exact trivial
 refine⟨Unit,fun _=>True,fun _=>0,fun _=>[(7,.int .i64 0),(8,.int .i64 20)],fun _=>[],fun _=>[],(),⟨trivial,none,?_⟩,?_⟩
 ·(repeat' ((conv=>whnf);first|(with_reducible first|apply spl|apply spl'|refine iJ ?_)<;>intro hc<;>try(exfalso;omega)|refine vcq ?_|fail));all_goals(try conv=>whnf);try exact trivial
 ·intro _ _
  (repeat' ((conv=>whnf);first|(with_reducible first|apply spl|apply spl'|refine iJ ?_)<;>intro hc<;>try(exfalso;omega)|refine vcq ?_|fail));all_goals(try conv=>whnf);try exact trivial
  refine callee_view isort92z ?_
  (repeat' ((conv=>whnf);first|(with_reducible first|apply spl|apply spl'|refine iJ ?_)<;>intro hc<;>try(exfalso;omega)|refine vcq ?_|fail));all_goals(try conv=>whnf);try exact trivial
  rintro _ rfl
  (repeat' ((conv=>whnf);first|(with_reducible first|apply spl|apply spl'|refine iJ ?_)<;>intro hc<;>try(exfalso;omega)|refine vcq ?_|fail));all_goals(try conv=>whnf);try exact trivial
  refine⟨Unit,fun _=>True,fun _=>0,fun _=>[(6,.int .i64 20)],fun _=>[],fun _=>[],(),⟨trivial,none,?_⟩,?_⟩
  ·(repeat' ((conv=>whnf);first|(with_reducible first|apply spl|apply spl'|refine iJ ?_)<;>intro hc<;>try(exfalso;omega)|refine vcq ?_|fail));all_goals(try conv=>whnf);try exact trivial
  ·intro _ _
   (repeat' ((conv=>whnf);first|(with_reducible first|apply spl|apply spl'|refine iJ ?_)<;>intro hc<;>try(exfalso;omega)|refine vcq ?_|fail));all_goals(try conv=>whnf);try exact trivial
   refine⟨_,rfl,?_⟩
   (repeat' ((conv=>whnf);first|(with_reducible first|apply spl|apply spl'|refine iJ ?_)<;>intro hc<;>try(exfalso;omega)|refine vcq ?_|fail));all_goals(try conv=>whnf);try exact trivial
theorem sorted65 (g0 g1:MG):Sx.Callee Tryz.prog 65 [.agg [.map 0,.map 1]] [.map [.i64] false true (fun _=>False) (fun _=>[.int .i64 0,.int .i64 0,.int .i64 0]) 0 g0,.map [.i64,.i64,.i64] true false (fun _=>False) (fun _=>[.int .i64 0]) 0 g1] (fun v H=>v=.sl 3 0 (fun _=>[])∧H=[.map [.i64] false true (fun _=>False) (fun _=>[.int .i64 0,.int .i64 0,.int .i64 0]) 0 g0,.map [.i64,.i64,.i64] true false (fun _=>False) (fun _=>[.int .i64 0]) 0 g1]):=by
 refine callee_ent Tryz.E_ok Tryz.func65 rfl (by kernel_rfl) ?_
 (repeat' ((conv=>whnf);first|(with_reducible first|apply spl|apply spl'|refine iJ ?_)<;>intro hc<;>try(exfalso;omega)|refine vcq ?_|fail));all_goals(try conv=>whnf);try exact trivial
 refine callee_exec Tryz.E_ok Tryz.func76 rfl (by kernel_rfl) ?_
 (repeat' ((conv=>whnf);first|(with_reducible first|apply spl|apply spl'|refine iJ ?_)<;>intro hc<;>try(exfalso;omega)|refine vcq ?_|fail));all_goals(try conv=>whnf);try exact trivial
 refine callee_exec Tryz.E_ok Tryz.func75 rfl (by kernel_rfl) ?_
 (repeat' ((conv=>whnf);first|(with_reducible first|apply spl|apply spl'|refine iJ ?_)<;>intro hc<;>try(exfalso;omega)|refine vcq ?_|fail));all_goals(try conv=>whnf);try exact trivial
 refine callee_exec Tryz.E_ok Tryz.func89 rfl (by kernel_rfl) ?_
 (repeat' ((conv=>whnf);first|(with_reducible first|apply spl|apply spl'|refine iJ ?_)<;>intro hc<;>try(exfalso;omega)|refine vcq ?_|fail));all_goals(try conv=>whnf);try exact trivial
 refine callee_exec Tryz.E_ok Tryz.func97 rfl (by kernel_rfl) ?_
 (repeat' ((conv=>whnf);first|(with_reducible first|apply spl|apply spl'|refine iJ ?_)<;>intro hc<;>try(exfalso;omega)|refine vcq ?_|fail));all_goals(try conv=>whnf);try exact trivial
 refine callee_exec Tryz.E_ok Tryz.func91 rfl (by kernel_rfl) ?_
 (repeat' ((conv=>whnf);first|(with_reducible first|apply spl|apply spl'|refine iJ ?_)<;>intro hc<;>try(exfalso;omega)|refine vcq ?_|fail));all_goals(try conv=>whnf);try exact trivial
 refine⟨Unit,fun _=>True,fun _=>0,fun _=>[],fun _=>[],fun _=>[],(),⟨trivial,none,?_⟩,?_⟩
 ·(repeat' ((conv=>whnf);first|(with_reducible first|apply spl|apply spl'|refine iJ ?_)<;>intro hc<;>try(exfalso;omega)|refine vcq ?_|fail));all_goals(try conv=>whnf);try exact trivial
 ·intro _ _
  (repeat' ((conv=>whnf);first|(with_reducible first|apply spl|apply spl'|refine iJ ?_)<;>intro hc<;>try(exfalso;omega)|refine vcq ?_|fail));all_goals(try conv=>whnf);try exact trivial
  refine⟨fun k hk hd=>hd.elim,fun k hk hd _ _=>hd.elim,fun _=>?_⟩
  (repeat' ((conv=>whnf);first|(with_reducible first|apply spl|apply spl'|refine iJ ?_)<;>intro hc<;>try(exfalso;omega)|refine vcq ?_|fail));all_goals(try conv=>whnf);try exact trivial
  refine callee_view SortFunc90z ?_
  (repeat' ((conv=>whnf);first|(with_reducible first|apply spl|apply spl'|refine iJ ?_)<;>intro hc<;>try(exfalso;omega)|refine vcq ?_|fail));all_goals(try conv=>whnf);try exact trivial
  rintro _ rfl
  (repeat' ((conv=>whnf);first|(with_reducible first|apply spl|apply spl'|refine iJ ?_)<;>intro hc<;>try(exfalso;omega)|refine vcq ?_|fail));all_goals(try conv=>whnf);try exact trivial
  refine⟨_,_,⟨rfl,rfl⟩,some [some 0,some 1],?_⟩
  (repeat' ((conv=>whnf);first|(with_reducible first|apply spl|apply spl'|refine iJ ?_)<;>intro hc<;>try(exfalso;omega)|refine vcq ?_|fail));all_goals(try conv=>whnf);try exact trivial
  refine⟨fun _ _ _=>⟨Iff.rfl,fun _=>rfl⟩,?_⟩
  (repeat' ((conv=>whnf);first|(with_reducible first|apply spl|apply spl'|refine iJ ?_)<;>intro hc<;>try(exfalso;omega)|refine vcq ?_|fail));all_goals(try conv=>whnf);try exact trivial
end Tp
end Go.Proofs
