/- Own work: texts of the proof of a law (HwM1, HwM, HwT). No condition. -/
import Derived.Test.YtbdcjkcmpcdipaaPart26
import Derived.Shelf.Sort.Plain
namespace Go.Proofs
open Go Go.Shelf
set_option maxRecDepth 100000
set_option maxHeartbeats 40000000
def Try.lays189_ren:Go.Shelf.Ren:=⟨fun|189=>45|125=>44|257=>70|128=>68|129=>69|294=>82|295=>83|296=>84|297=>85|298=>86|299=>87|216=>88|300=>89|301=>90|328=>101|329=>78|330=>79|331=>102|332=>103|215=>99|343=>107|n=>n,fun|28=>40|3=>3|46=>77|0=>0|51=>106|53=>108|4=>4|183=>99|182=>98|131=>103|5=>5|9=>9|218=>116|222=>120|228=>133|229=>134|n=>n,fun|n=>n⟩
theorem Try.lays189:Go.Proofs.Lays.n189 Try.prog Try.lays189_ren:={
 mixed:=by kernel_rfl
 f125:=Try.func44.trans (congrArg some (by kernel_rfl))
 f128:=Try.func68.trans (congrArg some (by kernel_rfl))
 f129:=Try.func69.trans (congrArg some (by kernel_rfl))
 f189:=Try.func45.trans (congrArg some (by kernel_rfl))
 f215:=Try.func99.trans (congrArg some (by kernel_rfl))
 f216:=Try.func88.trans (congrArg some (by kernel_rfl))
 f257:=Try.func70.trans (congrArg some (by kernel_rfl))
 f294:=Try.func82.trans (congrArg some (by kernel_rfl))
 f295:=Try.func83.trans (congrArg some (by kernel_rfl))
 f296:=Try.func84.trans (congrArg some (by kernel_rfl))
 f297:=Try.func85.trans (congrArg some (by kernel_rfl))
 f298:=Try.func86.trans (congrArg some (by kernel_rfl))
 f299:=Try.func87.trans (congrArg some (by kernel_rfl))
 f300:=Try.func89.trans (congrArg some (by kernel_rfl))
 f301:=Try.func90.trans (congrArg some (by kernel_rfl))
 f328:=Try.func101.trans (congrArg some (by kernel_rfl))
 f329:=Try.func78.trans (congrArg some (by kernel_rfl))
 f330:=Try.func79.trans (congrArg some (by kernel_rfl))
 f331:=Try.func102.trans (congrArg some (by kernel_rfl))
 f332:=Try.func103.trans (congrArg some (by kernel_rfl))
 f343:=Try.func107.trans (congrArg some (by kernel_rfl))
 t0:=Try.underlying0
 a0:=Try.isAgg0
 z0:=Try.sizeOf0
 v0:=Try.zeroValue0
 t3:=Try.underlying3
 a3:=Try.isAgg3
 z3:=Try.sizeOf3
 v3:=Try.zeroValue3
 t4:=Try.underlying4
 a4:=Try.isAgg4
 z4:=Try.sizeOf4
 v4:=Try.zeroValue4
 t5:=Try.underlying5
 a5:=Try.isAgg5
 z5:=Try.sizeOf5
 v5:=Try.zeroValue5
 t9:=Try.underlying9
 a9:=Try.isAgg9
 z9:=Try.sizeOf9
 v9:=Try.zeroValue9
 t28:=Try.underlying40
 a28:=Try.isAgg40
 z28:=Try.sizeOf40
 v28:=Try.zeroValue40
 t46:=Try.underlying77
 a46:=Try.isAgg77
 z46:=Try.sizeOf77
 v46:=Try.zeroValue77
 t51:=Try.underlying106
 a51:=Try.isAgg106
 z51:=Try.sizeOf106
 v51:=Try.zeroValue106
 t53:=Try.underlying108
 a53:=Try.isAgg108
 z53:=Try.sizeOf108
 v53:=Try.zeroValue108
 t131:=Try.underlying103
 a131:=Try.isAgg103
 z131:=Try.sizeOf103
 v131:=Try.zeroValue103
 t182:=Try.underlying98
 a182:=Try.isAgg98
 z182:=Try.sizeOf98
 v182:=Try.zeroValue98
 t183:=Try.underlying99
 a183:=Try.isAgg99
 z183:=Try.sizeOf99
 v183:=Try.zeroValue99
 t218:=Try.underlying116
 a218:=Try.isAgg116
 z218:=Try.sizeOf116
 v218:=Try.zeroValue116
 t222:=Try.underlying120
 a222:=Try.isAgg120
 z222:=Try.sizeOf120
 v222:=Try.zeroValue120
 t228:=Try.underlying133
 a228:=Try.isAgg133
 z228:=Try.sizeOf133
 v228:=Try.zeroValue133
 t229:=Try.underlying134
 a229:=Try.isAgg134
 z229:=Try.sizeOf134
 v229:=Try.zeroValue134}
namespace Ho
open Go.Sx Go.Sort
theorem sortsI:SortsInt Try.prog 45:=fun blk cap l w hH hb hs=>Any.slices_Sort_int Try.lays189 blk 0 cap l w hH hb hs
end Ho
end Go.Proofs
namespace Go.Proofs
open Go Go.Sx
set_option maxRecDepth 100000
set_option maxHeartbeats 40000000
namespace Ho
theorem reads15 (h:Hist) (hf:h.Near) (b:Int):a0o Try.prog 15 true [h.w,.int .i64 b] (·=.tup [.sl 1 (h.ifB b (h.rd b.toNat)).length (a0u intC 0 (h.ifB b (h.rd b.toNat))),.int .i64 (h.errR b (h.rd b.toNat))]):=by
 have h40:=hf.1
 have hemp:h.errB b≠0→h.ifB b (h.rd b.toNat)=[]∧h.errR b (h.rd b.toNat)=h.errB b:=fun q=>by unfold Hist.ifB Hist.errR;exact⟨if_neg q,if_neg q⟩
 refine a0b Try.E_ok Try.func15 rfl (by kernel_rfl) ?_
 (repeat' ((conv=>whnf);first|(with_reducible first|apply spl|apply spl'|refine iJ ?_)<;>intro hc<;>try(exfalso;omega)|refine vcq ?_|fail));all_goals(try conv=>whnf);try exact trivial
 refine a2b Try.E_ok Try.func32 rfl (by kernel_rfl) ?_
 (repeat' ((conv=>whnf);first|(with_reducible first|apply spl|apply spl'|refine iJ ?_)<;>intro hc<;>try(exfalso;omega)|refine vcq ?_|fail));all_goals(try conv=>whnf);try exact trivial
 refine a0d (Check22 h (by omega)) rfl ?_
 rintro _ rfl
 (repeat' ((conv=>whnf);first|(with_reducible first|apply spl|apply spl'|refine iJ ?_)<;>intro hc<;>try(exfalso;omega)|refine vcq ?_|fail));all_goals(try conv=>whnf);try exact trivial
 ·have hno:¬h.Ok:=fun g=>hc (Hist.chk_of g)
  have he:=Hist.errB_no hno b
  have hchk:h.chk=170:=if_neg hno
  obtain⟨e1,e2⟩:=hemp (by omega)
  rw[e1,e2,he,hchk]
  refine⟨_,rfl,?_⟩
  (repeat' ((conv=>whnf);first|(with_reducible first|apply spl|apply spl'|refine iJ ?_)<;>intro hc<;>try(exfalso;omega)|refine vcq ?_|fail));all_goals(try conv=>whnf);try exact trivial
 ·have g:h.Ok:=Hist.chk_ok (Classical.not_not.1 hc)
  clear hc
  obtain⟨h2,h6⟩:=hf.2 g
  have hnn:=g.nn
  have hgn:=g.n
  (repeat' ((conv=>whnf);first|(with_reducible first|apply spl|apply spl'|refine iJ ?_)<;>intro hc<;>try(exfalso;omega)|refine vcq ?_|fail));all_goals(try conv=>whnf);try exact trivial
  refine a0d (within28 _ _ _) rfl ?_
  rintro _ rfl
  (repeat' ((conv=>whnf);first|(with_reducible first|apply spl|apply spl'|refine iJ ?_)<;>intro hc<;>try(exfalso;omega)|refine vcq ?_|fail));all_goals(try conv=>whnf);try exact trivial
  ·have he:=Hist.errB_arg g (b:=b) (by omega)
   obtain⟨e1,e2⟩:=hemp (by omega)
   rw[e1,e2,he]
   refine⟨_,rfl,?_⟩
   (repeat' ((conv=>whnf);first|(with_reducible first|apply spl|apply spl'|refine iJ ?_)<;>intro hc<;>try(exfalso;omega)|refine vcq ?_|fail));all_goals(try conv=>whnf);try exact trivial
  ·have hb:0≤b∧b≤h.n-1:=Classical.not_not.1 hc
   clear hc hemp
   have he:=Hist.errB_ok g hb
   have e1:h.ifB b (h.rd b.toNat)=lstOf (h.rd b.toNat):=if_pos he
   have e2:h.errR b (h.rd b.toNat)=if lstOf (h.rd b.toNat)=[] then 3 else 0:=if_pos he
   rw[e1,e2]
   clear e1 e2 he hf
   obtain⟨bn,rfl⟩:∃bn:Nat,b=bn:=⟨b.toNat,by omega⟩
   rw[Int.toNat_natCast]
   have hbn:bn<h.nn:=by omega
   refine a0d (ends23 sortIm h g h2 h6) rfl ?_
   rintro _ ⟨L,hL,rfl⟩
   have hl:=hL.len
   have hmem:∀v,v∈L.flatMap (rdV h bn)↔h.rd bn v:=fun v=>by
    rw[List.mem_flatMap]
    constructor
    ·rintro⟨r,hr,hv⟩
     exact⟨r.st h,(hL.ends _).2 ⟨r,hr,rfl⟩,(List.mem_singleton.1 hv).symm⟩
    ·rintro⟨s,hs,rfl⟩
     obtain⟨r,hr,rfl⟩:=(hL.ends s).1 hs
     exact⟨r,hr,List.mem_singleton.2 rfl⟩
   have hrg:=fun v=>g.rd_range hbn (v:=v)
   (repeat' ((conv=>whnf);first|(with_reducible first|apply spl|apply spl'|refine iJ ?_)<;>intro hc<;>try(exfalso;omega)|refine vcq ?_|fail));all_goals(try conv=>whnf);try exact trivial
   refine⟨Nat×List Int,fun q=>q.1≤L.length∧q.2=(L.take q.1).flatMap (rdV h bn)∧q.2.length≤81*q.1,fun q=>L.length-q.1,fun q=>[(26,.int .i64 (q.1:Nat)),(9,.osl 3 q.2.length)],fun _=>[],fun q=>[.row 3 1 q.2.length (a0u intC 0 q.2) true],(0,[]),⟨⟨Nat.zero_le _,by simp,by simp⟩,some [some 0,some 1,some 2,none],?_⟩,?_⟩
   ·(repeat' ((conv=>whnf);first|(with_reducible first|apply spl|apply spl'|refine iJ ?_)<;>intro hc<;>try(exfalso;omega)|refine vcq ?_|fail));all_goals(try conv=>whnf);try exact trivial
   ·rintro⟨i,M⟩ ⟨hi,hM,hMl⟩
    dsimp only at hi hM hMl
    have hi0:((i:Nat):Int).toNat=i:=by omega
    have hMl2:M.length≤81*481890304:=by
     have:81*i≤81*481890304:=Nat.mul_le_mul_left _ (by omega)
     omega
    (repeat' ((conv=>whnf);first|(with_reducible first|apply spl|apply spl'|refine iJ ?_)<;>intro hc<;>try(exfalso;omega)|refine vcq ?_|fail));all_goals(try conv=>whnf);try exact trivial
    ·have hil:i<L.length:=by dsimp only at hc;omega
     have ei:L.getD ((i:Nat):Int).toNat .root=L[i]:=by rw[hi0];simp[List.getD_eq_getElem?_getD,hil]
     have hk:Known h (L.getD ((i:Nat):Int).toNat .root):=⟨by rw[ei];exact hL.good _ (List.getElem_mem hil),g,h2,h6⟩
     have hsn:M++rdV h bn (L.getD ((i:Nat):Int).toNat .root)=(L.take (i+1)).flatMap (rdV h bn):=by
      rw[ei,List.take_succ_eq_append_getElem hil,List.flatMap_append,hM]
      simp
     have hvl:(rdV h bn (L.getD ((i:Nat):Int).toNat .root)).length≤81:=by simp[rdV]
     dsimp only
     refine callee_view (reads33 h _ hk bn hbn) ?_
     generalize L.getD ((i:Nat):Int).toNat .root=r at *
     (repeat' ((conv=>whnf);first|(with_reducible first|apply spl|apply spl'|refine iJ ?_)<;>intro hc<;>try(exfalso;omega)|refine vcq ?_|fail));all_goals(try conv=>whnf);try exact trivial
     rintro _ rfl
     clear hk ei
     generalize rdV h bn r=Vr at *
     (repeat' ((conv=>whnf);first|(with_reducible first|apply spl|apply spl'|refine iJ ?_)<;>intro hc<;>try(exfalso;omega)|refine vcq ?_|fail));all_goals(try conv=>whnf);try exact trivial
     refine⟨(i+1,M++Vr),⟨⟨hil,hsn,by dsimp only;rw[List.length_append];omega⟩,by dsimp only;omega⟩,some [some 0,some 1,some 2,some 4],?_⟩
     (repeat' ((conv=>whnf);first|(with_reducible first|apply spl|apply spl'|refine iJ ?_)<;>intro hc<;>try(exfalso;omega)|refine vcq ?_|fail));all_goals(try conv=>whnf);try exact trivial
     refine⟨by dsimp only;rw[List.length_append],?_⟩
     (repeat' ((conv=>whnf);first|(with_reducible first|apply spl|apply spl'|refine iJ ?_)<;>intro hc<;>try(exfalso;omega)|refine vcq ?_|fail));all_goals(try conv=>whnf);try exact trivial
     refine⟨by dsimp only;rw[List.length_append],rowOf_app (c:=intC) (l:=M) (m:=Vr),?_⟩
     (repeat' ((conv=>whnf);first|(with_reducible first|apply spl|apply spl'|refine iJ ?_)<;>intro hc<;>try(exfalso;omega)|refine vcq ?_|fail));all_goals(try conv=>whnf);try exact trivial
    ·obtain rfl:i=L.length:=by dsimp only at *;omega
     rw[List.take_length] at hM
     dsimp only at hc
     have hD:lstOf (h.rd bn)=[]:=by
      rw[List.eq_nil_iff_forall_not_mem]
      intro v hv
      have:=(hmem v).2 (mem_lstOf.1 hv).2
      rw[←hM,List.length_eq_zero_iff.1 (show M.length=0 by omega)] at this
      cases this
     rw[hD]
     refine⟨_,rfl,?_⟩
     (repeat' ((conv=>whnf);first|(with_reducible first|apply spl|apply spl'|refine iJ ?_)<;>intro hc<;>try(exfalso;omega)|refine vcq ?_|fail));all_goals(try conv=>whnf);try exact trivial
    ·obtain rfl:i=L.length:=by dsimp only at *;omega
     rw[List.take_length] at hM
     dsimp only at hc
     have hM0:0<M.length:=by omega
     refine a0e [3] (callee_sort (plain_of Try.func45 (by kernel_rfl) (by kernel_rfl)) sortsI (ty:=3) (l:=M) (nz:=true) hM0 (by omega)) rfl ?_ ?_
     ·(repeat' ((conv=>whnf);first|(with_reducible first|apply spl|apply spl'|refine iJ ?_)<;>intro hc<;>try(exfalso;omega)|refine vcq ?_|fail));all_goals(try conv=>whnf);try exact trivial
     ·rintro _ _ ⟨rfl,rfl⟩
      have hms:=List.mergeSort_perm M (fun x y=>decide (x≤y))
      have hmp:(M.mergeSort fun x y=>decide (x≤y)).Pairwise (·≤·):=(List.pairwise_mergeSort (le:=fun x y:Int=>decide (x≤y)) (fun a b c p q=>by rw[decide_eq_true_iff] at *;omega) (fun a b=>by rw[Bool.or_eq_true,decide_eq_true_iff,decide_eq_true_iff];omega) M).imp fun p=>by rwa [decide_eq_true_iff] at p
      generalize (M.mergeSort fun x y=>decide (x≤y))=S at *
      have hSl:=hms.length_eq
      (repeat' ((conv=>whnf);first|(with_reducible first|apply spl|apply spl'|refine iJ ?_)<;>intro hc<;>try(exfalso;omega)|refine vcq ?_|fail));all_goals(try conv=>whnf);try exact trivial
      refine a0e [3] (compact46 S hmp (by omega) (by omega)) rfl ?_ ?_
      ·(repeat' ((conv=>whnf);first|(with_reducible first|apply spl|apply spl'|refine iJ ?_)<;>intro hc<;>try(exfalso;omega)|refine vcq ?_|fail));all_goals(try conv=>whnf);try exact trivial
      ·rintro _ _ ⟨D,hD,rfl,rfl⟩
       have hDl:D=lstOf (h.rd bn):=eq_lstOf hD.asc (fun v=>by rw[hD.mem,List.take_length,hms.mem_iff,hM,hmem]) hrg
       have hD0:D≠[]:=fun e=>by
        have:=(hD.mem (S[0]'(by omega))).2 (by rw[List.take_length];exact List.getElem_mem _)
        rw[e] at this
        cases this
       rw[←hDl,if_neg hD0]
       (repeat' ((conv=>whnf);first|(with_reducible first|apply spl|apply spl'|refine iJ ?_)<;>intro hc<;>try(exfalso;omega)|refine vcq ?_|fail));all_goals(try conv=>whnf);try exact trivial
       refine⟨_,rfl,?_⟩
       (repeat' ((conv=>whnf);first|(with_reducible first|apply spl|apply spl'|refine iJ ?_)<;>intro hc<;>try(exfalso;omega)|refine vcq ?_|fail));all_goals(try conv=>whnf);try exact trivial
       all_goals(refine⟨fun i _=>rfl,?_⟩;(repeat' ((conv=>whnf);first|(with_reducible first|apply spl|apply spl'|refine iJ ?_)<;>intro hc<;>try(exfalso;omega)|refine vcq ?_|fail));all_goals((try conv=>whnf);try exact trivial))
end Ho
namespace Ho
theorem example21:a0o Try.prog 21 false [] (·=.tup [exH.w,exJ.w]):=by
 refine a0b Try.E_ok Try.func21 rfl (by kernel_rfl) ?_
 (repeat' ((conv=>whnf);first|(with_reducible first|apply spl|apply spl'|refine iJ ?_)<;>intro hc<;>try(exfalso;omega)|refine vcq ?_|refine dr 2002 ?_));all_goals(try conv=>whnf);try exact trivial
 refine⟨_,rfl,?_⟩
 (repeat' ((conv=>whnf);first|(with_reducible first|apply spl|apply spl'|refine iJ ?_)<;>intro hc<;>try(exfalso;omega)|refine vcq ?_|refine dr 2002 ?_));all_goals(try conv=>whnf);try exact trivial
 refine⟨fun i hi=>?_,.inr fun i _=>rfl,?_⟩
 ·have:i=0∨i=1∨i=2∨i=3:=by omega
  rcases this with rfl|rfl|rfl|rfl<;>rfl
 (repeat' ((conv=>whnf);first|(with_reducible first|apply spl|apply spl'|refine iJ ?_)<;>intro hc<;>try(exfalso;omega)|refine vcq ?_|refine dr 2002 ?_));all_goals(try conv=>whnf);try exact trivial
 refine⟨fun i hi=>?_,.inr fun i _=>rfl,?_⟩
 ·have:i=0∨i=1∨i=2:=by omega
  rcases this with rfl|rfl|rfl<;>rfl
 (repeat' ((conv=>whnf);first|(with_reducible first|apply spl|apply spl'|refine iJ ?_)<;>intro hc<;>try(exfalso;omega)|refine vcq ?_|refine dr 2002 ?_));all_goals(try conv=>whnf);try exact trivial
theorem prop_true {p:Prop} {d:Decidable p} (h:p):V.prop p d=V.prop True inferInstance:=by
 have e:p=True:=eq_true h
 subst e
 exact congrArg (V.prop True) (Subsingleton.elim _ _)
theorem exH_near:exH.Near:=⟨by decide,fun _=>by decide⟩
theorem exJ_near:exJ.Near:=⟨by decide,fun _=>by decide⟩
theorem works8:a0o Try.prog 8 false [] (·=.prop True inferInstance):=by
 have h1:a0o Try.prog 9 false [exH.w] (·=.tup [.prop True inferInstance,.int .i64 0]):=(legal9 exH exH_near).mono fun v e=>by
  rw[e,prop_true ⟨exH_ok,exH_legal⟩,Hist.chk_of exH_ok]
 have h2:a0o Try.prog 10 false [exJ.w] (·=.tup [.int .i64 2,.int .i64 0]):=(lie10v exJ exJ_near).mono fun v e=>by
  rw[e,if_pos (Hist.chk_of exJ_ok),Hist.chk_of exJ_ok,←exJ_ok.lie_eq exJ_lie]
 have h3:a0o Try.prog 15 true [exH.w,.int .i64 0] (·=.tup [.sl 1 1 (a0u intC 0 [5]),.int .i64 0]):=(reads15 exH exH_near 0).mono fun v e=>by
  have e0:exH.errB 0=0:=Hist.errB_ok exH_ok (by decide)
  have e1:exH.ifB 0 (exH.rd (0:Int).toNat)=[5]:=by unfold Hist.ifB;rw[if_pos e0];exact exH_lst
  have e2:exH.errR 0 (exH.rd (0:Int).toNat)=0:=by
   unfold Hist.errR
   rw[if_pos e0,if_neg]
   rw[show lstOf (exH.rd (0:Int).toNat)=[5] from exH_lst]
   simp
  rw[e,e1,e2]
  rfl
 have h4:a0o Try.prog 11 true [exH.w,.int .i64 2] (·=.tup [Hist.w ⟨1,[⟨1,0,5,1,-1⟩,⟨10,0,0,2,-1⟩]⟩,.int .i64 0]):=(Until11 exH (by decide) 2).mono fun v e=>e.1 exH_ok (by decide)
 have h5:=same17 [5] [5] (by decide) (by decide)
 refine a0b Try.E_ok Try.func8 rfl (by kernel_rfl) ?_
 (repeat' ((conv=>whnf);first|(with_reducible first|apply spl|apply spl'|refine iJ ?_)<;>intro hc<;>try(exfalso;omega)|refine vcq ?_|refine dr 2002 ?_));all_goals(try conv=>whnf);try exact trivial
 refine a0d example21 rfl ?_
 rintro _ rfl
 (repeat' ((conv=>whnf);first|(with_reducible first|apply spl|apply spl'|refine iJ ?_)<;>intro hc<;>try(exfalso;omega)|refine vcq ?_|refine dr 2002 ?_));all_goals(try conv=>whnf);try exact trivial
 refine a0d h1 rfl ?_
 rintro _ rfl
 (repeat' ((conv=>whnf);first|(with_reducible first|apply spl|apply spl'|refine iJ ?_)<;>intro hc<;>try(exfalso;omega)|refine vcq ?_|refine dr 2002 ?_));all_goals(try conv=>whnf);try exact trivial
 refine a0d h2 rfl ?_
 rintro _ rfl
 (repeat' ((conv=>whnf);first|(with_reducible first|apply spl|apply spl'|refine iJ ?_)<;>intro hc<;>try(exfalso;omega)|refine vcq ?_|refine dr 2002 ?_));all_goals(try conv=>whnf);try exact trivial
 refine a0d h3 rfl ?_
 rintro _ rfl
 (repeat' ((conv=>whnf);first|(with_reducible first|apply spl|apply spl'|refine iJ ?_)<;>intro hc<;>try(exfalso;omega)|refine vcq ?_|refine dr 2002 ?_));all_goals(try conv=>whnf);try exact trivial
 refine a0d h4 rfl ?_
 rintro _ rfl
 (repeat' ((conv=>whnf);first|(with_reducible first|apply spl|apply spl'|refine iJ ?_)<;>intro hc<;>try(exfalso;omega)|refine vcq ?_|refine dr 2002 ?_));all_goals(try conv=>whnf);try exact trivial
 ·refine callee_view h5 ?_
  (repeat' ((conv=>whnf);first|(with_reducible first|apply spl|apply spl'|refine iJ ?_)<;>intro hc<;>try(exfalso;omega)|refine vcq ?_|refine dr 2002 ?_));all_goals(try conv=>whnf);try exact trivial
  refine⟨fun i hi=>?_,?_⟩
  ·obtain rfl:i=0:=by omega
   rfl
  (repeat' ((conv=>whnf);first|(with_reducible first|apply spl|apply spl'|refine iJ ?_)<;>intro hc<;>try(exfalso;omega)|refine vcq ?_|refine dr 2002 ?_));all_goals(try conv=>whnf);try exact trivial
  rintro _ rfl
  (repeat' ((conv=>whnf);first|(with_reducible first|apply spl|apply spl'|refine iJ ?_)<;>intro hc<;>try(exfalso;omega)|refine vcq ?_|refine dr 2002 ?_));all_goals(try conv=>whnf);try exact trivial
  refine⟨_,rfl,?_⟩
  exact⟨by simp,trivial⟩
 ·exact absurd (by decide) hc
end Ho
end Go.Proofs
