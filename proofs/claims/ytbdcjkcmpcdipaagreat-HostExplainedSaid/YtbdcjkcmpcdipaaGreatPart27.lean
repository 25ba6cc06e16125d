/- Own work: texts of the proof of a law (GwM1, GwM, GwT). No condition. -/
import Derived.Test.YtbdcjkcmpcdipaaGreatPart26
import Derived.Shelf.Sort.Plain
set_option linter.unusedVariables false
set_option linter.unusedSimpArgs false
namespace Go.Proofs
open Go Go.Shelf
set_option maxRecDepth 100000
set_option maxHeartbeats 40000000
def Tryz.lays189_ren:Go.Shelf.Ren:=⟨fun|189=>81|125=>74|257=>117|128=>112|129=>113|294=>145|295=>146|296=>147|297=>148|298=>149|299=>150|216=>151|300=>152|301=>153|328=>178|329=>141|330=>142|331=>179|332=>180|215=>162|343=>188|n=>n,fun|28=>38|3=>3|46=>118|0=>0|51=>159|53=>161|4=>4|183=>152|182=>151|131=>156|5=>5|9=>9|218=>192|222=>196|228=>220|229=>221|n=>n,fun|n=>n⟩
theorem Tryz.lays189:Go.Proofs.Lays.n189 Tryz.prog Tryz.lays189_ren:={
 mixed:=by kernel_rfl
 f125:=Tryz.func74.trans (congrArg some (by kernel_rfl))
 f128:=Tryz.func112.trans (congrArg some (by kernel_rfl))
 f129:=Tryz.func113.trans (congrArg some (by kernel_rfl))
 f189:=Tryz.func81.trans (congrArg some (by kernel_rfl))
 f215:=Tryz.func162.trans (congrArg some (by kernel_rfl))
 f216:=Tryz.func151.trans (congrArg some (by kernel_rfl))
 f257:=Tryz.func117.trans (congrArg some (by kernel_rfl))
 f294:=Tryz.func145.trans (congrArg some (by kernel_rfl))
 f295:=Tryz.func146.trans (congrArg some (by kernel_rfl))
 f296:=Tryz.func147.trans (congrArg some (by kernel_rfl))
 f297:=Tryz.func148.trans (congrArg some (by kernel_rfl))
 f298:=Tryz.func149.trans (congrArg some (by kernel_rfl))
 f299:=Tryz.func150.trans (congrArg some (by kernel_rfl))
 f300:=Tryz.func152.trans (congrArg some (by kernel_rfl))
 f301:=Tryz.func153.trans (congrArg some (by kernel_rfl))
 f328:=Tryz.func178.trans (congrArg some (by kernel_rfl))
 f329:=Tryz.func141.trans (congrArg some (by kernel_rfl))
 f330:=Tryz.func142.trans (congrArg some (by kernel_rfl))
 f331:=Tryz.func179.trans (congrArg some (by kernel_rfl))
 f332:=Tryz.func180.trans (congrArg some (by kernel_rfl))
 f343:=Tryz.func188.trans (congrArg some (by kernel_rfl))
 t0:=Tryz.underlying0
 a0:=Tryz.isAgg0
 z0:=Tryz.sizeOf0
 v0:=Tryz.zeroValue0
 t3:=Tryz.underlying3
 a3:=Tryz.isAgg3
 z3:=Tryz.sizeOf3
 v3:=Tryz.zeroValue3
 t4:=Tryz.underlying4
 a4:=Tryz.isAgg4
 z4:=Tryz.sizeOf4
 v4:=Tryz.zeroValue4
 t5:=Tryz.underlying5
 a5:=Tryz.isAgg5
 z5:=Tryz.sizeOf5
 v5:=Tryz.zeroValue5
 t9:=Tryz.underlying9
 a9:=Tryz.isAgg9
 z9:=Tryz.sizeOf9
 v9:=Tryz.zeroValue9
 t28:=Tryz.underlying38
 a28:=Tryz.isAgg38
 z28:=Tryz.sizeOf38
 v28:=Tryz.zeroValue38
 t46:=Tryz.underlying118
 a46:=Tryz.isAgg118
 z46:=Tryz.sizeOf118
 v46:=Tryz.zeroValue118
 t51:=Tryz.underlying159
 a51:=Tryz.isAgg159
 z51:=Tryz.sizeOf159
 v51:=Tryz.zeroValue159
 t53:=Tryz.underlying161
 a53:=Tryz.isAgg161
 z53:=Tryz.sizeOf161
 v53:=Tryz.zeroValue161
 t131:=Tryz.underlying156
 a131:=Tryz.isAgg156
 z131:=Tryz.sizeOf156
 v131:=Tryz.zeroValue156
 t182:=Tryz.underlying151
 a182:=Tryz.isAgg151
 z182:=Tryz.sizeOf151
 v182:=Tryz.zeroValue151
 t183:=Tryz.underlying152
 a183:=Tryz.isAgg152
 z183:=Tryz.sizeOf152
 v183:=Tryz.zeroValue152
 t218:=Tryz.underlying192
 a218:=Tryz.isAgg192
 z218:=Tryz.sizeOf192
 v218:=Tryz.zeroValue192
 t222:=Tryz.underlying196
 a222:=Tryz.isAgg196
 z222:=Tryz.sizeOf196
 v222:=Tryz.zeroValue196
 t228:=Tryz.underlying220
 a228:=Tryz.isAgg220
 z228:=Tryz.sizeOf220
 v228:=Tryz.zeroValue220
 t229:=Tryz.underlying221
 a229:=Tryz.isAgg221
 z229:=Tryz.sizeOf221
 v229:=Tryz.zeroValue221}
namespace Ho
open Go.Sx Go.Sort
theorem sortsI:SortsInt Tryz.prog 81:=fun blk cap l w hH hb hs=>Any.slices_Sort_int Tryz.lays189 blk 0 cap l w hH hb hs
end Ho
end Go.Proofs
namespace Go.Proofs
open Go Go.Sx
set_option maxRecDepth 100000
set_option maxHeartbeats 40000000
namespace Ho
theorem reads15 (h:Hist) (hf:h.Near) (b:Int):a0q Tryz.prog 23 true [h.w,.int .i64 b] (·=.tup [.sl 1 (h.ifB b (h.rd b.toNat)).length (a0u intC 0 (h.ifB b (h.rd b.toNat))),.int .i64 (h.errR b (h.rd b.toNat))]):=by
 have h40:=hf.1
 have hemp:h.errB b≠0→h.ifB b (h.rd b.toNat)=[]∧h.errR b (h.rd b.toNat)=h.errB b:=fun q=>by unfold Hist.ifB Hist.errR;exact⟨if_neg q,if_neg q⟩
 refine a0c Tryz.E_ok Tryz.func23 rfl (by kernel_rfl) ?_
 refine x1 ?_
 refine a2k Tryz.E_ok Tryz.func56 rfl (by kernel_rfl) ?_
 refine x1 ?_
 refine a0d (Check22 h (by omega)) rfl ?_
 rintro _ rfl
 refine x7 (fun hc=>?_) (fun hc=>?_)
 ·have hno:¬h.Ok:=fun g=>hc (Hist.chk_of g)
  have he:=Hist.errB_no hno b
  have hchk:h.chk=170:=if_neg hno
  obtain⟨e1,e2⟩:=hemp (by omega)
  rw[e1,e2,he,hchk]
  refine⟨_,rfl,?_⟩
  exact xc3
 ·have g:h.Ok:=Hist.chk_ok (a0T.1 hc)
  clear hc
  obtain⟨h2,h6⟩:=hf.2 g
  have hnn:=g.nn
  have hgn:=g.n
  refine x1 ?_
  refine a0d (within28 _ _ _) rfl ?_
  rintro _ rfl
  refine x7 (fun hc=>?_) (fun hc=>?_)
  ·have he:=Hist.errB_arg g (b:=b) (by omega)
   obtain⟨e1,e2⟩:=hemp (by omega)
   rw[e1,e2,he]
   refine⟨_,rfl,?_⟩
   exact xc3
  ·have hb:0≤b∧b≤h.n-1:=a0T.1 hc
   clear hc hemp
   have he:=Hist.errB_ok g hb
   have e1:h.ifB b (h.rd b.toNat)=lstOf (h.rd b.toNat):=if_pos he
   have e2:h.errR b (h.rd b.toNat)=if lstOf (h.rd b.toNat)=[] then 3 else 0:=if_pos he
   rw[e1,e2]
   clear e1 e2 he hf
   obtain⟨bn,rfl⟩:∃bn:Nat,b=bn:=⟨b.toNat,by omega⟩
   rw[a1N]
   have hbn:bn<h.nn:=by omega
   refine a0d (ends23 sortIm h g h2 h6) rfl ?_
   rintro _ ⟨L,hL,rfl⟩
   have hl:=hL.len
   have hmem:∀v,v∈L.flatMap (rdV h bn)↔h.rd bn v:=fun v=>by
    rw[List.mem_flatMap]
    constructor
    ·rintro⟨r,hr,hv⟩
     exact⟨r.st h,(hL.ends _).2 ⟨r,hr,rfl⟩,(a0L.1 hv).symm⟩
    ·rintro⟨s,hs,rfl⟩
     obtain⟨r,hr,rfl⟩:=(hL.ends s).1 hs
     exact⟨r,hr,a0L.2 rfl⟩
   have hrg:=fun v=>g.rd_range hbn (v:=v)
   refine x1 ?_
   refine⟨Nat×List Int,fun q=>q.1≤L.length∧q.2=(L.take q.1).flatMap (rdV h bn)∧q.2.length≤81*q.1,fun q=>L.length-q.1,fun q=>[(26,.int .i64 (q.1:Nat)),(9,.osl 3 q.2.length)],fun _=>[],fun q=>[.row 3 1 q.2.length (a0u intC 0 q.2) true],(0,[]),⟨⟨a2A _,by simp,by simp⟩,some [some 0,some 1,some 2,none],?_⟩,?_⟩
   ·exact xc3
   ·rintro⟨i,M⟩ ⟨hi,hM,hMl⟩
    dsimp only at hi hM hMl
    have hi0:((i:Nat):Int).toNat=i:=by omega
    have hMl2:M.length≤81*481890304:=by
     have:81*i≤81*481890304:=a3E _ (by omega)
     omega
    refine x24 (fun hc=>?_) (fun hc hc=>?_) (fun hc hc=>?_)
    ·have hil:i<L.length:=by dsimp only at hc;omega
     have ei:L.getD ((i:Nat):Int).toNat .root=L[i]:=by rw[hi0];simp[a0A,hil]
     have hk:Known h (L.getD ((i:Nat):Int).toNat .root):=⟨by rw[ei];exact hL.good _ (a1F hil),g,h2,h6⟩
     have hsn:M++rdV h bn (L.getD ((i:Nat):Int).toNat .root)=(L.take (i+1)).flatMap (rdV h bn):=by
      rw[ei,a1H hil,List.flatMap_append,hM]
      simp
     have hvl:(rdV h bn (L.getD ((i:Nat):Int).toNat .root)).length≤81:=by simp[rdV]
     dsimp only
     refine callee_view (reads33 h _ hk bn hbn) ?_
     generalize L.getD ((i:Nat):Int).toNat .root=r at *
     refine x1 ?_
     rintro _ rfl
     clear hk ei
     generalize rdV h bn r=Vr at *
     refine x1 ?_
     refine⟨(i+1,M++Vr),⟨⟨hil,hsn,by dsimp only;rw[List.length_append];omega⟩,by dsimp only;omega⟩,some [some 0,some 1,some 2,some 4],?_⟩
     refine x1 ?_
     refine⟨by dsimp only;rw[List.length_append],?_⟩
     refine x1 ?_
     refine⟨by dsimp only;rw[List.length_append],rowOf_app (c:=intC) (l:=M) (m:=Vr),?_⟩
     exact xc3
    ·obtain rfl:i=L.length:=by dsimp only at *;omega
     rw[a3B] at hM
     dsimp only at hc
     have hD:lstOf (h.rd bn)=[]:=by
      rw[a2O]
      intro v hv
      have:=(hmem v).2 (mem_lstOf.1 hv).2
      rw[←hM,List.length_eq_zero_iff.1 (show M.length=0 by omega)] at this
      cases this
     rw[hD]
     refine⟨_,rfl,?_⟩
     exact xc3
    ·obtain rfl:i=L.length:=by dsimp only at *;omega
     rw[a3B] at hM
     dsimp only at hc
     have hM0:0<M.length:=by omega
     refine a0e [3] (callee_sort (plain_of Tryz.func81 (by kernel_rfl) (by kernel_rfl)) sortsI (ty:=3) (l:=M) (nz:=true) hM0 (by omega)) rfl ?_ ?_
     ·exact xc3
     ·rintro _ _ ⟨rfl,rfl⟩
      have hms:=List.mergeSort_perm M (fun x y=>decide (x≤y))
      have hmp:(M.mergeSort fun x y=>decide (x≤y)).Pairwise (·≤·):=(List.pairwise_mergeSort (le:=fun x y:Int=>decide (x≤y)) (fun a b c p q=>by rw[decide_eq_true_iff] at *;omega) (fun a b=>by rw[a2P,decide_eq_true_iff,decide_eq_true_iff];omega) M).imp fun p=>by rwa [decide_eq_true_iff] at p
      generalize (M.mergeSort fun x y=>decide (x≤y))=S at *
      have hSl:=hms.length_eq
      refine x1 ?_
      refine a0e [3] (compact46 S hmp (by omega) (by omega)) rfl ?_ ?_
      ·exact xc3
      ·rintro _ _ ⟨D,hD,rfl,rfl⟩
       have hDl:D=lstOf (h.rd bn):=eq_lstOf hD.asc (fun v=>by rw[hD.mem,a3B,hms.mem_iff,hM,hmem]) hrg
       have hD0:D≠[]:=fun e=>by
        have:=(hD.mem (S[0]'(by omega))).2 (by rw[a3B];exact a1F _)
        rw[e] at this
        cases this
       rw[←hDl,if_neg hD0]
       refine x1 ?_
       refine⟨_,rfl,?_⟩
       exact xc3
       all_goals(refine⟨fun i _=>rfl,?_⟩;(repeat' ((conv=>whnf);first|(with_reducible first|apply spl|apply spl'|refine iJ ?_)<;>intro hc<;>try(exfalso;omega)|refine vcq ?_|fail));all_goals((try conv=>whnf);try exact trivial))
theorem example21:a0q Tryz.prog 33 false [] (·=.tup [exH.w,exJ.w]):=by
 refine a0c Tryz.E_ok Tryz.func33 rfl (by kernel_rfl) ?_
 refine x11 ?_
 refine⟨_,rfl,?_⟩
 refine x11 ?_
 refine⟨fun i hi=>?_,.inr fun i _=>rfl,?_⟩
 ·have:i=0∨i=1∨i=2∨i=3:=by omega
  rcases this with rfl|rfl|rfl|rfl<;>rfl
 refine x11 ?_
 refine⟨fun i hi=>?_,.inr fun i _=>rfl,?_⟩
 ·have:i=0∨i=1∨i=2:=by omega
  rcases this with rfl|rfl|rfl<;>rfl
 exact xc22
theorem prop_true {p:Prop} {d:Decidable p} (h:p):V.prop p d=V.prop True inferInstance:=by
 have e:p=True:=eq_true h
 subst e
 exact congrArg (V.prop True) (Subsingleton.elim _ _)
theorem exH_near:exH.Near:=⟨by decide,fun _=>by decide⟩
theorem exJ_near:exJ.Near:=⟨by decide,fun _=>by decide⟩
theorem works8:a0q Tryz.prog 10 false [] (·=.prop True inferInstance):=by
 have h1:a0q Tryz.prog 16 false [exH.w] (·=.tup [.prop True inferInstance,.int .i64 0]):=(legal9 exH exH_near).mono fun v e=>by
  rw[e,prop_true ⟨exH_ok,exH_legal⟩,Hist.chk_of exH_ok]
 have h2:a0q Tryz.prog 18 false [exJ.w] (·=.tup [.int .i64 2,.int .i64 0]):=(lie10v exJ exJ_near).mono fun v e=>by
  rw[e,if_pos (Hist.chk_of exJ_ok),Hist.chk_of exJ_ok,←exJ_ok.lie_eq exJ_lie]
 have h3:a0q Tryz.prog 23 true [exH.w,.int .i64 0] (·=.tup [.sl 1 1 (a0u intC 0 [5]),.int .i64 0]):=(reads15 exH exH_near 0).mono fun v e=>by
  have e0:exH.errB 0=0:=Hist.errB_ok exH_ok (by decide)
  have e1:exH.ifB 0 (exH.rd (0:Int).toNat)=[5]:=by unfold Hist.ifB;rw[if_pos e0];exact exH_lst
  have e2:exH.errR 0 (exH.rd (0:Int).toNat)=0:=by
   unfold Hist.errR
   rw[if_pos e0,if_neg]
   rw[show lstOf (exH.rd (0:Int).toNat)=[5] from exH_lst]
   simp
  rw[e,e1,e2]
  rfl
 have h4:a0q Tryz.prog 14 true [exH.w,.int .i64 2] (·=.tup [Hist.w ⟨1,[⟨1,0,5,1,-1⟩,⟨10,0,0,2,-1⟩]⟩,.int .i64 0]):=(Until11 exH (by decide) 2).mono fun v e=>e.1 exH_ok (by decide)
 have h5:=same17 [5] [5] (by decide) (by decide)
 refine a0c Tryz.E_ok Tryz.func10 rfl (by kernel_rfl) ?_
 refine x11 ?_
 refine a0d example21 rfl ?_
 rintro _ rfl
 refine x11 ?_
 refine a0d h1 rfl ?_
 rintro _ rfl
 refine x11 ?_
 refine a0d h2 rfl ?_
 rintro _ rfl
 refine x11 ?_
 refine a0d h3 rfl ?_
 rintro _ rfl
 refine x11 ?_
 refine a0d h4 rfl ?_
 rintro _ rfl
 refine x23 (fun hc=>?_) (fun hc=>?_)
 ·refine callee_view h5 ?_
  refine x11 ?_
  refine⟨fun i hi=>?_,?_⟩
  ·obtain rfl:i=0:=by omega
   rfl
  refine x11 ?_
  rintro _ rfl
  refine x11 ?_
  refine⟨_,rfl,?_⟩
  exact⟨by simp,trivial⟩
 ·exact absurd (by decide) hc
end Ho
end Go.Proofs
