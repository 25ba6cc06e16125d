/- Own work: texts of the proof of a law (GwLL, GwN). No condition. -/
import Derived.Test.YtbdcjkcmpcdipaaGreatPart29
import Derived.Test.YtbdcjkcmpcdipaaGreatRows
import Derived.WalkKit
import Derived.ProofKit
import Derived.JoinedCond
set_option linter.unusedVariables false
set_option linter.unusedSimpArgs false
namespace Go.Proofs
open Go Go.Sx Go.Proofs.YtbdcjkcmpcdipaaGreat
set_option maxRecDepth 100000
theorem ownKnob_none:ownKnob Tryz.prog.godebug=none:=by kernel_rfl
theorem under4:Tryz.prog.underlying 4=some .bool:=by kernel_rfl
namespace Ho
def tsCmd:TS:=.struct [.int .i64,.int .i64,.int .i64,.int .i64,.int .i64]
def tsHist:TS:=.struct [.int .i64,.slice tsCmd]
def zI:Value:=.int .i64 0
def zeroHist:Value:=.agg #[zI,.slice none 0 0]
def toC (l:List (Int×Int×Int×Int×Int×Unit)):List Cmd:=l.map fun x=>⟨x.1,x.2.1,x.2.2.1,x.2.2.2.1,x.2.2.2.2.1⟩
theorem toC_length (l:List (Int×Int×Int×Int×Int×Unit)):l.length=(toC l).length:=by simp[toC]
theorem toC_le (l:List (Int×Int×Int×Int×Int×Unit)) (h:l.length≤maxLen):(toC l).length≤9223372036854775807:=by
 rw[←toC_length]
 exact Nat.le_trans h (by decide)
theorem rowC (l:List (Int×Int×Int×Int×Int×Unit)) (i:Nat):a0u (TS.enc tsCmd) (TS.dflt tsCmd) l i=a0u Cmd.c c0 (toC l) i:=by
 have h:∀x:Int×Int×Int×Int×Int×Unit,TS.enc tsCmd x=Cmd.c ⟨x.1,x.2.1,x.2.2.1,x.2.2.2.1,x.2.2.2.2.1⟩:=fun _=>rfl
 have h2:(toC l).getD i c0=(fun x:Int×Int×Int×Int×Int×Unit=>(⟨x.1,x.2.1,x.2.2.1,x.2.2.2.1,x.2.2.2.2.1⟩:Cmd)) (l.getD i (0,0,0,0,0,())):=by
  unfold toC
  rw[List.getD_eq_getElem?_getD,List.getD_eq_getElem?_getD,List.getElem?_map]
  cases l[i]?<;>rfl
 show TS.enc tsCmd (l.getD i (0,0,0,0,0,()))=Cmd.c ((toC l).getD i c0)
 rw[h2,h]
end Ho
end Go.Proofs
namespace Go.Proofs
open Go Go.Sx
set_option maxRecDepth 100000
set_option maxHeartbeats 40000000
namespace Ho
theorem falls19 (h:Hist) (hf:h.Near) (b:Int):a0o Tryz.prog 24 true [h.w,.int .i64 b] (·=.tup [.sl 1 (h.ifB b (h.fl b.toNat)).length (a0u intC 0 (h.ifB b (h.fl b.toNat))),.int .i64 (h.errR b (h.fl b.toNat))]):=by
 have h40:=hf.1
 have hemp:h.errB b≠0→h.ifB b (h.fl b.toNat)=[]∧h.errR b (h.fl b.toNat)=h.errB b:=fun q=>by unfold Hist.ifB Hist.errR;exact⟨if_neg q,if_neg q⟩
 refine a0b Tryz.E_ok Tryz.func24 rfl (by kernel_rfl) ?_
 refine x0 ?_
 refine a2c Tryz.E_ok Tryz.func56 rfl (by kernel_rfl) ?_
 refine x0 ?_
 refine a0d (Check22 h (by omega)) rfl ?_
 rintro _ rfl
 refine x7 (fun hc=>?_) (fun hc=>?_)
 ·have hno:¬h.Ok:=fun g=>hc (Hist.chk_of g)
  have he:=Hist.errB_no hno b
  have hchk:h.chk=170:=if_neg hno
  obtain⟨e1,e2⟩:=hemp (by omega)
  rw[e1,e2,he,hchk]
  refine⟨_,rfl,?_⟩
  exact xc2
 ·have g:h.Ok:=Hist.chk_ok (Classical.not_not.1 hc)
  clear hc
  obtain⟨h2,h6⟩:=hf.2 g
  have hnn:=g.nn
  have hgn:=g.n
  refine x0 ?_
  refine a0d (within28 _ _ _) rfl ?_
  rintro _ rfl
  refine x7 (fun hc=>?_) (fun hc=>?_)
  ·have he:=Hist.errB_arg g (b:=b) (by omega)
   obtain⟨e1,e2⟩:=hemp (by omega)
   rw[e1,e2,he]
   refine⟨_,rfl,?_⟩
   exact xc2
  ·have hb:0≤b∧b≤h.n-1:=Classical.not_not.1 hc
   clear hc hemp
   have he:=Hist.errB_ok g hb
   have e1:h.ifB b (h.fl b.toNat)=lstOf (h.fl b.toNat):=if_pos he
   have e2:h.errR b (h.fl b.toNat)=if lstOf (h.fl b.toNat)=[] then 3 else 0:=if_pos he
   rw[e1,e2]
   clear e1 e2 he hf
   obtain⟨bn,rfl⟩:∃bn:Nat,b=bn:=⟨b.toNat,by omega⟩
   rw[Int.toNat_natCast]
   have hbn:bn<h.nn:=by omega
   refine a0d (ends23 sortIm h g h2 h6) rfl ?_
   rintro _ ⟨L,hL,rfl⟩
   have hl:=hL.len
   have hmem:∀v,v∈L.flatMap (flV h bn)↔h.fl bn v:=fun v=>by
    have kn:∀r∈L,Known h r:=fun r hr=>⟨hL.good r hr,g,h2,h6⟩
    have key:∀r∈L,∀c,(h.keep (r.st h).K (C6.first c h.nn)).getD bn 0=h.keep1 ((r.st h).K.getD bn 0) ((C6.first c h.nn).getD bn 0):=fun r hr c=>Hist.keep_at hbn
    rw[List.mem_flatMap]
    constructor
    ·rintro⟨r,hr,hv⟩
     obtain⟨c,hc,rfl⟩:=List.mem_map.1 hv
     have kr:=kn r hr
     exact⟨r.st h,C6.first c h.nn,(hL.ends _).2 ⟨r,hr,rfl⟩,(img_iff (kr.g.cache kr.inv) _).2 ⟨c,((imL kr.ord).mem c).1 hc,rfl⟩,(key r hr c).symm⟩
    ·rintro⟨s,im,hs,hi,rfl⟩
     obtain⟨r,hr,rfl⟩:=(hL.ends s).1 hs
     have kr:=kn r hr
     obtain⟨c,hc,rfl⟩:=(img_iff (kr.g.cache kr.inv) _).1 hi
     exact⟨r,hr,List.mem_map.2 ⟨c,((imL kr.ord).mem c).2 hc,key r hr c⟩⟩
   have hrg:=fun v=>g.fl_range hbn (v:=v)
   refine x0 ?_
   refine⟨Nat×List Int,fun q=>q.1≤L.length∧q.2=(L.take q.1).flatMap (flV h bn)∧q.2.length≤81*q.1,fun q=>L.length-q.1,fun q=>[(26,.int .i64 (q.1:Nat)),(9,.osl 3 q.2.length)],fun _=>[],fun q=>[.row 3 1 q.2.length (a0u intC 0 q.2) true],(0,[]),⟨⟨Nat.zero_le _,by simp,by simp⟩,some [some 0,some 1,some 2,none],?_⟩,?_⟩
   ·exact xc2
   ·rintro⟨i,M⟩ ⟨hi,hM,hMl⟩
    dsimp only at hi hM hMl
    have hi0:((i:Nat):Int).toNat=i:=by omega
    have hMl2:M.length≤81*481890304:=by
     have:81*i≤81*481890304:=Nat.mul_le_mul_left _ (by omega)
     omega
    refine x24 (fun hc=>?_) (fun hc hc=>?_) (fun hc hc=>?_)
    ·have hil:i<L.length:=by dsimp only at hc;omega
     have ei:L.getD ((i:Nat):Int).toNat .root=L[i]:=by rw[hi0];simp[List.getD_eq_getElem?_getD,hil]
     have hk:Known h (L.getD ((i:Nat):Int).toNat .root):=⟨by rw[ei];exact hL.good _ (List.getElem_mem hil),g,h2,h6⟩
     have hsn:M++flV h bn (L.getD ((i:Nat):Int).toNat .root)=(L.take (i+1)).flatMap (flV h bn):=by
      rw[ei,List.take_succ_eq_append_getElem hil,List.flatMap_append,hM]
      simp
     have hvl:(flV h bn (L.getD ((i:Nat):Int).toNat .root)).length≤81:=by unfold flV;rw[List.length_map];exact imL_len hk.ord
     dsimp only
     refine callee_view (a0o.weak (falls35 h _ hk bn hbn (by omega)) (fun _ _ _ hd=>SR.weak hk.good hd)) ?_
     generalize L.getD ((i:Nat):Int).toNat .root=r at *
     refine x0 ?_
     rintro _ rfl
     clear hk ei
     generalize flV h bn r=Vr at *
     refine x0 ?_
     refine⟨(i+1,M++Vr),⟨⟨hil,hsn,by dsimp only;rw[List.length_append];omega⟩,by dsimp only;omega⟩,some [some 0,some 1,some 2,some 4],?_⟩
     refine x0 ?_
     refine⟨by dsimp only;rw[List.length_append],?_⟩
     refine x0 ?_
     refine⟨by dsimp only;rw[List.length_append],rowOf_app (c:=intC) (l:=M) (m:=Vr),?_⟩
     exact xc2
    ·obtain rfl:i=L.length:=by dsimp only at *;omega
     rw[List.take_length] at hM
     dsimp only at hc
     have hD:lstOf (h.fl bn)=[]:=by
      rw[List.eq_nil_iff_forall_not_mem]
      intro v hv
      have:=(hmem v).2 (mem_lstOf.1 hv).2
      rw[←hM,List.length_eq_zero_iff.1 (show M.length=0 by omega)] at this
      cases this
     rw[hD]
     refine⟨_,rfl,?_⟩
     exact xc2
    ·obtain rfl:i=L.length:=by dsimp only at *;omega
     rw[List.take_length] at hM
     dsimp only at hc
     have hM0:0<M.length:=by omega
     refine a0e [3] (callee_sort (plain_of Tryz.func81 (by kernel_rfl) (by kernel_rfl)) sortsI (ty:=3) (l:=M) (nz:=true) hM0 (by omega)) rfl ?_ ?_
     ·exact xc2
     ·rintro _ _ ⟨rfl,rfl⟩
      have hms:=List.mergeSort_perm M (fun x y=>decide (x≤y))
      have hmp:(M.mergeSort fun x y=>decide (x≤y)).Pairwise (·≤·):=(List.pairwise_mergeSort (le:=fun x y:Int=>decide (x≤y)) (fun a b c p q=>by rw[decide_eq_true_iff] at *;omega) (fun a b=>by rw[Bool.or_eq_true,decide_eq_true_iff,decide_eq_true_iff];omega) M).imp fun p=>by rwa [decide_eq_true_iff] at p
      generalize (M.mergeSort fun x y=>decide (x≤y))=S at *
      have hSl:=hms.length_eq
      refine x0 ?_
      refine a0e [3] (compact46 S hmp (by omega) (by omega)) rfl ?_ ?_
      ·exact xc2
      ·rintro _ _ ⟨D,hD,rfl,rfl⟩
       have hDl:D=lstOf (h.fl bn):=eq_lstOf hD.asc (fun v=>by rw[hD.mem,List.take_length,hms.mem_iff,hM,hmem]) hrg
       have hD0:D≠[]:=fun e=>by
        have:=(hD.mem (S[0]'(by omega))).2 (by rw[List.take_length];exact List.getElem_mem _)
        rw[e] at this
        cases this
       rw[←hDl,if_neg hD0]
       refine x0 ?_
       refine⟨_,rfl,?_⟩
       exact xc2
       all_goals(refine⟨fun i _=>rfl,?_⟩;(repeat' ((conv=>whnf);first|(with_reducible first|apply spl|apply spl'|refine iJ ?_)<;>intro hc<;>try(exfalso;omega)|refine vcq ?_|fail));all_goals((try conv=>whnf);try exact trivial))
end Ho
end Go.Proofs
