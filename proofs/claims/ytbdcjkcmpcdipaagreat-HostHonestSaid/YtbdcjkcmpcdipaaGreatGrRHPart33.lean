/- Own work: texts of the proof of a law (GwS2, GwU, HwZ, GwO, GwQ, GrI, GrM). No condition. -/
import Derived.Test.YtbdcjkcmpcdipaaGreatGrRHPart32
set_option linter.unusedVariables false
set_option linter.unusedSimpArgs false
namespace Go.Proofs
open Go Go.Sx
set_option maxRecDepth 100000
set_option maxHeartbeats 40000000
namespace Ho
end Ho
namespace Ho
theorem prop_congr {p q:Prop} {d:Decidable p} {e:Decidable q} (h:p↔q):V.prop p d=V.prop q e:=by
 have x:p=q:=propext h
 subst x
 exact congrArg (V.prop p) (Subsingleton.elim _ _)
end Ho
end Go.Proofs
namespace Go.Sx
open Go
variable {P:Program}
end Go.Sx
namespace Go.Proofs
open Go Go.Sx
set_option maxRecDepth 100000
set_option maxHeartbeats 40000000
namespace Ho
theorem lst_ex {h:Hist} (g:h.Ok) {b:Nat} (hb:b<h.nn):lstOf (h.rd b)=[]↔¬h.Legal:=by
 rw[←Hist.rd_ex (h:=h) b]
 constructor
 ·rintro e ⟨v,hv⟩
  have:v∈lstOf (h.rd b):=mem_lstOf.2 ⟨g.rd_range hb hv,hv⟩
  rw[e] at this
  cases this
 ·intro q
  rw[List.eq_nil_iff_forall_not_mem]
  exact fun v hv=>q ⟨v,(mem_lstOf.1 hv).2⟩
theorem legal_ok {h:Hist} (hn:h.Near) (g:h.Ok):a0o Tryz.prog 16 false [h.w] (·=.tup [.prop h.Legal (Classical.propDecidable _),.int .i64 0]):=(legal9 h hn).mono fun v e=>by
 rw[e,Hist.chk_of g]
 exact congrArg (fun x=>V.tup [x,.int .i64 0]) (prop_congr ⟨fun q=>q.2,fun q=>⟨g,q⟩⟩)
theorem reads_ok {h:Hist} (hn:h.Near) (g:h.Ok) {b:Nat} (_hb:b<h.nn) (hb2:0≤(b:Int)∧(b:Int)≤h.n-1):a0o Tryz.prog 23 true [h.w,.int .i64 b] (·=.tup [.sl 1 (lstOf (h.rd b)).length (a0u intC 0 (lstOf (h.rd b))),.int .i64 (if lstOf (h.rd b)=[] then 3 else 0)]):=(reads15 h hn b).mono fun v e=>by
 have e0:h.errB (b:Int)=0:=Hist.errB_ok g hb2
 rw[e]
 unfold Hist.ifB Hist.errR
 rw[if_pos e0,if_pos e0,Int.toNat_natCast]
end Ho
namespace Ho
theorem falls_ok {h:Hist} (hn:h.Near) (g:h.Ok) {b:Nat} (_hb:b<h.nn) (hb2:0≤(b:Int)∧(b:Int)≤h.n-1):a0o Tryz.prog 24 true [h.w,.int .i64 b] (·=.tup [.sl 1 (lstOf (h.fl b)).length (a0u intC 0 (lstOf (h.fl b))),.int .i64 (if lstOf (h.fl b)=[] then 3 else 0)]):=(falls19 h hn b).mono fun v e=>by
 have e0:h.errB (b:Int)=0:=Hist.errB_ok g hb2
 rw[e]
 unfold Hist.ifB Hist.errR
 rw[if_pos e0,if_pos e0,Int.toNat_natCast]
theorem lst_exf {h:Hist} (g:h.Ok) {b:Nat} (hb:b<h.nn):lstOf (h.fl b)=[]↔¬h.Legal:=by
 rw[←g.fl_ex b]
 constructor
 ·rintro e ⟨v,hv⟩
  have:v∈lstOf (h.fl b):=mem_lstOf.2 ⟨g.fl_range hb hv,hv⟩
  rw[e] at this
  cases this
 ·intro q
  rw[List.eq_nil_iff_forall_not_mem]
  exact fun v hv=>q ⟨v,(mem_lstOf.1 hv).2⟩
end Ho
namespace Ho
theorem honest4 (h:Hist) (hl:h.l.length≤9223372036854775807) (o:List Int) (ho:o.length≤9223372036854775807) (ims:List IE) (hims:ims.length≤9223372036854775807) (him:∀im∈ims,im.1≤9223372036854775807) :
  a0o Tryz.prog 4 false [h.w,.agg [.sl 1 o.length (a0u intC 0 o),.sl 1 ims.length (a0u lC ie0 ims)]] (·=.prop True inferInstance):=by
 refine a0b Tryz.E_ok Tryz.func4 rfl (by kernel_rfl) ?_
 refine x0 ?_
 refine a0d (valid7 h hl) rfl ?_
 rintro _ rfl
 by_cases hv:h.Near∧h.Ok
 rotate_left
 ·refine x7 (fun hc=>?_) (fun hc=>?_)
  ·exact absurd (Classical.byContradiction fun u=>hc (.inl (.inl u))) hv
  ·refine a0d works8 rfl ?_
   rintro _ rfl
   refine x0 ?_
   refine⟨_,rfl,?_⟩
   exact⟨Iff.rfl,trivial⟩
 ·obtain⟨hn,g⟩:=hv
  obtain⟨h2,h6⟩:=hn.2 g
  have hnn:=g.nn
  refine x7 (fun hc=>?_) (fun hc=>?_)
  ·have ho20:o.length≤20:=Classical.byContradiction fun u=>hc (.inl (.inr (by omega)))
   have hi20:ims.length≤20:=Classical.byContradiction fun u=>hc (.inr (by omega))
   refine a0d (isx22 h g h2 h6 o ho20 ims hi20 him) rfl ?_
   rintro _ rfl
   refine x7 (fun hc=>?_) (fun hc=>?_)
   ·refine a0d works8 rfl ?_
    rintro _ rfl
    refine x0 ?_
    refine⟨_,rfl,?_⟩
    exact⟨Iff.rfl,trivial⟩
   ·have hx:isx h (RT.begin h) o (ims.map tol):=Classical.not_not.1 hc
    have hL:=isx_end g o _ _ (RW.begin h) hx
    have hleg:a0o Tryz.prog 16 false [h.w] (·=.tup [.prop True inferInstance,.int .i64 0]):=(legal_ok hn g).mono fun v e=>by rw[e,prop_true hL]
    have hlie:a0o Tryz.prog 18 false [h.w] (·=.tup [.int .i64 (-1),.int .i64 0]):=(lie10v h hn).mono fun v e=>by rw[e,if_pos (Hist.chk_of g),Hist.chk_of g,←g.lie_eq (.inl ⟨hL,rfl⟩)]
    clear hc hx
    refine a0d hleg rfl ?_
    rintro _ rfl
    refine x0 ?_
    refine a0d hlie rfl ?_
    rintro _ rfl
    refine x7 (fun hc=>?_) (fun hc=>?_)
    ·exact absurd hc (by simp)
    ·clear hc
     refine⟨Nat,fun b=>b≤h.nn,fun b=>h.nn-b,fun b=>[(9,.int .i64 (b:Nat)),(17,.any),(18,.any),(19,.any),(20,.any),(21,.any),(22,.any),(23,.any),(24,.any),(25,.any),(26,.any),(27,.any),(28,.any),(29,.any),(30,.any),(31,.any),(32,.any),(33,.any),(34,.any),(35,.any),(36,.any),(37,.any),(50,.any),(51,.any),(52,.any),(53,.any),(54,.any),(55,.any),(56,.any),(57,.any),(58,.any),(59,.any),(60,.any),(61,.any),(62,.any)],fun _=>[],fun _=>[],0,⟨Nat.zero_le _,some [some 0,some 1],?_⟩,?_⟩
     ·exact xc2
     ·intro b hb
      have hb:b≤h.nn:=hb
      by_cases hbn:b<h.nn
      ·have hb2:0≤(b:Int)∧(b:Int)≤h.n-1:=by omega
       have n1:lstOf (h.rd b)≠[]:=fun q=>(lst_ex g hbn).1 q hL
       have n2:lstOf (h.fl b)≠[]:=fun q=>(lst_exf g hbn).1 q hL
       have r1:=reads_ok hn g hbn hb2
       have r2:=falls_ok hn g hbn hb2
       rw[if_neg n1] at r1
       rw[if_neg n2] at r2
       have p1:=List.length_pos_iff.2 n1
       have p2:=List.length_pos_iff.2 n2
       clear n1 n2
       generalize lstOf (h.rd b)=A at *
       generalize lstOf (h.fl b)=B at *
       refine x0 (fun hc=>?_)
       refine a0d r1 rfl ?_
       rintro _ rfl
       refine x0 ?_
       refine a0d r2 rfl ?_
       rintro _ rfl
       refine x0 (fun hc=>?_)
       refine⟨b+1,⟨by omega,by dsimp only;omega⟩,some [some 0,some 1],?_⟩
       exact xc2
      ·have hbe:b=h.nn:=by omega
       subst hbe
       refine x0 (fun hc=>?_)
       refine a0d works8 rfl ?_
       rintro _ rfl
       refine x0 ?_
       refine⟨_,rfl,?_⟩
       exact⟨Iff.rfl,trivial⟩
  ·refine a0d works8 rfl ?_
   rintro _ rfl
   refine x0 ?_
   refine⟨_,rfl,?_⟩
   exact⟨Iff.rfl,trivial⟩
end Ho
end Go.Proofs
namespace Go.Proofs
open Go Go.Sx
namespace Ho
def tsHonest:TS:=.struct [.slice (.int .i64),.slice (.slice (.int .i64))]
def zeroHonest:Value:=.agg #[.slice none 0 0,.slice none 0 0]
def toIE (l:List (List Int)):List IE:=l.map fun x=>(x.length,fun b=>x.getD b 0)
theorem toIE_length (l:List (List Int)):l.length=(toIE l).length:=by simp[toIE]
theorem toIE_le (l:List (List Int)) (h:l.length≤maxLen):(toIE l).length≤9223372036854775807:=by
 rw[←toIE_length]
 exact Nat.le_trans h (by decide)
theorem toIE_all (l:List (List Int)) (h:∀x∈l,x.length≤maxLen):∀e∈toIE l,e.1≤9223372036854775807:=by
 intro e he
 obtain⟨x,hx,rfl⟩:=List.mem_map.1 he
 exact Nat.le_trans (h x hx) (by decide)
theorem rowIE (l:List (List Int)) (i:Nat):a0u (TS.enc (.slice (.int .i64))) (TS.dflt (.slice (.int .i64))) l i=a0u lC ie0 (toIE l) i:=by
 have h2:(toIE l).getD i ie0=(fun x:List Int=>((x.length,fun b=>x.getD b 0):IE)) (l.getD i []):=by
  unfold toIE
  rw[List.getD_eq_getElem?_getD,List.getD_eq_getElem?_getD,List.getElem?_map]
  cases l[i]?<;>rfl
 show TS.enc (.slice (.int .i64)) (l.getD i [])=lC ((toIE l).getD i ie0)
 rw[h2]
 rfl
end Ho
end Go.Proofs
