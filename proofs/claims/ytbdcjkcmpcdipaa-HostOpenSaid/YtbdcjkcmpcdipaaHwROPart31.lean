/- Own work: texts of the proof of a law (HwS2, HwU, SyCfz, HwZ, HwO). No condition. -/
import Derived.Test.YtbdcjkcmpcdipaaPart30
namespace Go.Proofs
open Go Go.Sx
set_option maxRecDepth 100000
set_option maxHeartbeats 40000000
namespace Ho
def latF (h:Hist):Nat→Int
 |0=>-1
 |i+1=>max (max (latF h i) (h.at' i).f) (h.at' i).t
theorem latest13 (h:Hist) (hl:h.l.length≤9223372036854775807):a0o Try.prog 13 false [h.w] (·=.int .i64 (latF h h.l.length)):=by
 refine a0b Try.E_ok Try.func13 rfl (by kernel_rfl) ?_
 (repeat' ((conv=>whnf);first|(with_reducible first|apply spl|apply spl'|refine iJ ?_)<;>intro hc<;>try(exfalso;omega)|refine vcq ?_|refine dr 14 ?_));all_goals(try conv=>whnf);try exact trivial
 refine⟨Nat,fun i=>i≤h.l.length,fun i=>h.l.length-i,fun i=>[(4,.int .i64 (i:Nat)),(3,.int .i64 (latF h i))],fun _=>[],fun _=>[],0,⟨by omega,some [some 0],?_⟩,?_⟩
 ·(repeat' ((conv=>whnf);first|(with_reducible first|apply spl|apply spl'|refine iJ ?_)<;>intro hc<;>try(exfalso;omega)|refine vcq ?_|refine dr 14 ?_));all_goals(try conv=>whnf);try exact trivial
 ·intro i hi
  have hi0:((i:Nat):Int).toNat=i:=by omega
  (repeat' ((conv=>whnf);first|(with_reducible first|apply spl|apply spl'|refine iJ ?_)<;>intro hc<;>try(exfalso;omega)|refine vcq ?_|refine dr 14 ?_));all_goals(try conv=>whnf);try exact trivial
  ·have e0:h.l.getD ((i:Nat):Int).toNat c0=h.at' i:=by rw[hi0];rfl
   rw[e0]
   refine⟨i+1,⟨by omega,by dsimp only;omega⟩,some [some 0],?_⟩
   (repeat' ((conv=>whnf);first|(with_reducible first|apply spl|apply spl'|refine iJ ?_)<;>intro hc<;>try(exfalso;omega)|refine vcq ?_|refine dr 14 ?_));all_goals(try conv=>whnf);try exact trivial
  ·obtain rfl:i=h.l.length:=by omega
   refine⟨_,rfl,?_⟩
   (repeat' ((conv=>whnf);first|(with_reducible first|apply spl|apply spl'|refine iJ ?_)<;>intro hc<;>try(exfalso;omega)|refine vcq ?_|refine dr 14 ?_));all_goals(try conv=>whnf);try exact trivial
theorem latF_ge (h:Hist):∀n i,i<n→(h.at' i).f≤latF h n∧(h.at' i).t≤latF h n
 |0,i,hi=>by omega
 |n+1,i,hi=>by
  unfold latF
  rcases Nat.lt_or_eq_of_le (show i≤n by omega) with q|rfl
  ·have:=latF_ge h n i q;omega
  ·omega
theorem latF_lo (h:Hist):∀n,-1≤latF h n
 |0=>by unfold latF;omega
 |n+1=>by unfold latF;have:=latF_lo h n;omega
end Ho
namespace Ho
theorem prop_congr {p q:Prop} {d:Decidable p} {e:Decidable q} (h:p↔q):V.prop p d=V.prop q e:=by
 have x:p=q:=propext h
 subst x
 exact congrArg (V.prop p) (Subsingleton.elim _ _)
end Ho
end Go.Proofs
namespace Go.Sx
open Go
variable {P:Program}
end Go.Sx
namespace Go.Sx
open Go
variable {P:Program}
theorem Sat.recell {I:Nat→Prop} {η:Eta} {w:World} {H:List O} (h:Sat I η w H) {k:Nat} {ty:TypeId} {vs vs':List V} (hk:H[k]? = some (.cells ty vs)) (hd:∀e,η[k]? = some e→SatO I η w e (.cells ty vs')) :
  Sat I η w (H.set k (.cells ty vs'))∧own η (H.set k (.cells ty vs'))=own η H:=by
 have hkl:k<H.length:=(List.getElem?_eq_some_iff.1 hk).1
 have back:∀(id:Nat) (o:O),(H.set k (.cells ty vs'))[id]? = some o→∃o0,H[id]? = some o0∧(∀e b,o.has e b↔o0.has e b):=by
  intro id o ho
  rw[List.getElem?_set] at ho
  by_cases hi:k=id
  ·subst hi
   rw[if_pos rfl,if_pos hkl] at ho
   cases ho
   exact⟨_,hk,fun e b=>Iff.rfl⟩
  ·rw[if_neg hi] at ho
   exact⟨o,ho,fun _ _=>Iff.rfl⟩
 have forth:∀(id:Nat) (o0:O),H[id]? = some o0→∃o,(H.set k (.cells ty vs'))[id]? = some o∧(∀e b,o.has e b↔o0.has e b):=by
  intro id o0 ho
  by_cases hi:k=id
  ·subst hi
   rw[hk] at ho
   cases ho
   exact⟨.cells ty vs',by rw[List.getElem?_set,if_pos rfl,if_pos hkl],fun e b=>Iff.rfl⟩
  ·exact⟨o0,by rw[List.getElem?_set,if_neg hi];exact ho,fun _ _=>Iff.rfl⟩
 have hown:∀b,own η (H.set k (.cells ty vs')) b↔own η H b:=by
  intro b
  constructor
  ·rintro⟨id,e,o,h1,h2,h3⟩
   obtain⟨o0,g1,g2⟩:=back id o h2
   exact⟨id,e,o0,h1,g1,(g2 e b).1 h3⟩
  ·rintro⟨id,e,o,h1,h2,h3⟩
   obtain⟨o0,g1,g2⟩:=forth id o h2
   exact⟨id,e,o0,h1,g1,(g2 e b).2 h3⟩
 refine⟨⟨by rw[List.length_set];exact h.len,?_,?_,fun b hb=>h.notI b ((hown b).1 hb),fun b hb=>h.lt b ((hown b).1 hb),h.ilt⟩,?_⟩
 ·intro id e o h1 h2
  rw[List.getElem?_set] at h2
  by_cases hi:k=id
  ·subst hi
   rw[if_pos rfl,if_pos hkl] at h2
   cases h2
   exact hd e h1
  ·rw[if_neg hi] at h2
   exact h.obj id e o h1 h2
 ·intro id id' b e e' o o' h1 h2 h3 h4 l1 l2
  obtain⟨p0,g1,g2⟩:=back id o h3
  obtain⟨p1,g3,g4⟩:=back id' o' h4
  exact h.apart id id' b e e' p0 p1 h1 h2 g1 g3 ((g2 e b).1 l1) ((g4 e' b).1 l2)
 ·unfold own
  congr 1
  funext b
  exact propext (hown b)
theorem callee_fzc {g:FuncId} {keep:Bool} {args args':List V} {R0:V→Prop} {H:List O} {K:V→List O→Prop} {ps ps2:List Prop} {ids:List Nat} (k:Nat) {ty:TypeId} {vs vs':List V} (h:a0o P g keep args' R0)
  (hf:frzL (frzV 8 H) args=some (ps,ids,args')) (hk0:H[k]? = some (.cells ty vs)) (hf2:frzL (frzV 8 H) vs=some (ps2,ids,vs')) (hn:ids.contains k=false) (hp:∀p∈ps,p) (hp2:∀p∈ps2,p)
  (hk:∀ret,R0 ret→K ret ((goneAt ids H).set k (.cells ty vs'))):Callee P g args H K:=by
 unfold Callee
 refine⟨h.1,fun I η w vals hS hd=>?_⟩
 obtain⟨s1,m1,st1⟩:=hS.freeze ids
 have hfr:∀(l l':List V) (qs:List Prop) (xs:List Value),frzL (frzV 8 H) l=some (qs,ids,l')→(∀p∈qs,p)→DenL I η w l xs→DenL (frzI I η H ids) [] w l' xs:=fun l l' qs xs e1 e2 e3=>
  frzL_sound (C:=fun id=>∀e o b,η[id]? = some e→H[id]? = some o→o.has e b→frzI I η H ids b) (fun v v' ps ids x=>frzV_sound hS.obj (fun b hb=>.inl hb) 8 v v' ps ids x) l l' qs ids xs e1 e2
   (fun id hid e o b he ho hb=>.inr ⟨id,hid,e,o,he,ho,hb⟩) e3
 have hd':=hfr args args' ps vals hf hp hd
 have hkk:(goneAt ids H)[k]? = some (.cells ty vs):=by
  have key:∀(l:List Nat) (H:List O),l.contains k=false→H[k]? = some (.cells ty vs)→(goneAt l H)[k]? = some (.cells ty vs):=by
   intro l
   induction l with
   |nil=>intro H _ h;exact h
   |cons i l ih=>
    intro H hc h
    rw[List.contains_cons] at hc
    simp only[Bool.or_eq_false_iff,beq_eq_false_iff_ne] at hc
    refine ih _ hc.2 ?_
    rw[a0s,List.getElem?_set,if_neg (fun e=>hc.1 e.symm)]
    exact h
  exact key ids H hn hk0
 have hη:∀e,η[k]? = some e→SatO (frzI I η H ids) η w e (.cells ty vs'):=fun e he=>by
  obtain⟨b,c,e1,xs,e2,e3,e4⟩:=hS.obj k e _ he hk0
  refine⟨b,c,e1,xs,e2,e3,?_⟩
  have:=hfr vs vs' ps2 xs hf2 hp2 e4
  exact DenL.mono ⟨fun _ _ he _=>by simp at he,fun b hb=>hb,fun _ _=>rfl⟩ _ _ this
 obtain⟨s2,hown⟩:=s1.recell hkk hη
 refine(h.2 _ w vals s2.ilt hd').mono ?_
 rintro e w' ⟨ret,v,rfl,hr,hden,hpr⟩
 obtain⟨s3,m3,st3⟩:=s2.pres hpr
 refine⟨grow (frzI I η H ids) w w',η,(goneAt ids H).set k (.cells ty vs'),ret,v,rfl,hk ret hr,s3,?_,m1.trans m3,st1.trans ?_⟩
 ·refine Den.mono ⟨fun _ _ he _=>by simp at he,fun b hb=>?_,fun _ _=>rfl⟩ _ _ hden
  rcases hb with hb|hb
  ·exact .inl hb.2
  ·exact .inr hb
 ·rw[←hown]
  exact st3
end Go.Sx
namespace Go.Proofs
open Go Go.Sx
set_option maxRecDepth 100000
set_option maxHeartbeats 40000000
namespace Ho
theorem copy14 (h:Hist) (hl:h.l.length≤1000000):NewC Try.prog 14 [h.w] (fun r H=>r=.agg [.int .i64 h.n,.osl 0 h.l.length]∧H=[.row 36 5 h.l.length (a0u Cmd.c c0 h.l) false]):=by
 refine newC_ent Try.E_ok Try.func14 rfl (by kernel_rfl) ?_
 (repeat' ((conv=>whnf);first|(with_reducible first|apply spl|apply spl'|refine iJ ?_)<;>intro hc<;>try(exfalso;omega)|refine vcq ?_|refine dr 2005 ?_));all_goals(try conv=>whnf);try exact trivial
 refine⟨_,_,⟨rfl,rfl⟩,some [some 3],?_⟩
 (repeat' ((conv=>whnf);first|(with_reducible first|apply spl|apply spl'|refine iJ ?_)<;>intro hc<;>try(exfalso;omega)|refine vcq ?_|refine dr 2005 ?_));all_goals(try conv=>whnf);try exact trivial
def addC (h:Hist) (c:Cmd):Hist:=⟨h.n,h.l++[c]⟩
theorem addC_add {h:Hist} (g:h.Ok) {c:Cmd} (hc:∀i,i<h.l.length→(h.at' i).f<c.f∧(h.at' i).t<c.f):Add h (addC h c) c:=by
 refine⟨⟨rfl,fun i hi=>?_⟩,g,by simp[addC],?_,hc⟩
 ·unfold addC Hist.at'
  simp[List.getD_eq_getElem?_getD,List.getElem?_append_left hi]
 ·unfold addC Hist.at'
  simp[List.getD_eq_getElem?_getD]
theorem lst_len (P:Int→Prop):(lstOf P).length≤101:=by
 unfold lstOf
 refine Nat.le_trans (List.length_filter_le ..) ?_
 simp
theorem lst_ex {h:Hist} (g:h.Ok) {b:Nat} (hb:b<h.nn):lstOf (h.rd b)=[]↔¬h.Legal:=by
 rw[←Hist.rd_ex (h:=h) b]
 constructor
 ·rintro e ⟨v,hv⟩
  have:v∈lstOf (h.rd b):=mem_lstOf.2 ⟨g.rd_range hb hv,hv⟩
  rw[e] at this
  cases this
 ·intro q
  rw[List.eq_nil_iff_forall_not_mem]
  exact fun v hv=>q ⟨v,(mem_lstOf.1 hv).2⟩
theorem legal_ok {h:Hist} (hn:h.Near) (g:h.Ok):a0o Try.prog 9 false [h.w] (·=.tup [.prop h.Legal (Classical.propDecidable _),.int .i64 0]):=(legal9 h hn).mono fun v e=>by
 rw[e,Hist.chk_of g]
 exact congrArg (fun x=>V.tup [x,.int .i64 0]) (prop_congr ⟨fun q=>q.2,fun q=>⟨g,q⟩⟩)
theorem reads_ok {h:Hist} (hn:h.Near) (g:h.Ok) {b:Nat} (_hb:b<h.nn) (hb2:0≤(b:Int)∧(b:Int)≤h.n-1):a0o Try.prog 15 true [h.w,.int .i64 b] (·=.tup [.sl 1 (lstOf (h.rd b)).length (a0u intC 0 (lstOf (h.rd b))),.int .i64 (if lstOf (h.rd b)=[] then 3 else 0)]):=(reads15 h hn b).mono fun v e=>by
 have e0:h.errB (b:Int)=0:=Hist.errB_ok g hb2
 rw[e]
 unfold Hist.ifB Hist.errR
 rw[if_pos e0,if_pos e0,Int.toNat_natCast]
theorem open4 (h:Hist) (hl:h.l.length≤9223372036854775807) (c:Cmd) (b:Int):a0o Try.prog 4 false [h.w,c.w,.int .i64 b] (·=.prop True inferInstance):=by
 refine a0b Try.E_ok Try.func4 rfl (by kernel_rfl) ?_
 (repeat' ((conv=>whnf);first|(with_reducible first|apply spl|apply spl'|refine iJ ?_)<;>intro hc<;>try(exfalso;omega)|refine vcq ?_|refine dr 2005 ?_));all_goals(try conv=>whnf);try exact trivial
 refine a0d (latest13 h hl) rfl ?_
 rintro _ rfl
 (repeat' ((conv=>whnf);first|(with_reducible first|apply spl|apply spl'|refine iJ ?_)<;>intro hc<;>try(exfalso;omega)|refine vcq ?_|refine dr 2005 ?_));all_goals(try conv=>whnf);try exact trivial
 refine a0d (valid7 h hl) rfl ?_
 rintro _ rfl
 (repeat' ((conv=>whnf);first|(with_reducible first|apply spl|apply spl'|refine iJ ?_)<;>intro hc<;>try(exfalso;omega)|refine vcq ?_|refine dr 2005 ?_));all_goals((try conv=>whnf);try exact trivial);(repeat' ((first|(refine a0d (works8) rfl ?_;rintro _ rfl)|(refine a0f (works8) rfl ?_)|(refine a0l (fun _=>works8) rfl ?_));(repeat' ((conv=>whnf);first|(with_reducible first|apply spl|apply spl'|refine iJ ?_)<;>intro hc<;>try(exfalso;omega)|refine vcq ?_|refine dr 2005 ?_));all_goals((try conv=>whnf);try exact trivial)))
 ·refine⟨_,rfl,?_⟩
  exact⟨Iff.rfl,trivial⟩
 ·obtain⟨hv,hl5,hb,hT,h9⟩:(h.Near∧h.Ok)∧h.l.length≤5∧(0≤b∧b≤h.n-1)∧latF h h.l.length≤990∧c.k≠9:=by
   refine⟨Classical.byContradiction fun q=>hc (.inl (.inl (.inl (.inl (.inl q))))),?_⟩
   omega
  clear hc
  obtain⟨hn,g⟩:=hv
  have hnn:=g.nn
  have hlo:=latF_lo h h.l.length
  have hge:=latF_ge h h.l.length
  generalize latF h h.l.length=T at *
  have hadd:Add h (addC h ⟨c.k,c.b,c.v,T+1,-1⟩) ⟨c.k,c.b,c.v,T+1,-1⟩:=addC_add g fun i hi=>by have:=hge i hi;dsimp only;omega
  have hol:(addC h ⟨c.k,c.b,c.v,T+1,-1⟩).l.length=h.l.length+1:=by simp[addC]
  (repeat' ((conv=>whnf);first|(with_reducible first|apply spl|apply spl'|refine iJ ?_)<;>intro hc<;>try(exfalso;omega)|refine vcq ?_|refine dr 2005 ?_));all_goals(try conv=>whnf);try exact trivial
  refine callee_new (copy14 h (by omega)) rfl ?_
  rintro _ _ ⟨rfl,rfl⟩
  generalize ho:addC h ⟨c.k,c.b,c.v,T+1,-1⟩=o at *
  have hF:∀i,i<h.l.length+1→appF h.l.length (a0u Cmd.c c0 h.l) (fun x=>[.int .i64 c.k,.int .i64 c.b,.int .i64 c.v,.int .i64 (T+1),.int .i64 (-1)]) i=a0u Cmd.c c0 o.l i:=by
   rw[←ho]
   exact a1q (c:=Cmd.c) (a:=⟨c.k,c.b,c.v,T+1,-1⟩) (l:=h.l) rfl (fun _ _=>rfl)
  have hon:o.n=h.n:=hadd.n
  generalize hFF:appF h.l.length (a0u Cmd.c c0 h.l) (fun x=>[.int .i64 c.k,.int .i64 c.b,.int .i64 c.v,.int .i64 (T+1),.int .i64 (-1)])=F at hF
  have hv1:∀{gg:FuncId} {keep:Bool} {R:V→Prop},a0o Try.prog gg keep [o.w] R→a0o Try.prog gg keep [.agg [.int .i64 h.n,.sl 5 (h.l.length+1) F]] R:=fun hh=>a0o.view hh (by
   unfold Hist.w
   rw[hon,hol]
   (repeat' ((conv=>whnf);first|(with_reducible first|apply spl|apply spl'|refine iJ ?_)<;>intro hc<;>try(exfalso;omega)|refine vcq ?_|refine dr 2005 ?_));all_goals((try conv=>whnf);try exact trivial))
  have hv2:∀{gg:FuncId} {keep:Bool} {R:V→Prop},a0o Try.prog gg keep [o.w,.int .i64 b] R→a0o Try.prog gg keep [.agg [.int .i64 h.n,.sl 5 (h.l.length+1) F],.int .i64 b] R:=fun hh=>a0o.view hh (by
   unfold Hist.w
   rw[hon,hol]
   (repeat' ((conv=>whnf);first|(with_reducible first|apply spl|apply spl'|refine iJ ?_)<;>intro hc<;>try(exfalso;omega)|refine vcq ?_|refine dr 2005 ?_));all_goals((try conv=>whnf);try exact trivial))
  (repeat' ((conv=>whnf);first|(with_reducible first|apply spl|apply spl'|refine iJ ?_)<;>intro hc<;>try(exfalso;omega)|refine vcq ?_|refine dr 2005 ?_));all_goals(try conv=>whnf);try exact trivial
  rw[hFF]
  refine callee_fzc 3 (hv1 (valid7 o (by omega))) rfl rfl rfl rfl ?_ ?_ ?_
  ·simp[a3a]
  ·simp[a3a]
  rintro _ rfl
  (repeat' ((conv=>whnf);first|(with_reducible first|apply spl|apply spl'|refine iJ ?_)<;>intro hc<;>try(exfalso;omega)|refine vcq ?_|refine dr 2005 ?_));all_goals((try conv=>whnf);try exact trivial);(repeat' ((first|(refine a0d (works8) rfl ?_;rintro _ rfl)|(refine a0f (works8) rfl ?_)|(refine a0l (fun _=>works8) rfl ?_));(repeat' ((conv=>whnf);first|(with_reducible first|apply spl|apply spl'|refine iJ ?_)<;>intro hc<;>try(exfalso;omega)|refine vcq ?_|refine dr 2005 ?_));all_goals((try conv=>whnf);try exact trivial)))
  ·refine⟨_,rfl,?_⟩
   exact⟨Iff.rfl,trivial⟩
  ·obtain⟨on,og⟩:o.Near∧o.Ok:=Classical.not_not.1 hc
   clear hc hge
   obtain⟨bn,rfl⟩:∃bn:Nat,b=bn:=⟨b.toNat,by omega⟩
   have hbn:bn<h.nn:=by omega
   have hbo:bn<o.nn:=by rw[hadd.toAgr.nn];exact hbn
   obtain⟨hle,hrd⟩:=hadd.open_legal og rfl
   have ea:=lst_ex g hbn
   have eb:=lst_ex og hbo
   have hL1:=legal_ok hn g
   have hL2:=hv1 (legal_ok on og)
   have hR1:=reads_ok hn g hbn hb
   have hR2:=hv2 (reads_ok on og hbo (by rw[hon];exact hb))
   have hsub:∀v,v∈lstOf (h.rd bn)→v∈lstOf (o.rd bn):=fun v q=>by
    rw[mem_lstOf] at *
    exact⟨q.1,hrd bn v q.2⟩
   have hla:=lst_len (h.rd bn)
   have hlb:=lst_len (o.rd bn)
   generalize lstOf (h.rd bn)=ra at *
   generalize lstOf (o.rd bn)=rb at *
   clear hv1 hv2 hadd hrd hF hFF
   refine a0d hL1 rfl ?_
   rintro _ rfl
   (repeat' ((conv=>whnf);first|(with_reducible first|apply spl|apply spl'|refine iJ ?_)<;>intro hc<;>try(exfalso;omega)|refine vcq ?_|refine dr 2005 ?_));all_goals(try conv=>whnf);try exact trivial
   refine a0d hL2 rfl ?_
   rintro _ rfl
   (repeat' ((conv=>whnf);first|(with_reducible first|apply spl|apply spl'|refine iJ ?_)<;>intro hc<;>try(exfalso;omega)|refine vcq ?_|refine dr 2005 ?_));all_goals(try conv=>whnf);try exact trivial
   refine a0d hR1 rfl ?_
   rintro _ rfl
   (repeat' ((conv=>whnf);first|(with_reducible first|apply spl|apply spl'|refine iJ ?_)<;>intro hc<;>try(exfalso;omega)|refine vcq ?_|refine dr 2005 ?_));all_goals(try conv=>whnf);try exact trivial
   refine a0d hR2 rfl ?_
   rintro _ rfl
   (repeat' ((conv=>whnf);first|(with_reducible first|apply spl|apply spl'|refine iJ ?_)<;>intro hc<;>try(exfalso;omega)|refine vcq ?_|refine dr 2005 ?_));all_goals(try conv=>whnf);try exact trivial
   ·exfalso
    have hab:ra=[]↔rb=[]:=by rw[ea,eb,hle]
    rcases hc with(q|q)|q
    ·omega
    ·exact q hle.symm
    ·by_cases e:ra=[]
     ·rw[if_pos e,if_pos (hab.1 e)] at q
      exact q rfl
     ·rw[if_neg e,if_neg (fun r=>e (hab.2 r))] at q
      exact q rfl
   ·clear hc
    refine⟨Nat,fun i=>i≤ra.length,fun i=>ra.length-i,fun i=>[(17,.int .i64 (i:Nat))],fun _=>[],fun _=>[],0,⟨by omega,none,?_⟩,?_⟩
    ·(repeat' ((conv=>whnf);first|(with_reducible first|apply spl|apply spl'|refine iJ ?_)<;>intro hc<;>try(exfalso;omega)|refine vcq ?_|refine dr 2005 ?_));all_goals(try conv=>whnf);try exact trivial
    ·intro i hi
     have hi0:((i:Nat):Int).toNat=i:=by omega
     (repeat' ((conv=>whnf);first|(with_reducible first|apply spl|apply spl'|refine iJ ?_)<;>intro hc<;>try(exfalso;omega)|refine vcq ?_|refine dr 2005 ?_));all_goals(try conv=>whnf);try exact trivial
     ·have hil:i<ra.length:=by omega
      have hin:ra.getD ((i:Nat):Int).toNat 0∈rb:=hsub _ (by
       rw[hi0,List.getD_eq_getElem?_getD,List.getElem?_eq_getElem hil]
       exact List.getElem_mem hil)
      refine a0d (has16 rb (ra.getD ((i:Nat):Int).toNat 0) (by omega)) rfl ?_
      rintro _ rfl
      (repeat' ((conv=>whnf);first|(with_reducible first|apply spl|apply spl'|refine iJ ?_)<;>intro hc<;>try(exfalso;omega)|refine vcq ?_|refine dr 2005 ?_));all_goals(try conv=>whnf);try exact trivial
      ·exact absurd hin (by assumption)
      ·refine⟨i+1,⟨by omega,by dsimp only;omega⟩,none,?_⟩
       (repeat' ((conv=>whnf);first|(with_reducible first|apply spl|apply spl'|refine iJ ?_)<;>intro hc<;>try(exfalso;omega)|refine vcq ?_|refine dr 2005 ?_));all_goals(try conv=>whnf);try exact trivial
     ·refine a0d works8 rfl ?_
      rintro _ rfl
      (repeat' ((conv=>whnf);first|(with_reducible first|apply spl|apply spl'|refine iJ ?_)<;>intro hc<;>try(exfalso;omega)|refine vcq ?_|refine dr 2005 ?_));all_goals(try conv=>whnf);try exact trivial
      refine⟨_,rfl,?_⟩
      exact⟨Iff.rfl,trivial⟩
end Ho
end Go.Proofs
