/- Own work: texts of the proof of a law (GwS2, GwU, SyCfz, HwZ, GwO, GwQ). No condition. -/
import Derived.Test.YtbdcjkcmpcdipaaGreatPart30
set_option linter.unusedVariables false
set_option linter.unusedSimpArgs false
namespace Go.Proofs
open Go Go.Sx
set_option maxRecDepth 100000
set_option maxHeartbeats 40000000
namespace Ho
def latF (h:Hist):Nat→Int
 |0=>-1
 |i+1=>max (max (latF h i) (h.at' i).f) (h.at' i).t
theorem latest13 (h:Hist) (hl:h.l.length≤9223372036854775807):a0o Tryz.prog 25 false [h.w] (·=.int .i64 (latF h h.l.length)):=by
 refine a0b Tryz.E_ok Tryz.func25 rfl (by kernel_rfl) ?_
 (repeat' ((conv=>whnf);first|(with_reducible first|apply spl|apply spl'|refine iJ ?_)<;>intro hc<;>try(exfalso;omega)|refine vcq ?_|refine dr 14 ?_));all_goals(try conv=>whnf);try exact trivial
 refine⟨Nat,fun i=>i≤h.l.length,fun i=>h.l.length-i,fun i=>[(4,.int .i64 (i:Nat)),(3,.int .i64 (latF h i))],fun _=>[],fun _=>[],0,⟨by omega,some [some 0],?_⟩,?_⟩
 ·(repeat' ((conv=>whnf);first|(with_reducible first|apply spl|apply spl'|refine iJ ?_)<;>intro hc<;>try(exfalso;omega)|refine vcq ?_|refine dr 14 ?_));all_goals(try conv=>whnf);try exact trivial
 ·intro i hi
  have hi0:((i:Nat):Int).toNat=i:=by omega
  (repeat' ((conv=>whnf);first|(with_reducible first|apply spl|apply spl'|refine iJ ?_)<;>intro hc<;>try(exfalso;omega)|refine vcq ?_|refine dr 14 ?_));all_goals(try conv=>whnf);try exact trivial
  ·have e0:h.l.getD ((i:Nat):Int).toNat c0=h.at' i:=by rw[hi0];rfl
   rw[e0]
   refine⟨i+1,⟨by omega,by dsimp only;omega⟩,some [some 0],?_⟩
   (repeat' ((conv=>whnf);first|(with_reducible first|apply spl|apply spl'|refine iJ ?_)<;>intro hc<;>try(exfalso;omega)|refine vcq ?_|refine dr 14 ?_));all_goals(try conv=>whnf);try exact trivial
  ·obtain rfl:i=h.l.length:=by omega
   refine⟨_,rfl,?_⟩
   (repeat' ((conv=>whnf);first|(with_reducible first|apply spl|apply spl'|refine iJ ?_)<;>intro hc<;>try(exfalso;omega)|refine vcq ?_|refine dr 14 ?_));all_goals(try conv=>whnf);try exact trivial
theorem latF_ge (h:Hist):∀n i,i<n→(h.at' i).f≤latF h n∧(h.at' i).t≤latF h n
 |0,i,hi=>by omega
 |n+1,i,hi=>by
  unfold latF
  rcases Nat.lt_or_eq_of_le (show i≤n by omega) with q|rfl
  ·have:=latF_ge h n i q;omega
  ·omega
theorem latF_lo (h:Hist):∀n,-1≤latF h n
 |0=>by unfold latF;omega
 |n+1=>by unfold latF;have:=latF_lo h n;omega
end Ho
namespace Ho
theorem prop_congr {p q:Prop} {d:Decidable p} {e:Decidable q} (h:p↔q):V.prop p d=V.prop q e:=by
 have x:p=q:=propext h
 subst x
 exact congrArg (V.prop p) (Subsingleton.elim _ _)
end Ho
end Go.Proofs
namespace Go.Sx
open Go
variable {P:Program}
end Go.Sx
namespace Go.Sx
open Go
variable {P:Program}
theorem Sat.recell {I:Nat→Prop} {η:Eta} {w:World} {H:List O} (h:Sat I η w H) {k:Nat} {ty:TypeId} {vs vs':List V} (hk:H[k]? = some (.cells ty vs)) (hd:∀e,η[k]? = some e→SatO I η w e (.cells ty vs')) :
  Sat I η w (H.set k (.cells ty vs'))∧own η (H.set k (.cells ty vs'))=own η H:=by
 have hkl:k<H.length:=(List.getElem?_eq_some_iff.1 hk).1
 have back:∀(id:Nat) (o:O),(H.set k (.cells ty vs'))[id]? = some o→∃o0,H[id]? = some o0∧(∀e b,o.has e b↔o0.has e b):=by
  intro id o ho
  rw[List.getElem?_set] at ho
  by_cases hi:k=id
  ·subst hi
   rw[if_pos rfl,if_pos hkl] at ho
   cases ho
   exact⟨_,hk,fun e b=>Iff.rfl⟩
  ·rw[if_neg hi] at ho
   exact⟨o,ho,fun _ _=>Iff.rfl⟩
 have forth:∀(id:Nat) (o0:O),H[id]? = some o0→∃o,(H.set k (.cells ty vs'))[id]? = some o∧(∀e b,o.has e b↔o0.has e b):=by
  intro id o0 ho
  by_cases hi:k=id
  ·subst hi
   rw[hk] at ho
   cases ho
   exact⟨.cells ty vs',by rw[List.getElem?_set,if_pos rfl,if_pos hkl],fun e b=>Iff.rfl⟩
  ·exact⟨o0,by rw[List.getElem?_set,if_neg hi];exact ho,fun _ _=>Iff.rfl⟩
 have hown:∀b,own η (H.set k (.cells ty vs')) b↔own η H b:=by
  intro b
  constructor
  ·rintro⟨id,e,o,h1,h2,h3⟩
   obtain⟨o0,g1,g2⟩:=back id o h2
   exact⟨id,e,o0,h1,g1,(g2 e b).1 h3⟩
  ·rintro⟨id,e,o,h1,h2,h3⟩
   obtain⟨o0,g1,g2⟩:=forth id o h2
   exact⟨id,e,o0,h1,g1,(g2 e b).2 h3⟩
 refine⟨⟨by rw[List.length_set];exact h.len,?_,?_,fun b hb=>h.notI b ((hown b).1 hb),fun b hb=>h.lt b ((hown b).1 hb),h.ilt⟩,?_⟩
 ·intro id e o h1 h2
  rw[List.getElem?_set] at h2
  by_cases hi:k=id
  ·subst hi
   rw[if_pos rfl,if_pos hkl] at h2
   cases h2
   exact hd e h1
  ·rw[if_neg hi] at h2
   exact h.obj id e o h1 h2
 ·intro id id' b e e' o o' h1 h2 h3 h4 l1 l2
  obtain⟨p0,g1,g2⟩:=back id o h3
  obtain⟨p1,g3,g4⟩:=back id' o' h4
  exact h.apart id id' b e e' p0 p1 h1 h2 g1 g3 ((g2 e b).1 l1) ((g4 e' b).1 l2)
 ·unfold own
  congr 1
  funext b
  exact propext (hown b)
theorem callee_fzc {g:FuncId} {keep:Bool} {args args':List V} {R0:V→Prop} {H:List O} {K:V→List O→Prop} {ps ps2:List Prop} {ids:List Nat} (k:Nat) {ty:TypeId} {vs vs':List V} (h:a0o P g keep args' R0)
  (hf:frzL (frzV 8 H) args=some (ps,ids,args')) (hk0:H[k]? = some (.cells ty vs)) (hf2:frzL (frzV 8 H) vs=some (ps2,ids,vs')) (hn:ids.contains k=false) (hp:∀p∈ps,p) (hp2:∀p∈ps2,p)
  (hk:∀ret,R0 ret→K ret ((goneAt ids H).set k (.cells ty vs'))):Callee P g args H K:=by
 unfold Callee
 refine⟨h.1,fun I η w vals hS hd=>?_⟩
 obtain⟨s1,m1,st1⟩:=hS.freeze ids
 have hfr:∀(l l':List V) (qs:List Prop) (xs:List Value),frzL (frzV 8 H) l=some (qs,ids,l')→(∀p∈qs,p)→DenL I η w l xs→DenL (frzI I η H ids) [] w l' xs:=fun l l' qs xs e1 e2 e3=>
  frzL_sound (C:=fun id=>∀e o b,η[id]? = some e→H[id]? = some o→o.has e b→frzI I η H ids b) (fun v v' ps ids x=>frzV_sound hS.obj (fun b hb=>.inl hb) 8 v v' ps ids x) l l' qs ids xs e1 e2
   (fun id hid e o b he ho hb=>.inr ⟨id,hid,e,o,he,ho,hb⟩) e3
 have hd':=hfr args args' ps vals hf hp hd
 have hkk:(goneAt ids H)[k]? = some (.cells ty vs):=by
  have key:∀(l:List Nat) (H:List O),l.contains k=false→H[k]? = some (.cells ty vs)→(goneAt l H)[k]? = some (.cells ty vs):=by
   intro l
   induction l with
   |nil=>intro H _ h;exact h
   |cons i l ih=>
    intro H hc h
    rw[List.contains_cons] at hc
    simp only[Bool.or_eq_false_iff,beq_eq_false_iff_ne] at hc
    refine ih _ hc.2 ?_
    rw[a0s,List.getElem?_set,if_neg (fun e=>hc.1 e.symm)]
    exact h
  exact key ids H hn hk0
 have hη:∀e,η[k]? = some e→SatO (frzI I η H ids) η w e (.cells ty vs'):=fun e he=>by
  obtain⟨b,c,e1,xs,e2,e3,e4⟩:=hS.obj k e _ he hk0
  refine⟨b,c,e1,xs,e2,e3,?_⟩
  have:=hfr vs vs' ps2 xs hf2 hp2 e4
  exact DenL.mono ⟨fun _ _ he _=>by simp at he,fun b hb=>hb,fun _ _=>rfl⟩ _ _ this
 obtain⟨s2,hown⟩:=s1.recell hkk hη
 refine(h.2 _ w vals s2.ilt hd').mono ?_
 rintro e w' ⟨ret,v,rfl,hr,hden,hpr⟩
 obtain⟨s3,m3,st3⟩:=s2.pres hpr
 refine⟨grow (frzI I η H ids) w w',η,(goneAt ids H).set k (.cells ty vs'),ret,v,rfl,hk ret hr,s3,?_,m1.trans m3,st1.trans ?_⟩
 ·refine Den.mono ⟨fun _ _ he _=>by simp at he,fun b hb=>?_,fun _ _=>rfl⟩ _ _ hden
  rcases hb with hb|hb
  ·exact .inl hb.2
  ·exact .inr hb
 ·rw[←hown]
  exact st3
end Go.Sx
namespace Go.Proofs
open Go Go.Sx
set_option maxRecDepth 100000
set_option maxHeartbeats 40000000
namespace Ho
theorem copy14 (h:Hist) (hl:h.l.length≤1000000):NewC Tryz.prog 11 [h.w] (fun r H=>r=.agg [.int .i64 h.n,.osl 0 h.l.length]∧H=[.row 48 5 h.l.length (a0u Cmd.c c0 h.l) false]):=by
 refine newC_ent Tryz.E_ok Tryz.func11 rfl (by kernel_rfl) ?_
 refine x5 ?_
 refine⟨_,_,⟨rfl,rfl⟩,some [some 3],?_⟩
 exact xc19
def addC (h:Hist) (c:Cmd):Hist:=⟨h.n,h.l++[c]⟩
theorem addC_add {h:Hist} (g:h.Ok) {c:Cmd} (hc:∀i,i<h.l.length→(h.at' i).f<c.f∧(h.at' i).t<c.f):Add h (addC h c) c:=by
 refine⟨⟨rfl,fun i hi=>?_⟩,g,by simp[addC],?_,hc⟩
 ·unfold addC Hist.at'
  simp[List.getD_eq_getElem?_getD,List.getElem?_append_left hi]
 ·unfold addC Hist.at'
  simp[List.getD_eq_getElem?_getD]
theorem lst_len (P:Int→Prop):(lstOf P).length≤101:=by
 unfold lstOf
 refine Nat.le_trans (List.length_filter_le ..) ?_
 simp
theorem lst_ex {h:Hist} (g:h.Ok) {b:Nat} (hb:b<h.nn):lstOf (h.rd b)=[]↔¬h.Legal:=by
 rw[←Hist.rd_ex (h:=h) b]
 constructor
 ·rintro e ⟨v,hv⟩
  have:v∈lstOf (h.rd b):=mem_lstOf.2 ⟨g.rd_range hb hv,hv⟩
  rw[e] at this
  cases this
 ·intro q
  rw[List.eq_nil_iff_forall_not_mem]
  exact fun v hv=>q ⟨v,(mem_lstOf.1 hv).2⟩
theorem legal_ok {h:Hist} (hn:h.Near) (g:h.Ok):a0o Tryz.prog 16 false [h.w] (·=.tup [.prop h.Legal (Classical.propDecidable _),.int .i64 0]):=(legal9 h hn).mono fun v e=>by
 rw[e,Hist.chk_of g]
 exact congrArg (fun x=>V.tup [x,.int .i64 0]) (prop_congr ⟨fun q=>q.2,fun q=>⟨g,q⟩⟩)
theorem reads_ok {h:Hist} (hn:h.Near) (g:h.Ok) {b:Nat} (_hb:b<h.nn) (hb2:0≤(b:Int)∧(b:Int)≤h.n-1):a0o Tryz.prog 23 true [h.w,.int .i64 b] (·=.tup [.sl 1 (lstOf (h.rd b)).length (a0u intC 0 (lstOf (h.rd b))),.int .i64 (if lstOf (h.rd b)=[] then 3 else 0)]):=(reads15 h hn b).mono fun v e=>by
 have e0:h.errB (b:Int)=0:=Hist.errB_ok g hb2
 rw[e]
 unfold Hist.ifB Hist.errR
 rw[if_pos e0,if_pos e0,Int.toNat_natCast]
end Ho
namespace Ho
theorem addC_ok {h:Hist} (g:h.Ok) {c:Cmd} (hl:h.l.length<10) (hc:c.Ok h.n) (hb:∀i,i<h.l.length→(h.at' i).f<c.f∧(h.at' i).t<c.f):(addC h c).Ok:=by
 have a:=addC_add g hb
 have hlen:(addC h c).l.length=h.l.length+1:=a.len
 refine⟨by rw[a.n];exact g.n,by omega,fun i hi=>?_,fun i hi k hk hne=>?_⟩
 ·rw[hlen] at hi
  rw[a.n]
  rcases Nat.lt_or_ge i h.l.length with q|q
  ·rw[a.at' i q];exact g.cmd i q
  ·obtain rfl:i=h.l.length:=by omega
   rw[a.last];exact hc
 ·rw[hlen] at hi hk
  unfold Cmd.Ok at hc
  rcases Nat.lt_or_ge i h.l.length with q|q
  ·rw[a.at' i q]
   have c1:=hb i q
   have c2:=g.cmd i q
   unfold Cmd.Ok at c2
   rcases Nat.lt_or_ge k h.l.length with r|r
   ·rw[a.at' k r];exact g.two i q k r hne
   ·obtain rfl:k=h.l.length:=by omega
    rw[a.last]
    unfold Cmd.Bad
    omega
  ·obtain rfl:i=h.l.length:=by omega
   rw[a.last]
   have r:k<h.l.length:=by omega
   rw[a.at' k r]
   have c1:=hb k r
   have c2:=g.cmd k r
   unfold Cmd.Ok at c2
   unfold Cmd.Bad
   omega
theorem falls_ok {h:Hist} (hn:h.Near) (g:h.Ok) {b:Nat} (_hb:b<h.nn) (hb2:0≤(b:Int)∧(b:Int)≤h.n-1):a0o Tryz.prog 24 true [h.w,.int .i64 b] (·=.tup [.sl 1 (lstOf (h.fl b)).length (a0u intC 0 (lstOf (h.fl b))),.int .i64 (if lstOf (h.fl b)=[] then 3 else 0)]):=(falls19 h hn b).mono fun v e=>by
 have e0:h.errB (b:Int)=0:=Hist.errB_ok g hb2
 rw[e]
 unfold Hist.ifB Hist.errR
 rw[if_pos e0,if_pos e0,Int.toNat_natCast]
theorem lst_exf {h:Hist} (g:h.Ok) {b:Nat} (hb:b<h.nn):lstOf (h.fl b)=[]↔¬h.Legal:=by
 rw[←g.fl_ex b]
 constructor
 ·rintro e ⟨v,hv⟩
  have:v∈lstOf (h.fl b):=mem_lstOf.2 ⟨g.fl_range hb hv,hv⟩
  rw[e] at this
  cases this
 ·intro q
  rw[List.eq_nil_iff_forall_not_mem]
  exact fun v hv=>q ⟨v,(mem_lstOf.1 hv).2⟩
theorem next5 (h:Hist) (hl:h.l.length≤9223372036854775807) (b v:Int):a0o Tryz.prog 5 false [h.w,.int .i64 b,.int .i64 v] (·=.prop True inferInstance):=by
 refine a0b Tryz.E_ok Tryz.func5 rfl (by kernel_rfl) ?_
 (repeat' ((conv=>whnf);first|(with_reducible first|apply spl|apply spl'|refine iJ ?_)<;>intro hc<;>try(exfalso;omega)|refine vcq ?_|refine dr 6 ?_));all_goals(try conv=>whnf);try exact trivial
 refine a0d (latest13 h hl) rfl ?_
 rintro _ rfl
 (repeat' ((conv=>whnf);first|(with_reducible first|apply spl|apply spl'|refine iJ ?_)<;>intro hc<;>try(exfalso;omega)|refine vcq ?_|refine dr 6 ?_));all_goals(try conv=>whnf);try exact trivial
 refine a0d (valid7 h hl) rfl ?_
 rintro _ rfl
 (repeat' ((conv=>whnf);first|(with_reducible first|apply spl|apply spl'|refine iJ ?_)<;>intro hc<;>try(exfalso;omega)|refine vcq ?_|refine dr 6 ?_));all_goals((try conv=>whnf);try exact trivial);(repeat' ((first|(refine a0d (works8) rfl ?_;rintro _ rfl)|(refine a0f (works8) rfl ?_)|(refine a0l (fun _=>works8) rfl ?_));(repeat' ((conv=>whnf);first|(with_reducible first|apply spl|apply spl'|refine iJ ?_)<;>intro hc<;>try(exfalso;omega)|refine vcq ?_|refine dr 6 ?_));all_goals((try conv=>whnf);try exact trivial)))
 ·refine⟨_,rfl,?_⟩
  exact⟨Iff.rfl,trivial⟩
 ·obtain⟨hq,hl4,hb,hv,hT⟩:(h.Near∧h.Ok)∧h.l.length≤4∧(0≤b∧b≤h.n-1)∧(-1≤v∧v≤99)∧latF h h.l.length≤990:=by
   refine⟨Classical.byContradiction fun q=>hc (.inl (.inl (.inl (.inl (.inl (.inl q)))))),?_⟩
   omega
  clear hc
  obtain⟨hn,g⟩:=hq
  have hnn:=g.nn
  have hlo:=latF_lo h h.l.length
  have hge:=latF_ge h h.l.length
  generalize latF h h.l.length=T at *
  obtain⟨bn,rfl⟩:∃bn:Nat,b=bn:=⟨b.toNat,by omega⟩
  have hbn:bn<h.nn:=by omega
  have hR:=reads_ok hn g hbn hb
  have hF:=falls_ok hn g hbn hb
  have hL:=legal_ok hn g
  have er:=lst_ex g hbn
  have ef:=lst_exf g hbn
  have la:=lst_len (h.rd bn)
  have lb:=lst_len (h.fl bn)
  have hmr:v∈lstOf (h.rd bn)↔h.rd bn v:=by rw[mem_lstOf];exact⟨fun q=>q.2,fun q=>⟨hv,q⟩⟩
  have hmf:v∈lstOf (h.fl bn)↔h.fl bn v:=by rw[mem_lstOf];exact⟨fun q=>q.2,fun q=>⟨hv,q⟩⟩
  generalize lstOf (h.rd bn)=ra at *
  generalize lstOf (h.fl bn)=rb at *
  refine a0d hR rfl ?_
  rintro _ rfl
  (repeat' ((conv=>whnf);first|(with_reducible first|apply spl|apply spl'|refine iJ ?_)<;>intro hc<;>try(exfalso;omega)|refine vcq ?_|refine dr 6 ?_));all_goals(try conv=>whnf);try exact trivial
  refine a0d hF rfl ?_
  rintro _ rfl
  (repeat' ((conv=>whnf);first|(with_reducible first|apply spl|apply spl'|refine iJ ?_)<;>intro hc<;>try(exfalso;omega)|refine vcq ?_|refine dr 6 ?_));all_goals(try conv=>whnf);try exact trivial
  refine a0d hL rfl ?_
  rintro _ rfl
  (repeat' ((conv=>whnf);first|(with_reducible first|apply spl|apply spl'|refine iJ ?_)<;>intro hc<;>try(exfalso;omega)|refine vcq ?_|refine dr 6 ?_));all_goals(try conv=>whnf);try exact trivial
  ·exfalso
   have hab:ra=[]↔rb=[]:=by rw[er,ef]
   by_cases e:ra=[]
   ·rw[if_pos e,if_pos (hab.1 e)] at hc
    have:=er.1 e
    rcases hc with((q|q)|q)|q
    ·omega
    ·omega
    ·exact q ⟨fun r=>absurd r this,fun r=>by omega⟩
    ·exact q.2 rfl
   ·rw[if_neg e,if_neg (fun r=>e (hab.2 r))] at hc
    have:h.Legal:=Classical.byContradiction fun r=>e (er.2 r)
    rcases hc with((q|q)|q)|q
    ·omega
    ·omega
    ·exact q ⟨fun _=>rfl,fun _=>this⟩
    ·exact q.1 this
  ·clear hc
   refine ncall_intro (copy14 h (by omega)) rfl ?_
   (repeat' ((conv=>whnf);first|(with_reducible first|apply spl|apply spl'|refine iJ ?_)<;>intro hc<;>try(exfalso;omega)|refine vcq ?_|refine dr 6 ?_));all_goals(try conv=>whnf);try exact trivial
   refine ncall_intro (copy14 h (by omega)) rfl ?_
   (repeat' ((conv=>whnf);first|(with_reducible first|apply spl|apply spl'|refine iJ ?_)<;>intro hc<;>try(exfalso;omega)|refine vcq ?_|refine dr 6 ?_));all_goals(try conv=>whnf);try exact trivial
   have hck:∀i,i<h.l.length→(h.at' i).f<T+1∧(h.at' i).t<T+1:=fun i hi=>by have:=hge i hi;omega
   have og:(addC h ⟨10,bn,v,T+2,T+3⟩).Ok:=addC_ok g (by omega) (by unfold Cmd.Ok;dsimp only;omega) (fun i hi=>by have:=hck i hi;dsimp only;omega)
   have oa:Add h (addC h ⟨10,bn,v,T+2,T+3⟩) ⟨10,bn,v,T+2,T+3⟩:=addC_add g (fun i hi=>by have:=hck i hi;dsimp only;omega)
   have fg:(addC h ⟨9,0,0,T+1,T+1⟩).Ok:=addC_ok g (by omega) (by unfold Cmd.Ok;dsimp only;omega) (fun i hi=>by have:=hck i hi;dsimp only;omega)
   have fa:Add h (addC h ⟨9,0,0,T+1,T+1⟩) ⟨9,0,0,T+1,T+1⟩:=addC_add g (fun i hi=>by have:=hck i hi;dsimp only;omega)
   have fl:(addC h ⟨9,0,0,T+1,T+1⟩).l.length=h.l.length+1:=fa.len
   have fk:∀i,i<(addC h ⟨9,0,0,T+1,T+1⟩).l.length→((addC h ⟨9,0,0,T+1,T+1⟩).at' i).f<T+2∧((addC h ⟨9,0,0,T+1,T+1⟩).at' i).t<T+2:=by
    intro i hi
    rcases Nat.lt_or_ge i h.l.length with q|q
    ·rw[fa.at' i q]
     have:=hck i q
     omega
    ·obtain rfl:i=h.l.length:=by omega
     rw[fa.last]
     dsimp only
     omega
   have pg:(addC (addC h ⟨9,0,0,T+1,T+1⟩) ⟨10,bn,v,T+2,T+3⟩).Ok:=addC_ok fg (by omega) (by unfold Cmd.Ok;dsimp only[addC];omega) fk
   have pa:Add (addC h ⟨9,0,0,T+1,T+1⟩) (addC (addC h ⟨9,0,0,T+1,T+1⟩) ⟨10,bn,v,T+2,T+3⟩) ⟨10,bn,v,T+2,T+3⟩:=addC_add fg fk
   have ho:=oa.next_get rfl (by dsimp only;omega) (by dsimp only;omega)
   have hp:=fa.next_fall rfl (by dsimp only;omega) (by dsimp only;omega) pa rfl (by dsimp only;omega) (by dsimp only;omega) (by dsimp only;omega)
   have hFO:∀i,i<h.l.length+1→appF h.l.length (a0u Cmd.c c0 h.l) (fun x=>[.int .i64 10,.int .i64 bn,.int .i64 v,.int .i64 (T+2),.int .i64 (T+3)]) i=a0u Cmd.c c0 (addC h ⟨10,bn,v,T+2,T+3⟩).l i:=
    a1r (c:=Cmd.c) (a:=⟨10,bn,v,T+2,T+3⟩) (l:=h.l) rfl (fun _ _=>rfl)
   have hFP:∀i,i<h.l.length+2→appF h.l.length (a0u Cmd.c c0 h.l) (fun i=>Sx.get [] [[.int .i64 9,.int .i64 0,.int .i64 0,.int .i64 (T+1),.int .i64 (T+1)],[.int .i64 10,.int .i64 bn,.int .i64 v,.int .i64 (T+2),.int .i64 (T+3)]] i) i=a0u Cmd.c c0 (addC (addC h ⟨9,0,0,T+1,T+1⟩) ⟨10,bn,v,T+2,T+3⟩).l i:=by
    intro i hi
    show _=Cmd.c ((addC (addC h ⟨9,0,0,T+1,T+1⟩) ⟨10,bn,v,T+2,T+3⟩).at' i)
    unfold appF
    by_cases q:i<h.l.length
    ·rw[if_pos q,pa.at' i (by omega),fa.at' i q]
     rfl
    ·rw[if_neg q]
     by_cases q2:i=h.l.length
     ·subst q2
      rw[pa.at' _ (by omega),fa.last,Nat.sub_self]
      rfl
     ·obtain rfl:i=(addC h ⟨9,0,0,T+1,T+1⟩).l.length:=by omega
      rw[pa.last,fl,Nat.add_sub_cancel_left]
      rfl
   have ol:(addC h ⟨10,bn,v,T+2,T+3⟩).l.length=h.l.length+1:=oa.len
   have pl:(addC (addC h ⟨9,0,0,T+1,T+1⟩) ⟨10,bn,v,T+2,T+3⟩).l.length=h.l.length+2:=by rw[pa.len,fl]
   have hn2:=hn.2 g
   have on:(addC h ⟨10,bn,v,T+2,T+3⟩).Near:=⟨by omega,fun _=>⟨hn2.1,by omega⟩⟩
   have pn:(addC (addC h ⟨9,0,0,T+1,T+1⟩) ⟨10,bn,v,T+2,T+3⟩).Near:=⟨by omega,fun _=>⟨hn2.1,by omega⟩⟩
   have on':(addC h ⟨10,bn,v,T+2,T+3⟩).n=h.n:=rfl
   have pn':(addC (addC h ⟨9,0,0,T+1,T+1⟩) ⟨10,bn,v,T+2,T+3⟩).n=h.n:=rfl
   generalize addC (addC h ⟨9,0,0,T+1,T+1⟩) ⟨10,bn,v,T+2,T+3⟩=p at *
   generalize addC h ⟨10,bn,v,T+2,T+3⟩=o at *
   generalize appF h.l.length (a0u Cmd.c c0 h.l) (fun x=>[.int .i64 10,.int .i64 bn,.int .i64 v,.int .i64 (T+2),.int .i64 (T+3)])=FO at *
   generalize appF h.l.length (a0u Cmd.c c0 h.l) (fun i=>Sx.get [] [[.int .i64 9,.int .i64 0,.int .i64 0,.int .i64 (T+1),.int .i64 (T+1)],[.int .i64 10,.int .i64 bn,.int .i64 v,.int .i64 (T+2),.int .i64 (T+3)]] i)=FP at *
   have hLo:a0o Tryz.prog 16 false [.agg [.int .i64 h.n,.sl 5 (h.l.length+1) FO]] (·=.tup [.prop o.Legal (Classical.propDecidable _),.int .i64 0]):=a0o.view (legal_ok on og) (by
    unfold Hist.w
    rw[on',ol]
    (repeat' ((conv=>whnf);first|(with_reducible first|apply spl|apply spl'|refine iJ ?_)<;>intro hc<;>try(exfalso;omega)|refine vcq ?_|refine dr 6 ?_));all_goals((try conv=>whnf);try exact trivial))
   have hLp:a0o Tryz.prog 16 false [.agg [.int .i64 h.n,.sl 5 (h.l.length+2) FP]] (·=.tup [.prop p.Legal (Classical.propDecidable _),.int .i64 0]):=a0o.view (legal_ok pn pg) (by
    unfold Hist.w
    rw[pn',pl]
    (repeat' ((conv=>whnf);first|(with_reducible first|apply spl|apply spl'|refine iJ ?_)<;>intro hc<;>try(exfalso;omega)|refine vcq ?_|refine dr 6 ?_));all_goals((try conv=>whnf);try exact trivial))
   have e1:o.Legal↔v∈ra:=by rw[hmr];exact ho
   have e2:p.Legal↔v∈rb:=by rw[hmf];exact hp
   clear hFO hFP ho hp oa fa pa fg fl fk og pg on pn on' pn' ol pl hck
   refine callee_fzc 4 hLo rfl rfl rfl rfl ?_ ?_ ?_
   ·simp[a3a]
   ·simp[a3a]
   rintro _ rfl
   (repeat' ((conv=>whnf);first|(with_reducible first|apply spl|apply spl'|refine iJ ?_)<;>intro hc<;>try(exfalso;omega)|refine vcq ?_|refine dr 6 ?_));all_goals(try conv=>whnf);try exact trivial
   refine callee_fzc 5 hLp rfl rfl rfl rfl ?_ ?_ ?_
   ·simp[a3a]
   ·simp[a3a]
   rintro _ rfl
   (repeat' ((conv=>whnf);first|(with_reducible first|apply spl|apply spl'|refine iJ ?_)<;>intro hc<;>try(exfalso;omega)|refine vcq ?_|refine dr 6 ?_));all_goals(try conv=>whnf);try exact trivial
   refine a0d (has16 ra v (Nat.le_trans la (by omega))) rfl ?_
   rintro _ rfl
   (repeat' ((conv=>whnf);first|(with_reducible first|apply spl|apply spl'|refine iJ ?_)<;>intro hc<;>try(exfalso;omega)|refine vcq ?_|refine dr 6 ?_));all_goals(try conv=>whnf);try exact trivial
   all_goals try exact absurd e1 (by assumption)
   refine a0d (has16 rb v (Nat.le_trans lb (by omega))) rfl ?_
   rintro _ rfl
   (repeat' ((conv=>whnf);first|(with_reducible first|apply spl|apply spl'|refine iJ ?_)<;>intro hc<;>try(exfalso;omega)|refine vcq ?_|refine dr 6 ?_));all_goals(try conv=>whnf);try exact trivial
   all_goals try exact absurd e2 (by assumption)
   refine a0d works8 rfl ?_
   rintro _ rfl
   (repeat' ((conv=>whnf);first|(with_reducible first|apply spl|apply spl'|refine iJ ?_)<;>intro hc<;>try(exfalso;omega)|refine vcq ?_|refine dr 6 ?_));all_goals(try conv=>whnf);try exact trivial
   refine⟨_,rfl,?_⟩
   exact⟨Iff.rfl,trivial⟩
end Ho
end Go.Proofs
