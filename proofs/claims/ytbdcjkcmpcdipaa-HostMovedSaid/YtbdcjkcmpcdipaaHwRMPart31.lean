/- Own work: texts of the proof of a law (HwS2, HwU, SyCfz, HwZ, HwO, HwP). No condition. -/
import Derived.Test.YtbdcjkcmpcdipaaPart30
namespace Go.Proofs
open Go Go.Sx
set_option maxRecDepth 100000
set_option maxHeartbeats 40000000
namespace Ho
def latF (h:Hist):Nat→Int
 |0=>-1
 |i+1=>max (max (latF h i) (h.at' i).f) (h.at' i).t
theorem latest13 (h:Hist) (hl:h.l.length≤9223372036854775807):a0o Try.prog 13 false [h.w] (·=.int .i64 (latF h h.l.length)):=by
 refine a0b Try.E_ok Try.func13 rfl (by kernel_rfl) ?_
 (repeat' ((conv=>whnf);first|(with_reducible first|apply spl|apply spl'|refine iJ ?_)<;>intro hc<;>try(exfalso;omega)|refine vcq ?_|refine dr 14 ?_));all_goals(try conv=>whnf);try exact trivial
 refine⟨Nat,fun i=>i≤h.l.length,fun i=>h.l.length-i,fun i=>[(4,.int .i64 (i:Nat)),(3,.int .i64 (latF h i))],fun _=>[],fun _=>[],0,⟨by omega,some [some 0],?_⟩,?_⟩
 ·(repeat' ((conv=>whnf);first|(with_reducible first|apply spl|apply spl'|refine iJ ?_)<;>intro hc<;>try(exfalso;omega)|refine vcq ?_|refine dr 14 ?_));all_goals(try conv=>whnf);try exact trivial
 ·intro i hi
  have hi0:((i:Nat):Int).toNat=i:=by omega
  (repeat' ((conv=>whnf);first|(with_reducible first|apply spl|apply spl'|refine iJ ?_)<;>intro hc<;>try(exfalso;omega)|refine vcq ?_|refine dr 14 ?_));all_goals(try conv=>whnf);try exact trivial
  ·have e0:h.l.getD ((i:Nat):Int).toNat c0=h.at' i:=by rw[hi0];rfl
   rw[e0]
   refine⟨i+1,⟨by omega,by dsimp only;omega⟩,some [some 0],?_⟩
   (repeat' ((conv=>whnf);first|(with_reducible first|apply spl|apply spl'|refine iJ ?_)<;>intro hc<;>try(exfalso;omega)|refine vcq ?_|refine dr 14 ?_));all_goals(try conv=>whnf);try exact trivial
  ·obtain rfl:i=h.l.length:=by omega
   refine⟨_,rfl,?_⟩
   (repeat' ((conv=>whnf);first|(with_reducible first|apply spl|apply spl'|refine iJ ?_)<;>intro hc<;>try(exfalso;omega)|refine vcq ?_|refine dr 14 ?_));all_goals(try conv=>whnf);try exact trivial
theorem latF_ge (h:Hist):∀n i,i<n→(h.at' i).f≤latF h n∧(h.at' i).t≤latF h n
 |0,i,hi=>by omega
 |n+1,i,hi=>by
  unfold latF
  rcases Nat.lt_or_eq_of_le (show i≤n by omega) with q|rfl
  ·have:=latF_ge h n i q;omega
  ·omega
theorem latF_lo (h:Hist):∀n,-1≤latF h n
 |0=>by unfold latF;omega
 |n+1=>by unfold latF;have:=latF_lo h n;omega
end Ho
namespace Ho
end Ho
end Go.Proofs
namespace Go.Sx
open Go
variable {P:Program}
end Go.Sx
namespace Go.Sx
open Go
variable {P:Program}
theorem Sat.recell {I:Nat→Prop} {η:Eta} {w:World} {H:List O} (h:Sat I η w H) {k:Nat} {ty:TypeId} {vs vs':List V} (hk:H[k]? = some (.cells ty vs)) (hd:∀e,η[k]? = some e→SatO I η w e (.cells ty vs')) :
  Sat I η w (H.set k (.cells ty vs'))∧own η (H.set k (.cells ty vs'))=own η H:=by
 have hkl:k<H.length:=(List.getElem?_eq_some_iff.1 hk).1
 have back:∀(id:Nat) (o:O),(H.set k (.cells ty vs'))[id]? = some o→∃o0,H[id]? = some o0∧(∀e b,o.has e b↔o0.has e b):=by
  intro id o ho
  rw[List.getElem?_set] at ho
  by_cases hi:k=id
  ·subst hi
   rw[if_pos rfl,if_pos hkl] at ho
   cases ho
   exact⟨_,hk,fun e b=>Iff.rfl⟩
  ·rw[if_neg hi] at ho
   exact⟨o,ho,fun _ _=>Iff.rfl⟩
 have forth:∀(id:Nat) (o0:O),H[id]? = some o0→∃o,(H.set k (.cells ty vs'))[id]? = some o∧(∀e b,o.has e b↔o0.has e b):=by
  intro id o0 ho
  by_cases hi:k=id
  ·subst hi
   rw[hk] at ho
   cases ho
   exact⟨.cells ty vs',by rw[List.getElem?_set,if_pos rfl,if_pos hkl],fun e b=>Iff.rfl⟩
  ·exact⟨o0,by rw[List.getElem?_set,if_neg hi];exact ho,fun _ _=>Iff.rfl⟩
 have hown:∀b,own η (H.set k (.cells ty vs')) b↔own η H b:=by
  intro b
  constructor
  ·rintro⟨id,e,o,h1,h2,h3⟩
   obtain⟨o0,g1,g2⟩:=back id o h2
   exact⟨id,e,o0,h1,g1,(g2 e b).1 h3⟩
  ·rintro⟨id,e,o,h1,h2,h3⟩
   obtain⟨o0,g1,g2⟩:=forth id o h2
   exact⟨id,e,o0,h1,g1,(g2 e b).2 h3⟩
 refine⟨⟨by rw[List.length_set];exact h.len,?_,?_,fun b hb=>h.notI b ((hown b).1 hb),fun b hb=>h.lt b ((hown b).1 hb),h.ilt⟩,?_⟩
 ·intro id e o h1 h2
  rw[List.getElem?_set] at h2
  by_cases hi:k=id
  ·subst hi
   rw[if_pos rfl,if_pos hkl] at h2
   cases h2
   exact hd e h1
  ·rw[if_neg hi] at h2
   exact h.obj id e o h1 h2
 ·intro id id' b e e' o o' h1 h2 h3 h4 l1 l2
  obtain⟨p0,g1,g2⟩:=back id o h3
  obtain⟨p1,g3,g4⟩:=back id' o' h4
  exact h.apart id id' b e e' p0 p1 h1 h2 g1 g3 ((g2 e b).1 l1) ((g4 e' b).1 l2)
 ·unfold own
  congr 1
  funext b
  exact propext (hown b)
theorem callee_fzc {g:FuncId} {keep:Bool} {args args':List V} {R0:V→Prop} {H:List O} {K:V→List O→Prop} {ps ps2:List Prop} {ids:List Nat} (k:Nat) {ty:TypeId} {vs vs':List V} (h:a0o P g keep args' R0)
  (hf:frzL (frzV 8 H) args=some (ps,ids,args')) (hk0:H[k]? = some (.cells ty vs)) (hf2:frzL (frzV 8 H) vs=some (ps2,ids,vs')) (hn:ids.contains k=false) (hp:∀p∈ps,p) (hp2:∀p∈ps2,p)
  (hk:∀ret,R0 ret→K ret ((goneAt ids H).set k (.cells ty vs'))):Callee P g args H K:=by
 unfold Callee
 refine⟨h.1,fun I η w vals hS hd=>?_⟩
 obtain⟨s1,m1,st1⟩:=hS.freeze ids
 have hfr:∀(l l':List V) (qs:List Prop) (xs:List Value),frzL (frzV 8 H) l=some (qs,ids,l')→(∀p∈qs,p)→DenL I η w l xs→DenL (frzI I η H ids) [] w l' xs:=fun l l' qs xs e1 e2 e3=>
  frzL_sound (C:=fun id=>∀e o b,η[id]? = some e→H[id]? = some o→o.has e b→frzI I η H ids b) (fun v v' ps ids x=>frzV_sound hS.obj (fun b hb=>.inl hb) 8 v v' ps ids x) l l' qs ids xs e1 e2
   (fun id hid e o b he ho hb=>.inr ⟨id,hid,e,o,he,ho,hb⟩) e3
 have hd':=hfr args args' ps vals hf hp hd
 have hkk:(goneAt ids H)[k]? = some (.cells ty vs):=by
  have key:∀(l:List Nat) (H:List O),l.contains k=false→H[k]? = some (.cells ty vs)→(goneAt l H)[k]? = some (.cells ty vs):=by
   intro l
   induction l with
   |nil=>intro H _ h;exact h
   |cons i l ih=>
    intro H hc h
    rw[List.contains_cons] at hc
    simp only[Bool.or_eq_false_iff,beq_eq_false_iff_ne] at hc
    refine ih _ hc.2 ?_
    rw[a0s,List.getElem?_set,if_neg (fun e=>hc.1 e.symm)]
    exact h
  exact key ids H hn hk0
 have hη:∀e,η[k]? = some e→SatO (frzI I η H ids) η w e (.cells ty vs'):=fun e he=>by
  obtain⟨b,c,e1,xs,e2,e3,e4⟩:=hS.obj k e _ he hk0
  refine⟨b,c,e1,xs,e2,e3,?_⟩
  have:=hfr vs vs' ps2 xs hf2 hp2 e4
  exact DenL.mono ⟨fun _ _ he _=>by simp at he,fun b hb=>hb,fun _ _=>rfl⟩ _ _ this
 obtain⟨s2,hown⟩:=s1.recell hkk hη
 refine(h.2 _ w vals s2.ilt hd').mono ?_
 rintro e w' ⟨ret,v,rfl,hr,hden,hpr⟩
 obtain⟨s3,m3,st3⟩:=s2.pres hpr
 refine⟨grow (frzI I η H ids) w w',η,(goneAt ids H).set k (.cells ty vs'),ret,v,rfl,hk ret hr,s3,?_,m1.trans m3,st1.trans ?_⟩
 ·refine Den.mono ⟨fun _ _ he _=>by simp at he,fun b hb=>?_,fun _ _=>rfl⟩ _ _ hden
  rcases hb with hb|hb
  ·exact .inl hb.2
  ·exact .inr hb
 ·rw[←hown]
  exact st3
end Go.Sx
namespace Go.Proofs
open Go Go.Sx
set_option maxRecDepth 100000
set_option maxHeartbeats 40000000
namespace Ho
theorem copy14 (h:Hist) (hl:h.l.length≤1000000):NewC Try.prog 14 [h.w] (fun r H=>r=.agg [.int .i64 h.n,.osl 0 h.l.length]∧H=[.row 36 5 h.l.length (a0u Cmd.c c0 h.l) false]):=by
 refine newC_ent Try.E_ok Try.func14 rfl (by kernel_rfl) ?_
 (repeat' ((conv=>whnf);first|(with_reducible first|apply spl|apply spl'|refine iJ ?_)<;>intro hc<;>try(exfalso;omega)|refine vcq ?_|refine dr 2005 ?_));all_goals(try conv=>whnf);try exact trivial
 refine⟨_,_,⟨rfl,rfl⟩,some [some 3],?_⟩
 (repeat' ((conv=>whnf);first|(with_reducible first|apply spl|apply spl'|refine iJ ?_)<;>intro hc<;>try(exfalso;omega)|refine vcq ?_|refine dr 2005 ?_));all_goals(try conv=>whnf);try exact trivial
theorem lst_len (P:Int→Prop):(lstOf P).length≤101:=by
 unfold lstOf
 refine Nat.le_trans (List.length_filter_le ..) ?_
 simp
theorem reads_ok {h:Hist} (hn:h.Near) (g:h.Ok) {b:Nat} (_hb:b<h.nn) (hb2:0≤(b:Int)∧(b:Int)≤h.n-1):a0o Try.prog 15 true [h.w,.int .i64 b] (·=.tup [.sl 1 (lstOf (h.rd b)).length (a0u intC 0 (lstOf (h.rd b))),.int .i64 (if lstOf (h.rd b)=[] then 3 else 0)]):=(reads15 h hn b).mono fun v e=>by
 have e0:h.errB (b:Int)=0:=Hist.errB_ok g hb2
 rw[e]
 unfold Hist.ifB Hist.errR
 rw[if_pos e0,if_pos e0,Int.toNat_natCast]
end Ho
namespace Ho
def moF (h:Hist) (by':Int) (i j:Nat):Cmd:=if j<i then mv by' (h.at' j) else h.at' j
theorem moF_at (h:Hist) (by':Int) (i:Nat):moF h by' i i=h.at' i:=if_neg (by omega)
def sw2 (h:Hist) (c:Cmd):Cmd:=if h.n=2 then swp c else c
def swF (h:Hist) (i j:Nat):Cmd:=if j<i then sw2 h (h.at' j) else h.at' j
theorem swF_at (h:Hist) (i:Nat):swF h i i=h.at' i:=if_neg (by omega)
theorem moF_succ (h:Hist) (by':Int) {i j:Nat} (hj:j≠i):moF h by' (i+1) j=moF h by' i j:=by
 unfold moF
 by_cases e:j<i
 ·rw[if_pos e,if_pos (by omega)]
 ·rw[if_neg e,if_neg (by omega)]
theorem swF_succ (h:Hist) {i j:Nat} (hj:j≠i):swF h (i+1) j=swF h i j:=by
 unfold swF
 by_cases e:j<i
 ·rw[if_pos e,if_pos (by omega)]
 ·rw[if_neg e,if_neg (by omega)]
theorem moF_new (h:Hist) (by':Int) (i:Nat):moF h by' (i+1) i=mv by' (h.at' i):=if_pos (by omega)
theorem swF_new (h:Hist) (i:Nat):swF h (i+1) i=sw2 h (h.at' i):=if_pos (by omega)
theorem mo_one (h:Hist) (by':Int) {i k:Nat} (hk:k=i) (ht:0≤(h.at' i).t):(fun j=>spliceP (j=k) ((fun j=>spliceP (j=k) ((fun j=>Cmd.c (moF h by' i j)) j) (0+3) [.int .i64 ((h.at' i).f+by')]) j) (0+4) [.int .i64 ((h.at' i).t+by')])=fun j=>Cmd.c (moF h by' (i+1) j):=by
 subst hk
 funext j
 by_cases e:j=k
 ·rw[spliceP_pos e]
  dsimp only
  rw[spliceP_pos e,e,moF_new,moF_at]
  unfold mv
  rw[if_pos ht]
  rfl
 ·rw[a2s e]
  dsimp only
  rw[a2s e,moF_succ h by' e]
theorem mo_two (h:Hist) (by':Int) {i k:Nat} (hk:k=i) (ht:¬0≤(h.at' i).t):(fun j=>spliceP (j=k) ((fun j=>Cmd.c (moF h by' i j)) j) (0+3) [.int .i64 ((h.at' i).f+by')])=fun j=>Cmd.c (moF h by' (i+1) j):=by
 subst hk
 funext j
 by_cases e:j=k
 ·rw[spliceP_pos e,e]
  dsimp only
  rw[moF_new,moF_at]
  unfold mv
  rw[if_neg ht]
  rfl
 ·rw[a2s e,moF_succ h by' e]
theorem sw_one (h:Hist) {i k:Nat} (hk:k=i) (hc:h.n=2∧(((h.at' i).k=1∨(h.at' i).k=2)∨(h.at' i).k=10)):(fun j=>spliceP (j=k) ((fun j=>Cmd.c (swF h i j)) j) (0+1) [.int .i64 (1-(h.at' i).b)])=fun j=>Cmd.c (swF h (i+1) j):=by
 subst hk
 funext j
 by_cases e:j=k
 ·rw[spliceP_pos e,e]
  dsimp only
  rw[swF_new,swF_at]
  unfold sw2 swp
  rw[if_pos hc.1,if_pos (by omega)]
  rfl
 ·rw[a2s e,swF_succ h e]
theorem sw_two (h:Hist) {i:Nat} (hc:¬(h.n=2∧(((h.at' i).k=1∨(h.at' i).k=2)∨(h.at' i).k=10))):(fun j=>Cmd.c (swF h i j))=fun j=>Cmd.c (swF h (i+1) j):=by
 funext j
 by_cases e:j=i
 ·rw[e,swF_new,swF_at]
  unfold sw2 swp
  by_cases h2:h.n=2
  ·rw[if_pos h2,if_neg (by omega)]
  ·rw[if_neg h2]
 ·rw[swF_succ h e]
def ex2 (h:Hist):Hist:=if h.n=2 then h.swp else h
theorem ex2_n (h:Hist):(ex2 h).n=h.n:=by unfold ex2;split<;>rfl
theorem ex2_len (h:Hist):(ex2 h).l.length=h.l.length:=by
 unfold ex2
 split
 ·exact Hist.swp_len
 ·rfl
theorem ex2_ok {h:Hist} (g:h.Ok):(ex2 h).Ok:=by
 unfold ex2
 split
 ·exact g.swp (by assumption)
 ·exact g
theorem ex2_lie {h:Hist} (g:h.Ok):(ex2 h).lie=h.lie:=by
 unfold ex2
 split
 ·have h2:h.n=2:=by assumption
  exact((g.swp h2).lie_eq (g.lie_swp h2 g.lie_spec)).symm
 ·rfl
def oth (h:Hist) (b:Nat):Nat:=if h.n=2 then 1-b else b
theorem ex2_rd {h:Hist} (g:h.Ok) {b:Nat} (hb:b<h.nn):lstOf ((ex2 h).rd (oth h b))=lstOf (h.rd b):=by
 unfold ex2 oth
 by_cases h2:h.n=2
 ·rw[if_pos h2,if_pos h2]
  have hnn:h.nn=2:=by unfold Hist.nn;omega
  have e:1-b=sg b:=by
   have:b=0∨b=1:=by omega
   rcases this with rfl|rfl<;>rfl
  rw[e]
  exact congrArg lstOf (funext fun v=>propext (g.swp_rd h2 (by omega) v))
 ·rw[if_neg h2,if_neg h2]
theorem mv_lie {h:Hist} (g:h.Ok) {by':Int} (hb:0≤by') (hlim:∀i,i<h.l.length→(h.at' i).f+by'≤999∧(h.at' i).t+by'≤999):(h.mv by').lie=h.lie:=
 ((g.mv hb hlim).lie_eq (g.lie_mv hb hlim g.lie_spec)).symm
theorem mv_rd {h:Hist} (g:h.Ok) {by':Int} (hb:0≤by') (hlim:∀i,i<h.l.length→(h.at' i).f+by'≤999∧(h.at' i).t+by'≤999) (b:Nat):lstOf ((h.mv by').rd b)=lstOf (h.rd b):=
 congrArg lstOf (funext fun v=>propext ((g.same_mv hb).rd g (g.mv hb hlim) b v))
theorem mo_end (h:Hist) (by':Int) (j:Nat) (hj:j<h.l.length):Cmd.c (moF h by' h.l.length j)=a0u Cmd.c c0 (h.mv by').l j:=by
 show _=Cmd.c ((h.mv by').at' j)
 rw[Hist.mv_at hj]
 exact congrArg Cmd.c (if_pos hj)
theorem sw_end (h:Hist) (j:Nat) (hj:j<h.l.length):Cmd.c (swF h h.l.length j)=a0u Cmd.c c0 (ex2 h).l j:=by
 show _=Cmd.c ((ex2 h).at' j)
 have e:swF h h.l.length j=sw2 h (h.at' j):=if_pos hj
 rw[e]
 unfold sw2 ex2
 split
 ·rw[Hist.swp_at hj]
 ·rfl
theorem lie_ok {h:Hist} (hn:h.Near) (g:h.Ok):a0o Try.prog 10 false [h.w] (·=.tup [.int .i64 h.lie,.int .i64 0]):=(lie10v h hn).mono fun v e=>by
 rw[e,Hist.chk_of g]
 rfl
theorem moved5 (h:Hist) (hl:h.l.length≤9223372036854775807) (by':Int):a0o Try.prog 5 false [h.w,.int .i64 by'] (·=.prop True inferInstance):=by
 refine a0b Try.E_ok Try.func5 rfl (by kernel_rfl) ?_
 (repeat' ((conv=>whnf);first|(with_reducible first|apply spl|apply spl'|refine iJ ?_)<;>intro hc<;>try(exfalso;omega)|refine vcq ?_|refine dr 6 ?_|refine dr 12 ?_));all_goals(try conv=>whnf);try exact trivial
 refine a0d (valid7 h hl) rfl ?_
 rintro _ rfl
 (repeat' ((conv=>whnf);first|(with_reducible first|apply spl|apply spl'|refine iJ ?_)<;>intro hc<;>try(exfalso;omega)|refine vcq ?_|refine dr 6 ?_|refine dr 12 ?_));all_goals((try conv=>whnf);try exact trivial);(repeat' ((first|(refine a0d (works8) rfl ?_;rintro _ rfl)|(refine a0f (works8) rfl ?_)|(refine a0l (fun _=>works8) rfl ?_));(repeat' ((conv=>whnf);first|(with_reducible first|apply spl|apply spl'|refine iJ ?_)<;>intro hc<;>try(exfalso;omega)|refine vcq ?_|refine dr 6 ?_|refine dr 12 ?_));all_goals((try conv=>whnf);try exact trivial)))
 ·obtain⟨hv,hb⟩:(h.Near∧h.Ok)∧0≤by'∧by'≤999:=by
   refine⟨Classical.byContradiction fun q=>hc (.inl (.inl q)),?_⟩
   omega
  clear hc
  obtain⟨hn,g⟩:=hv
  have h40:=hn.1
  have hnn:=g.nn
  have hlo:=latF_lo h h.l.length
  refine a0d (latest13 h hl) rfl ?_
  rintro _ rfl
  have hge:=latF_ge h h.l.length
  have hhi:latF h h.l.length≤999:=by
   have key:∀n,n≤h.l.length→latF h n≤999:=by
    intro n
    induction n with
    |zero=>intro _;unfold latF;omega
    |succ n ih=>
     intro hn
     have h1:=ih (by omega)
     have h2:=g.cmd n (by omega)
     unfold latF
     unfold Cmd.Ok at h2
     omega
   exact key _ (Nat.le_refl _)
  generalize latF h h.l.length=T at *
  (repeat' ((conv=>whnf);first|(with_reducible first|apply spl|apply spl'|refine iJ ?_)<;>intro hc<;>try(exfalso;omega)|refine vcq ?_|refine dr 6 ?_|refine dr 12 ?_));all_goals((try conv=>whnf);try exact trivial);(repeat' ((first|(refine a0d (works8) rfl ?_;rintro _ rfl)|(refine a0f (works8) rfl ?_)|(refine a0l (fun _=>works8) rfl ?_));(repeat' ((conv=>whnf);first|(with_reducible first|apply spl|apply spl'|refine iJ ?_)<;>intro hc<;>try(exfalso;omega)|refine vcq ?_|refine dr 6 ?_|refine dr 12 ?_));all_goals((try conv=>whnf);try exact trivial)))
  ·refine⟨_,rfl,?_⟩
   exact⟨Iff.rfl,trivial⟩
  ·have hT:T+by'≤999:=by omega
   clear hc
   have hlim:∀i,i<h.l.length→(h.at' i).f+by'≤999∧(h.at' i).t+by'≤999:=fun i hi=>by have:=hge i hi;omega
   refine ncall_intro (copy14 h (by omega)) rfl ?_
   (repeat' ((conv=>whnf);first|(with_reducible first|apply spl|apply spl'|refine iJ ?_)<;>intro hc<;>try(exfalso;omega)|refine vcq ?_|refine dr 6 ?_|refine dr 12 ?_));all_goals(try conv=>whnf);try exact trivial
   refine ncall_intro (copy14 h (by omega)) rfl ?_
   (repeat' ((conv=>whnf);first|(with_reducible first|apply spl|apply spl'|refine iJ ?_)<;>intro hc<;>try(exfalso;omega)|refine vcq ?_|refine dr 6 ?_|refine dr 12 ?_));all_goals(try conv=>whnf);try exact trivial
   refine⟨Nat,fun i=>i≤h.l.length,fun i=>h.l.length-i,fun i=>[(7,.int .i64 (i:Nat))],fun i=>[(1,.row 36 5 h.l.length (fun j=>Cmd.c (moF h by' i j)) false),(2,.row 36 5 h.l.length (fun j=>Cmd.c (swF h i j)) false)],fun _=>[],0,⟨by omega,some [some 0,some 1,some 2,some 3,some 4],?_⟩,?_⟩
   ·(repeat' ((conv=>whnf);first|(with_reducible first|apply spl|apply spl'|refine iJ ?_)<;>intro hc<;>try(exfalso;omega)|refine vcq ?_|refine dr 6 ?_|refine dr 12 ?_));all_goals(try conv=>whnf);try exact trivial
   ·intro i hi
    have hi0:((i:Nat):Int).toNat=i:=by omega
    have hm:moF h by' i ((i:Nat):Int).toNat=h.at' i:=by rw[hi0];exact moF_at h by' i
    have hs:swF h i ((i:Nat):Int).toNat=h.at' i:=by rw[hi0];exact swF_at h i
    have c0':h.l.getD ((i:Nat):Int).toNat c0=h.at' i:=by rw[hi0];rfl
    (repeat' ((conv=>whnf);first|(with_reducible first|apply spl|apply spl'|refine iJ ?_)<;>intro hc<;>try(exfalso;omega)|refine vcq ?_|refine dr 6 ?_|refine dr 12 ?_));all_goals(try conv=>whnf);try exact trivial
    ·have hil:i<h.l.length:=by omega
     have hli:=hlim i hil
     have hck:=g.cmd i hil
     rw[hm]
     unfold Cmd.Ok at hck
     (repeat' ((conv=>whnf);first|(with_reducible first|apply spl|apply spl'|refine iJ ?_)<;>intro hc<;>try(exfalso;omega)|refine vcq ?_|refine dr 6 ?_|refine dr 12 ?_));all_goals(try conv=>whnf);try exact trivial
     ·rw[hm] at hc ⊢
      (repeat' ((conv=>whnf);first|(with_reducible first|apply spl|apply spl'|refine iJ ?_)<;>intro hc<;>try(exfalso;omega)|refine vcq ?_|refine dr 6 ?_|refine dr 12 ?_));all_goals(try conv=>whnf);try exact trivial
      ·rw[c0'] at hc ⊢
       (repeat' ((conv=>whnf);first|(with_reducible first|apply spl|apply spl'|refine iJ ?_)<;>intro hc<;>try(exfalso;omega)|refine vcq ?_|refine dr 6 ?_|refine dr 12 ?_));all_goals(try conv=>whnf);try exact trivial
       refine⟨i+1,⟨by omega,by dsimp only;omega⟩,none,?_⟩
       (repeat' ((conv=>whnf);first|(with_reducible first|apply spl|apply spl'|refine iJ ?_)<;>intro hc<;>try(exfalso;omega)|refine vcq ?_|refine dr 6 ?_|refine dr 12 ?_));all_goals(try conv=>whnf);try exact trivial
       rw[←mo_one h by' hi0 (by assumption),←sw_one h hi0 hc]
       rfl
      ·rw[c0'] at *
       refine⟨i+1,⟨by omega,by dsimp only;omega⟩,none,?_⟩
       (repeat' ((conv=>whnf);first|(with_reducible first|apply spl|apply spl'|refine iJ ?_)<;>intro hc<;>try(exfalso;omega)|refine vcq ?_|refine dr 6 ?_|refine dr 12 ?_));all_goals(try conv=>whnf);try exact trivial
       rw[←mo_one h by' hi0 (by assumption),←sw_two h (by assumption)]
       rfl
     ·rw[c0'] at hc ⊢
      rw[hm] at *
      (repeat' ((conv=>whnf);first|(with_reducible first|apply spl|apply spl'|refine iJ ?_)<;>intro hc<;>try(exfalso;omega)|refine vcq ?_|refine dr 6 ?_|refine dr 12 ?_));all_goals(try conv=>whnf);try exact trivial
      refine⟨i+1,⟨by omega,by dsimp only;omega⟩,none,?_⟩
      (repeat' ((conv=>whnf);first|(with_reducible first|apply spl|apply spl'|refine iJ ?_)<;>intro hc<;>try(exfalso;omega)|refine vcq ?_|refine dr 6 ?_|refine dr 12 ?_));all_goals(try conv=>whnf);try exact trivial
      rw[←mo_two h by' hi0 (by assumption),←sw_one h hi0 hc]
      rfl
     ·rw[c0',hm] at *
      refine⟨i+1,⟨by omega,by dsimp only;omega⟩,none,?_⟩
      (repeat' ((conv=>whnf);first|(with_reducible first|apply spl|apply spl'|refine iJ ?_)<;>intro hc<;>try(exfalso;omega)|refine vcq ?_|refine dr 6 ?_|refine dr 12 ?_));all_goals(try conv=>whnf);try exact trivial
      rw[←mo_two h by' hi0 (by assumption),←sw_two h (by assumption)]
      rfl
    ·obtain rfl:i=h.l.length:=by omega
     have og:=g.mv hb.1 hlim
     have pg:=ex2_ok g
     have on:(h.mv by').Near:=⟨by rw[Hist.mv_len];exact hn.1,fun _=>by rw[Hist.mv_len];exact hn.2 g⟩
     have pn:(ex2 h).Near:=⟨by rw[ex2_len];exact hn.1,fun _=>by rw[ex2_len,ex2_n];exact hn.2 g⟩
     have hFo:∀j,j<h.l.length→(fun j=>Cmd.c (moF h by' h.l.length j)) j=a0u Cmd.c c0 (h.mv by').l j:=mo_end h by'
     have hFp:∀j,j<h.l.length→(fun j=>Cmd.c (swF h h.l.length j)) j=a0u Cmd.c c0 (ex2 h).l j:=sw_end h
     have eol:(h.mv by').l.length=h.l.length:=Hist.mv_len
     have epl:=ex2_len h
     have eon:(h.mv by').n=h.n:=rfl
     have epn:=ex2_n h
     have elo:=mv_lie g hb.1 hlim
     have elp:=ex2_lie g
     have ero:=mv_rd g hb.1 hlim
     have erp:=fun b hb=>ex2_rd g (b:=b) hb
     have hbt:∀b,b<h.nn→oth h b<h.nn∧((oth h b:Nat):Int)=if h.n=2 then 1-(b:Int) else b:=by
      intro b hb
      unfold oth
      split<;>omega
     generalize h.mv by'=o at *
     generalize ex2 h=p at *
     generalize (fun j=>Cmd.c (moF h by' h.l.length j))=FO at *
     generalize (fun j=>Cmd.c (swF h h.l.length j))=FP at *
     clear hm hs c0' hi0 hi hc hge hhi hlo hT hlim hl
     have hLh:=lie_ok hn g
     have hLo:a0o Try.prog 10 false [.agg [.int .i64 h.n,.sl 5 h.l.length FO]] (·=.tup [.int .i64 h.lie,.int .i64 0]):=elo▸a0o.view (lie_ok on og) (by
      unfold Hist.w
      rw[eon,eol]
      (repeat' ((conv=>whnf);first|(with_reducible first|apply spl|apply spl'|refine iJ ?_)<;>intro hc<;>try(exfalso;omega)|refine vcq ?_|refine dr 6 ?_|refine dr 12 ?_));all_goals((try conv=>whnf);try exact trivial))
     have hLp:a0o Try.prog 10 false [.agg [.int .i64 h.n,.sl 5 h.l.length FP]] (·=.tup [.int .i64 h.lie,.int .i64 0]):=elp▸a0o.view (lie_ok pn pg) (by
      unfold Hist.w
      rw[epn,epl]
      (repeat' ((conv=>whnf);first|(with_reducible first|apply spl|apply spl'|refine iJ ?_)<;>intro hc<;>try(exfalso;omega)|refine vcq ?_|refine dr 6 ?_|refine dr 12 ?_));all_goals((try conv=>whnf);try exact trivial))
     have hRh:∀b:Nat,b<h.nn→a0o Try.prog 15 true [h.w,.int .i64 b] (·=.tup [.sl 1 (lstOf (h.rd b)).length (a0u intC 0 (lstOf (h.rd b))),.int .i64 (if lstOf (h.rd b)=[] then 3 else 0)]):=fun b hb=>reads_ok hn g hb (by omega)
     have hRo:∀b:Nat,b<h.nn→a0o Try.prog 15 true [.agg [.int .i64 h.n,.sl 5 h.l.length FO],.int .i64 b] (·=.tup [.sl 1 (lstOf (h.rd b)).length (a0u intC 0 (lstOf (h.rd b))),.int .i64 (if lstOf (h.rd b)=[] then 3 else 0)]):=fun b hb=>by
      have q:=reads_ok on og (b:=b) (by unfold Hist.nn;rw[eon];exact hb) (by rw[eon];omega)
      rw[ero] at q
      exact a0o.view q (by
       unfold Hist.w
       rw[eon,eol]
       (repeat' ((conv=>whnf);first|(with_reducible first|apply spl|apply spl'|refine iJ ?_)<;>intro hc<;>try(exfalso;omega)|refine vcq ?_|refine dr 6 ?_|refine dr 12 ?_));all_goals((try conv=>whnf);try exact trivial))
     have hRp:∀b:Nat,b<h.nn→a0o Try.prog 15 true [.agg [.int .i64 h.n,.sl 5 h.l.length FP],.int .i64 (if h.n=2 then 1-(b:Int) else b)] (·=.tup [.sl 1 (lstOf (h.rd b)).length (a0u intC 0 (lstOf (h.rd b))),.int .i64 (if lstOf (h.rd b)=[] then 3 else 0)]):=fun b hb=>by
      obtain⟨q1,q2⟩:=hbt b hb
      have q:=reads_ok pn pg (b:=oth h b) (by unfold Hist.nn;rw[epn];exact q1) (by rw[epn];omega)
      rw[erp b hb,q2] at q
      exact a0o.view q (by
       unfold Hist.w
       rw[epn,epl]
       (repeat' ((conv=>whnf);first|(with_reducible first|apply spl|apply spl'|refine iJ ?_)<;>intro hc<;>try(exfalso;omega)|refine vcq ?_|refine dr 6 ?_|refine dr 12 ?_));all_goals((try conv=>whnf);try exact trivial))
     have hlb:=fun b=>lst_len (h.rd b)
     obtain⟨R,hR⟩:∃R:Nat→List Int,∀b,lstOf (h.rd b)=R b:=⟨_,fun _=>rfl⟩
     simp only[hR] at hRh hRo hRp hlb
     clear hR
     clear hFo hFp og on eol eon elo ero pg pn epl epn elp erp hbt
     refine a0d hLh rfl ?_
     rintro _ rfl
     (repeat' ((conv=>whnf);first|(with_reducible first|apply spl|apply spl'|refine iJ ?_)<;>intro hc<;>try(exfalso;omega)|refine vcq ?_|refine dr 6 ?_|refine dr 12 ?_));all_goals(try conv=>whnf);try exact trivial
     refine callee_fzc 3 hLo rfl rfl rfl rfl ?_ ?_ ?_
     ·simp[a3a]
     ·simp[a3a]
     rintro _ rfl
     (repeat' ((conv=>whnf);first|(with_reducible first|apply spl|apply spl'|refine iJ ?_)<;>intro hc<;>try(exfalso;omega)|refine vcq ?_|refine dr 6 ?_|refine dr 12 ?_));all_goals(try conv=>whnf);try exact trivial
     refine callee_fzc 4 hLp rfl rfl rfl rfl ?_ ?_ ?_
     ·simp[a3a]
     ·simp[a3a]
     rintro _ rfl
     (repeat' ((conv=>whnf);first|(with_reducible first|apply spl|apply spl'|refine iJ ?_)<;>intro hc<;>try(exfalso;omega)|refine vcq ?_|refine dr 6 ?_|refine dr 12 ?_));all_goals(try conv=>whnf);try exact trivial
     clear hLh hLo hLp hc
     refine⟨Nat,fun i=>i≤h.nn,fun i=>h.nn-i,fun i=>[(15,.int .i64 (i:Nat))],fun _=>[],fun _=>[],0,⟨by omega,none,?_⟩,?_⟩
     ·(repeat' ((conv=>whnf);first|(with_reducible first|apply spl|apply spl'|refine iJ ?_)<;>intro hc<;>try(exfalso;omega)|refine vcq ?_|refine dr 6 ?_|refine dr 12 ?_));all_goals(try conv=>whnf);try exact trivial
     ·intro b hbn
      (repeat' ((conv=>whnf);first|(with_reducible first|apply spl|apply spl'|refine iJ ?_)<;>intro hc<;>try(exfalso;omega)|refine vcq ?_|refine dr 6 ?_|refine dr 12 ?_));all_goals(try conv=>whnf);try exact trivial
      rotate_left 2
      ·refine a0d works8 rfl ?_
       rintro _ rfl
       (repeat' ((conv=>whnf);first|(with_reducible first|apply spl|apply spl'|refine iJ ?_)<;>intro hc<;>try(exfalso;omega)|refine vcq ?_|refine dr 6 ?_|refine dr 12 ?_));all_goals(try conv=>whnf);try exact trivial
       refine⟨_,rfl,?_⟩
       exact⟨Iff.rfl,trivial⟩
      all_goals
       have hbl:b<h.nn:=by omega
       have hp:=hRp b hbl
       first|rw[if_pos (by assumption)] at hp|rw[if_neg (by assumption)] at hp
       have hsm:=same17 (R b) (R b) (Nat.le_trans (hlb b) (by omega)) (Nat.le_trans (hlb b) (by omega))
       refine a0d (hRh b hbl) rfl ?_
       rintro _ rfl
       (repeat' ((conv=>whnf);first|(with_reducible first|apply spl|apply spl'|refine iJ ?_)<;>intro hc<;>try(exfalso;omega)|refine vcq ?_|refine dr 6 ?_|refine dr 12 ?_));all_goals(try conv=>whnf);try exact trivial
       refine a0d (hRo b hbl) rfl ?_
       rintro _ rfl
       (repeat' ((conv=>whnf);first|(with_reducible first|apply spl|apply spl'|refine iJ ?_)<;>intro hc<;>try(exfalso;omega)|refine vcq ?_|refine dr 6 ?_|refine dr 12 ?_));all_goals(try conv=>whnf);try exact trivial
       refine a0d hp rfl ?_
       rintro _ rfl
       (repeat' ((conv=>whnf);first|(with_reducible first|apply spl|apply spl'|refine iJ ?_)<;>intro hc<;>try(exfalso;omega)|refine vcq ?_|refine dr 6 ?_|refine dr 12 ?_));all_goals(try conv=>whnf);try exact trivial
       refine a0d hsm rfl ?_
       rintro _ rfl
       (repeat' ((conv=>whnf);first|(with_reducible first|apply spl|apply spl'|refine iJ ?_)<;>intro hc<;>try(exfalso;omega)|refine vcq ?_|refine dr 6 ?_|refine dr 12 ?_));all_goals(try conv=>whnf);try exact trivial
       refine a0d hsm rfl ?_
       rintro _ rfl
       (repeat' ((conv=>whnf);first|(with_reducible first|apply spl|apply spl'|refine iJ ?_)<;>intro hc<;>try(exfalso;omega)|refine vcq ?_|refine dr 6 ?_|refine dr 12 ?_));all_goals(try conv=>whnf);try exact trivial
       ·exact absurd rfl hc
       ·refine⟨b+1,⟨by omega,by dsimp only;omega⟩,none,?_⟩
        (repeat' ((conv=>whnf);first|(with_reducible first|apply spl|apply spl'|refine iJ ?_)<;>intro hc<;>try(exfalso;omega)|refine vcq ?_|refine dr 6 ?_|refine dr 12 ?_));all_goals(try conv=>whnf);try exact trivial
       ·exact absurd rfl hc
 ·refine⟨_,rfl,?_⟩
  exact⟨Iff.rfl,trivial⟩
end Ho
end Go.Proofs
