/- Own work: texts of the proof of a law (WuK, SzPn, WuL8, WuP, WuL6, WuL6B, WuL6C). No condition. -/
import Derived.Test.YtkgjhinmndcmjaaGreatPart26
namespace Go.Proofs
open Go Go.Sx
set_option maxRecDepth 100000
set_option maxHeartbeats 40000000
end Go.Proofs
namespace Go.Sx
open Go
variable {P:Program}
end Go.Sx
namespace Go.Proofs
open Go Go.Sx
set_option maxRecDepth 100000
set_option maxHeartbeats 40000000
theorem Sv.near {s:Sv} (h:¬s.far):s.d.Z.length≤1000000∧s.x.l.length≤40∧s.sk.length≤100∧s.sec.length≤40:=by
 refine⟨?_,Nat.le_of_not_lt fun g=>h (.inl (.inl (.inl (.inr g)))),Nat.le_of_not_lt fun g=>h (.inl (.inl (.inr g))),Nat.le_of_not_lt fun g=>h (.inl (.inr g))⟩
 rcases Nat.lt_or_ge 20 s.d.Z.length with g|g
 ·exact absurd (.inl (.inl (.inl (.inl (.inl (by omega)))))) h
 ·omega
theorem Sv.few4 {s:Sv} (h:¬s.far) (he:s.err=0):s.W.length≤4:=Nat.le_of_not_lt fun g=>h (.inr ⟨he,g⟩)
theorem den_nil {I:Nat→Prop} {η:Eta} {w:World} {v:Value} {sz:Nat} {f:Nat→List V} (h:Den I η w (.lit (.slice none 0 0)) v):Den I η w (.sl sz 0 f) v:=.inl ⟨rfl,none,0,h⟩
theorem den_tup1 {I:Nat→Prop} {η:Eta} {w:World} {v:Value} {a b:V} {l:List V} (hab:∀v,Den I η w a v→Den I η w b v) (h:Den I η w (.tup (a :: l)) v):Den I η w (.tup (b :: l)) v:=by
 obtain⟨vs,h1,x,r,h2,h3,h4⟩:=h
 exact⟨vs,h1,x,r,h2,hab _ h3,h4⟩
theorem entB (s:Sv) (hz:s.d.Z.length≤1000000) (hl:s.x.l.length≤1000000) (hsk:s.sk.length≤1000000) (hsec:s.sec.length≤1000000):∃U:List Ca.Wt,(s.err=0→U=s.W)∧(s.err≠0→U=[])∧a0h Tryz.prog 24 true [.agg s.c] (·=.tup [.sl 3 U.length (a0e wtC wt0 U),.int .i64 s.err])∧a0h Tryz.prog 34 true [.agg s.c] (·=.tup [.sl 3 U.length (a0e wtC wt0 U),.int .i64 s.err]):=by
 by_cases he:s.err=0
 ·refine⟨s.W,fun _=>rfl,fun h=>absurd he h,pureWk (entriesS s hz hl hsk hsec) fun r h=>?_,pureWk (rentries34 s hz hl hsk hsec) fun r h=>?_⟩
  all_goals
   rcases h with⟨_,rfl⟩|⟨h,_⟩
   ·rw[he]
    exact⟨_,rfl,fun _ _ _ h=>h⟩
   ·exact absurd he h
 ·refine⟨[],fun h=>absurd h he,fun _=>rfl,pureWk (entriesS s hz hl hsk hsec) fun r h=>?_,pureWk (rentries34 s hz hl hsk hsec) fun r h=>?_⟩
  all_goals
   rcases h with⟨h,_⟩|⟨_,rfl⟩
   ·exact absurd h he
   ·exact⟨_,rfl,fun I w v h=>den_tup1 (fun _=>den_nil) h⟩
end Go.Proofs
namespace Go.Proofs
open Go Go.Sx
set_option maxRecDepth 100000
set_option maxHeartbeats 40000000
open Ca (Wt epW IsCrs)
theorem rowNI (o:List Nat):a0e natC 0 o=a0e intC 0 (o.map Int.ofNat):=by
 funext i
 unfold a0e
 show [V.int .i64 ((o.getD i 0:Nat):Int)]=[V.int .i64 ((o.map Int.ofNat).getD i 0)]
 rw[List.getD_eq_getElem?_getD,List.getD_eq_getElem?_getD,List.getElem?_map]
 cases o[i]?<;>rfl
theorem toNat_ofNat (o:List Nat):(o.map Int.ofNat).map Int.toNat=o:=by
 rw[List.map_map]
 simp[Function.comp_def]
def Sv.rdy (s:Sv) (l:List Int):Prop:=(¬s.far∧l.length≤20)∧s.cerr l=0
theorem Sv.cerr_nat {s:Sv} (he:s.err=0) {o:List Nat} (ho:IsCrs s.W o):s.cerr (o.map Int.ofNat)=0:=by
 have h:CrsI s.W (o.map Int.ofNat):=IsCrs.crsI ho
 unfold Sv.cerr
 rw[if_pos he,if_pos h]
section
variable {s:Sv} (hz:s.d.Z.length≤1000000) (hx:s.x.l.length≤1000000) (hsk:s.sk.length≤1000000) (hsec:s.sec.length≤1000000) (he:s.err=0)
include hz hx hsk hsec he
theorem okBest:a0h Tryz.prog 13 true [.agg s.c] (·=.tup [.sl 1 s.best.1.length (a0e natC 0 s.best.1),.int .i64 s.best.2,.int .i64 0]):=
 pureWk (best13 s hz hx hsk hsec) fun r h=>by
  rcases h with⟨_,rfl⟩|⟨h,_⟩
  ·exact⟨_,rfl,fun _ _ _ h=>h⟩
  ·exact absurd he h
theorem okEntries:a0h Tryz.prog 24 true [.agg s.c] (·=.tup [.sl 3 s.W.length (a0e wtC wt0 s.W),.int .i64 0]):=
 pureWk (entriesS s hz hx hsk hsec) fun r h=>by
  rcases h with⟨_,rfl⟩|⟨h,_⟩
  ·exact⟨_,rfl,fun _ _ _ h=>h⟩
  ·exact absurd he h
theorem okEnds {o:List Nat} (ho:IsCrs s.W o):a0h Tryz.prog 22 true [.agg s.c,.sl 1 o.length (a0e natC 0 o)] (·=.tup [.sl 2 o.length (fun k=>[.int .i64 (s.endW false o k),.int .i64 (s.endW true o k)]),.int .i64 0]):=by
 have h:=endsS s hz hx hsk hsec (o.map Int.ofNat) (by rw[List.length_map,ho.len];have:=(Sv.err_ok he).few;omega)
 rw[←rowNI,List.length_map,toNat_ofNat] at h
 exact pureWk h fun r h=>by
  rcases h with⟨_,rfl⟩|⟨h,_⟩
  ·exact⟨_,rfl,fun _ _ _ h=>h⟩
  ·exact absurd (Sv.cerr_nat he ho) h
theorem okHeld {o:List Nat} (ho:IsCrs s.W o) (x:Int) (ht:0≤x∧x≤100000):a0h Tryz.prog 16 true [.agg s.c,.sl 1 o.length (a0e natC 0 o),.int .i64 x] (·=.tup [.sl 1 s.n (mdC (s.img o (Sv.cntK (s.endW true o) x s.W.length))),.sl 1 s.n (mdC (s.img o (Sv.cntK (s.endW false o) x s.W.length))),.int .i64 0]):=by
 have h:=held16 s hz hx hsk hsec (o.map Int.ofNat) (by rw[List.length_map,ho.len];have:=(Sv.err_ok he).few;omega) x
 rw[←rowNI,List.length_map] at h
 exact pureWk h fun r h=>by
  rcases h with⟨_,_,rfl⟩|⟨_,h,_⟩|⟨h,_⟩
  ·rw[toNat_ofNat]
   exact⟨_,rfl,fun _ _ _ h=>h⟩
  ·exact absurd ht h
  ·exact absurd (Sv.cerr_nat he ho) h
end
theorem ready20 (s:Sv) (hz:s.d.Z.length≤9223372036854775807) (hl:s.x.l.length≤9223372036854775807) (hsk:s.sk.length≤9223372036854775807) (hsec:s.sec.length≤9223372036854775807) (l:List Int) (hll:l.length≤9223372036854775807):a0h Tryz.prog 20 false [.agg s.c,.sl 1 l.length (a0e intC 0 l)] (·=.prop (s.rdy l) (Classical.propDecidable _)):=by
 have hf:=far10 s hz hl hsk hsec
 have hcc:¬s.far∧l.length≤20→a0h Tryz.prog 21 false [.agg s.c,.sl 1 l.length (a0e intC 0 l)] (·=.int .i64 (s.cerr l)):=fun h=>by
  obtain⟨n1,n2,n3,n4⟩:=Sv.near h.1
  exact checkCourse21 s n1 (by omega) (by omega) (by omega) l (by omega)
 unfold Sv.c at *
 refine a0a Tryz.E_ok Tryz.func20 rfl (by kernel_rfl) ?_
 (repeat' ((conv=>whnf);first|(with_reducible first|apply spl|apply spl'|refine iJ ?_)<;>intro hc<;>try(exfalso;omega)|refine vcq ?_|fail));all_goals(try conv=>whnf);try exact trivial
 refine a0b hf rfl ?_
 rintro _ rfl
 (repeat' ((conv=>whnf);first|(with_reducible first|apply spl|apply spl'|refine iJ ?_)<;>intro hc<;>try(exfalso;omega)|refine vcq ?_|fail));all_goals(try conv=>whnf);try exact trivial
 ·have hc2:¬s.far∧l.length≤20:=⟨hc.1,by have:=hc.2;omega⟩
  refine a0b (hcc hc2) rfl ?_
  rintro _ rfl
  (repeat' ((conv=>whnf);first|(with_reducible first|apply spl|apply spl'|refine iJ ?_)<;>intro hc<;>try(exfalso;omega)|refine vcq ?_|fail));all_goals(try conv=>whnf);try exact trivial
  refine⟨_,rfl,?_⟩
  (repeat' ((conv=>whnf);first|(with_reducible first|apply spl|apply spl'|refine iJ ?_)<;>intro hc<;>try(exfalso;omega)|refine vcq ?_|fail));all_goals(try conv=>whnf);try exact trivial
  exact⟨⟨fun h=>⟨hc2,h⟩,fun h=>h.2⟩,trivial⟩
 ·refine⟨_,rfl,?_⟩
  (repeat' ((conv=>whnf);first|(with_reducible first|apply spl|apply spl'|refine iJ ?_)<;>intro hc<;>try(exfalso;omega)|refine vcq ?_|fail));all_goals(try conv=>whnf);try exact trivial
  exact⟨fun h=>hc ⟨h.1.1,by have:=h.1.2;omega⟩,trivial⟩
theorem Sv.rdy_ok {s:Sv} {l:List Int} (h:s.rdy l):(s.d.Z.length≤1000000∧s.x.l.length≤40∧s.sk.length≤100∧s.sec.length≤40)∧s.err=0∧s.Ok∧IsCrs s.W (l.map Int.toNat)∧l.length=s.W.length∧s.W.length≤4∧a0e intC 0 l=a0e natC 0 (l.map Int.toNat):=by
 obtain⟨⟨h1,h2⟩,h3⟩:=h
 obtain⟨he,hi⟩:=Sv.cerr_ok h3
 have hcr:=hi.crs
 exact⟨Sv.near h1,he,Sv.err_ok he,hcr,by rw[←hcr.len,List.length_map],Sv.few4 h1 he,hi.1.row⟩
theorem readyT {s:Sv} (hz:s.d.Z.length≤9223372036854775807) (hl:s.x.l.length≤9223372036854775807) (hsk:s.sk.length≤9223372036854775807) (hsec:s.sec.length≤9223372036854775807) {l:List Int} (hll:l.length≤9223372036854775807) (h:s.rdy l):a0h Tryz.prog 20 false [.agg s.c,.sl 1 l.length (a0e intC 0 l)] (·=.kb true):=
 pureWk (ready20 s hz hl hsk hsec l hll) fun _ e=>⟨_,rfl,fun I w v hd=>by subst e;simpa [Den,h] using hd⟩
theorem readyF {s:Sv} (hz:s.d.Z.length≤9223372036854775807) (hl:s.x.l.length≤9223372036854775807) (hsk:s.sk.length≤9223372036854775807) (hsec:s.sec.length≤9223372036854775807) {l:List Int} (hll:l.length≤9223372036854775807) (h:¬s.rdy l):a0h Tryz.prog 20 false [.agg s.c,.sl 1 l.length (a0e intC 0 l)] (·=.kb false):=
 pureWk (ready20 s hz hl hsk hsec l hll) fun _ e=>⟨_,rfl,fun I w v hd=>by subst e;simpa [Den,h] using hd⟩
end Go.Proofs
namespace Go.Proofs
open Go Go.Sx
set_option maxRecDepth 100000
set_option maxHeartbeats 40000000
open Ca (Wt epW IsCrs)
structure Sv.TimesH (s:Sv) (l sl:List Int) (x:Int) (q:Qu) (o:List Nat):Prop where
 h_ok:s.Ok
 h_q:q.Ok
 h_qn:q.rq.length=s.W.length
 h_qd:q.d=s.d
 h_qc:q.cyl=s.cyl
 h_ct:∀r,r<q.rq.length→(q.rq.getD r Rq.none).ct=1
 h_ew:∀hi k,s.endW hi o k=(q.stQ hi o (k+1)).2
 h_o:IsOrd q.rq.length o
 h_run:∀r,r<q.rq.length→a0h Tryz.prog 29 false [s.d.v,.int .i64 (q.rq.getD r Rq.none).fr,.int .i64 1] (·=.tup [.agg [.int .i64 (q.rn false r),.int .i64 (q.rn true r)],.int .i64 0])
 h_im:∀many,many≤l.length→a0h Tryz.prog 31 true [.agg s.c,.sl 1 l.length (a0e natC 0 o),.int .i64 many] (·=.sl 1 s.n (mdC (s.img o many)))
 h_up:∀i q,i≤q→q≤s.W.length→∀b,b<s.n→s.img o i b≤s.img o q b
 h_endT:∀i j,i≤j→j<s.W.length→s.endW true o i≤s.endW true o j
 h_endF:∀i j,i≤j→j<s.W.length→s.endW false o i≤s.endW false o j
 h_sl:sl.length=l.length
 h_x:0≤x∧x≤100000
 h_len:o.length=l.length
 h_lW:l.length=s.W.length
 h_W:s.W.length≤4
 h_n6:s.n≤6
theorem Sv.times {s:Sv} {l:List Int} (hr:s.rdy l) {sl:List Int} {x:Int} (hsl:sl.length=l.length) (hx:0≤x∧x≤100000):s.TimesH l sl x (s.qu s.W) (l.map Int.toNat):=by
 obtain⟨⟨n1,n2,n3,n4⟩,he,hs,hcr,hle,hW,hrow⟩:=Sv.rdy_ok hr
 have hws:=hs.ws
 have hsl2:=hs.so.len
 have hni:=Sv.nI hs.x
 have hlm:(l.map Int.toNat).length=l.length:=List.length_map ..
 have hn6:=(Sv.at_small hs.x (Nat.le_refl _)).2.2.2.1
 have hA:Ca.Asc s.n s.st s.x.l.length:=Ca.Asc.run (fun o ho hk=>by
  have:=hs.x.ord o ho
  unfold Ca.Cache.OkO at this
  omega) _ (Nat.le_refl _)
 have hq:=Sv.quW_ok hs
 have hqn:(s.qu s.W).rq.length=s.W.length:=Sv.qu_len s _
 have hct:∀r,r<(s.qu s.W).rq.length→((s.qu s.W).rq.getD r Rq.none).ct=1:=fun r h=>by
  rw[hqn] at h
  show((s.W.map s.rqW).getD r Rq.none).ct=1
  rw[List.getD_eq_getElem?_getD,List.getElem?_map,List.getElem?_eq_getElem h]
  rfl
 refine⟨hs,hq,hqn,rfl,rfl,hct,fun _ _=>rfl,⟨by rw[hqn,hlm,hle],hcr.nd,fun y hy=>by rw[hqn];exact hcr.lt y hy⟩,fun r h=>?_,fun many hm=>?_,fun i q hiq hq b hb=>Ca.medC_le hA hcr hiq hq b hb,
  fun i j hij hj=>Sv.endW_up hs true hcr hij hj,fun i j hij hj=>Sv.endW_up hs false hcr hij hj,hsl,hx,hlm,hle,hW,hn6⟩
 ·have g:=Run14q (s.qu s.W) hq r h
  rw[hct r h] at g
  exact g
 ·have h:=image31 s hs _ hcr many (by rw[hlm];exact hm)
  rw[hlm] at h
  exact h
noncomputable def ServeTimes6A (s:Sv) (hz:s.d.Z.length≤9223372036854775807) (hl:s.x.l.length≤9223372036854775807) (hsk:s.sk.length≤9223372036854775807) (hsec:s.sec.length≤9223372036854775807) (l:List Int) (hll:l.length≤9223372036854775807) (sl:List Int) (hsl:sl.length≤9223372036854775807) (x:Int) :
  {G:Qu→List Nat→Prop // (∀q o,s.TimesH l sl x q o→G q o)→a0h Tryz.prog 6 false [.agg s.c,.agg [.sl 1 l.length (a0e intC 0 l),.sl 1 sl.length (a0e intC 0 sl),.int .i64 x]] (·=.prop True inferInstance)}:=by
 constructor
 case property=>
  intro hG
  by_cases hr:s.rdy l
  ·have hrd:=readyT hz hl hsk hsec hll hr
   have hTI:=fun a b=>Sv.times (s:=s) (l:=l) hr (sl:=sl) (x:=x) a b
   obtain⟨⟨n1,n2,n3,n4⟩,he,hs,hcr,hle,hW,hrow⟩:=Sv.rdy_ok hr
   have hws:=hs.ws
   have hsl2:=hs.so.len
   have hni:=Sv.nI hs.x
   have hlm:(l.map Int.toNat).length=l.length:=List.length_map ..
   have hEn:=okEntries n1 (by omega) (by omega) (by omega) he
   have hE:=okEnds n1 (by omega) (by omega) (by omega) he hcr
   have hH:=fun h=>okHeld n1 (by omega) (by omega) (by omega) he hcr x h
   have hQ:=queue25 s s.W (by omega) (fun w hw=>by have:=(hws w hw).2;omega)
   have hqn:(s.qu s.W).rq.length=s.W.length:=Sv.qu_len s _
   have hQE:=Ends11 (s.qu s.W) (Sv.quW_ok hs) (l.map Int.toNat) ⟨by rw[hqn,hlm,hle],hcr.nd,fun y hy=>by rw[hqn];exact hcr.lt y hy⟩
   rw[hlm] at hE hH hQE
   rw[hrow] at hrd ⊢
   clear hcr hr hrow
   generalize l.map Int.toNat=o at *
   generalize s.qu s.W=q at *
   unfold Sv.c at *
   refine a0a Tryz.E_ok Tryz.func6 rfl (by kernel_rfl) ?_
   (repeat' ((conv=>whnf);first|(with_reducible first|apply spl|apply spl'|refine iJ ?_)<;>intro hc<;>try(exfalso;omega)|refine vcq ?_|refine dr 17 ?_|refine dr 5 ?_));all_goals(try conv=>whnf);try exact trivial
   refine a0b hrd rfl ?_
   rintro _ rfl
   (repeat' ((conv=>whnf);first|(with_reducible first|apply spl|apply spl'|refine iJ ?_)<;>intro hc<;>try(exfalso;omega)|refine vcq ?_|refine dr 17 ?_|refine dr 5 ?_));all_goals(try conv=>whnf);try exact trivial
   ·refine a0b works11 rfl ?_
    rintro _ rfl
    (repeat' ((conv=>whnf);first|(with_reducible first|apply spl|apply spl'|refine iJ ?_)<;>intro hc<;>try(exfalso;omega)|refine vcq ?_|refine dr 17 ?_|refine dr 5 ?_));all_goals(try conv=>whnf);try exact trivial
    refine⟨_,rfl,?_⟩
    (repeat' ((conv=>whnf);first|(with_reducible first|apply spl|apply spl'|refine iJ ?_)<;>intro hc<;>try(exfalso;omega)|refine vcq ?_|refine dr 17 ?_|refine dr 5 ?_));all_goals(try conv=>whnf);try exact trivial
   ·have hx:(sl.length=l.length∧0≤x)∧x≤100000:=by omega
    obtain⟨⟨hx1,hx2⟩,hx3⟩:=hx
    clear hc
    have hH:=hH ⟨hx2,hx3⟩
    have hTI:=hTI hx1 ⟨hx2,hx3⟩
    refine a0b hEn rfl ?_
    rintro _ rfl
    (repeat' ((conv=>whnf);first|(with_reducible first|apply spl|apply spl'|refine iJ ?_)<;>intro hc<;>try(exfalso;omega)|refine vcq ?_|refine dr 17 ?_|refine dr 5 ?_));all_goals(try conv=>whnf);try exact trivial
    refine⟨Nat,fun i=>i≤s.W.length,fun i=>s.W.length-i,fun i=>[(7,.int .i64 (i:Nat)),(27,.any),(28,.any),(29,.any),(30,.any),(31,.any),(32,.any),(33,.any),(34,.any),(35,.any),(36,.any),(37,.any),(38,.any),(39,.any),(40,.any),(41,.any),(42,.any),(43,.any),(44,.any),(45,.any),(46,.any),(47,.any),(48,.any),(49,.any),(50,.any),(51,.any),(52,.any),(53,.any),(54,.any),(55,.any),(56,.any),(57,.any),(58,.any),(59,.any),(60,.any),(61,.any),(62,.any),(63,.any),(64,.any),(65,.any),(66,.any)],fun _=>[],fun _=>[],0,⟨by omega,none,?_⟩,?_⟩
    ·(repeat' ((conv=>whnf);first|(with_reducible first|apply spl|apply spl'|refine iJ ?_)<;>intro hc<;>try(exfalso;omega)|refine vcq ?_|refine dr 17 ?_|refine dr 5 ?_));all_goals(try conv=>whnf);try exact trivial
    ·intro i hi
     have hi:i≤s.W.length:=hi
     have hti:(i:Int).toNat=i:=Int.toNat_natCast i
     have hwi:i<s.W.length→(s.W.getD ((i:Int).toNat) wt0).2.1<s.n:=fun h=>by
      rw[hti]
      exact(hws _ (by rw[getW h];exact List.getElem_mem h)).2
     (repeat' ((conv=>whnf);first|(with_reducible first|apply spl|apply spl'|refine iJ ?_)<;>intro hc<;>try(exfalso;omega)|refine vcq ?_|refine dr 17 ?_));all_goals(try conv=>whnf);try exact trivial
     ·refine⟨i+1,⟨by omega,by dsimp only;omega⟩,none,?_⟩
      (repeat' ((conv=>whnf);first|(with_reducible first|apply spl|apply spl'|refine iJ ?_)<;>intro hc<;>try(exfalso;omega)|refine vcq ?_|refine dr 17 ?_|refine dr 5 ?_));all_goals(try conv=>whnf);try exact trivial
     ·obtain rfl:i=s.W.length:=by omega
      clear hwi hws n1 n2 n3 n4 he hsl2 hEn hrd
      refine a0b hQ rfl ?_
      rintro _ rfl
      unfold Qu.c
      (repeat' ((conv=>whnf);first|(with_reducible first|apply spl|apply spl'|refine iJ ?_)<;>intro hc<;>try(exfalso;omega)|refine vcq ?_|refine dr 17 ?_|refine dr 5 ?_));all_goals(try conv=>whnf);try exact trivial
      refine a0b hE rfl ?_
      rintro _ rfl
      (repeat' ((conv=>whnf);first|(with_reducible first|apply spl|apply spl'|refine iJ ?_)<;>intro hc<;>try(exfalso;omega)|refine vcq ?_|refine dr 17 ?_|refine dr 5 ?_));all_goals(try conv=>whnf);try exact trivial
      refine a0b hQE rfl ?_
      rintro _ rfl
      (repeat' ((conv=>whnf);first|(with_reducible first|apply spl|apply spl'|refine iJ ?_)<;>intro hc<;>try(exfalso;omega)|refine vcq ?_|refine dr 17 ?_|refine dr 5 ?_));all_goals(try conv=>whnf);try exact trivial
      refine a0b hH rfl ?_
      rintro _ rfl
      (repeat' ((conv=>whnf);first|(with_reducible first|apply spl|apply spl'|refine iJ ?_)<;>intro hc<;>try(exfalso;omega)|refine vcq ?_|refine dr 17 ?_|refine dr 5 ?_));all_goals(try conv=>whnf);try exact trivial
      exact hG q o hTI
  ·have hrd:=readyF hz hl hsk hsec hll hr
   unfold Sv.c at *
   refine a0a Tryz.E_ok Tryz.func6 rfl (by kernel_rfl) ?_
   (repeat' ((conv=>whnf);first|(with_reducible first|apply spl|apply spl'|refine iJ ?_)<;>intro hc<;>try(exfalso;omega)|refine vcq ?_|refine dr 17 ?_|refine dr 5 ?_));all_goals(try conv=>whnf);try exact trivial
   refine a0b hrd rfl ?_
   rintro _ rfl
   (repeat' ((conv=>whnf);first|(with_reducible first|apply spl|apply spl'|refine iJ ?_)<;>intro hc<;>try(exfalso;omega)|refine vcq ?_|refine dr 17 ?_|refine dr 5 ?_));all_goals(try conv=>whnf);try exact trivial
   refine a0b works11 rfl ?_
   rintro _ rfl
   (repeat' ((conv=>whnf);first|(with_reducible first|apply spl|apply spl'|refine iJ ?_)<;>intro hc<;>try(exfalso;omega)|refine vcq ?_|refine dr 17 ?_|refine dr 5 ?_));all_goals(try conv=>whnf);try exact trivial
   refine⟨_,rfl,?_⟩
   (repeat' ((conv=>whnf);first|(with_reducible first|apply spl|apply spl'|refine iJ ?_)<;>intro hc<;>try(exfalso;omega)|refine vcq ?_|refine dr 17 ?_|refine dr 5 ?_));all_goals(try conv=>whnf);try exact trivial
noncomputable def ServeTimes6B (s:Sv) (hz:s.d.Z.length≤9223372036854775807) (hl:s.x.l.length≤9223372036854775807) (hsk:s.sk.length≤9223372036854775807) (hsec:s.sec.length≤9223372036854775807) (l:List Int) (hll:l.length≤9223372036854775807) (sl:List Int) (hsl:sl.length≤9223372036854775807) (x:Int) :
  {G:Qu→List Nat→Nat→Int→Prop // (∀q o dn now,s.TimesH l sl x q o→dn≤l.length→s.sav x o≤dn→dn≤Sv.cntK (s.endW false o) x s.W.length→G q o dn now)→a0h Tryz.prog 6 false [.agg s.c,.agg [.sl 1 l.length (a0e intC 0 l),.sl 1 sl.length (a0e intC 0 sl),.int .i64 x]] (·=.prop True inferInstance)}:=by
 constructor
 case property=>
  intro hG
  refine(ServeTimes6A s hz hl hsk hsec l hll sl hsl x).2 fun q o H=>?_
  have H':=H
  obtain⟨hs,hq,hqn,hqd,hqc,hct,hew,ho,hRun,hIm,hup,hendT,hendF,hx1,⟨hx2,hx3⟩,hlm,hle,hW,hn6⟩:=H
  have hol:=ho.len
  have hfa:=fun i h=>place_facts hq ho.lt (by omega) (i:=i) h
  have hKT:=fun i hi=>Sv.cntK_iff (f:=s.endW true o) (t:=x) (N:=s.W.length) hendT s.W.length (Nat.le_refl _) i hi
  have hKF:=fun i hi=>Sv.cntK_iff (f:=s.endW false o) (t:=x) (N:=s.W.length) hendF s.W.length (Nat.le_refl _) i hi
  clear hIm hup hendT hendF
  unfold Dk.v Dk.c at hRun
  refine⟨Nat×Int×Nat,fun p=>p.1≤o.length∧((q.stQ false o p.1).2≤p.2.1∧p.2.1≤(q.stQ true o p.1).2)∧p.2.2≤p.1∧(∀k,k<p.1→s.endW true o k≤x→k+1≤p.2.2)∧(0<p.2.2→s.endW false o (p.2.2-1)≤x),fun p=>o.length-p.1,fun p=>[(19,.int .i64 (p.1:Nat)),(16,.int .i64 p.2.1),(17,.int .i64 (q.stQ true o p.1).1),(18,.int .i64 (p.2.2:Nat)),(20,.any),(22,.any),(23,.any),(5,.any),(6,.any),(7,.any),(10,.any),(12,.any),(15,.any),(27,.any),(28,.any),(29,.any),(30,.any),(31,.any),(32,.any),(33,.any),(34,.any),(35,.any),(36,.any),(37,.any),(38,.any),(39,.any),(40,.any),(41,.any),(42,.any),(43,.any),(44,.any),(45,.any),(46,.any),(47,.any),(48,.any),(49,.any),(50,.any),(51,.any),(52,.any),(53,.any),(54,.any),(55,.any),(56,.any),(57,.any),(58,.any),(59,.any),(60,.any),(61,.any),(62,.any),(63,.any),(64,.any),(65,.any),(66,.any),(67,.any),(68,.any),(69,.any),(70,.any),(71,.any),(72,.any),(73,.any),(74,.any),(75,.any),(76,.any),(77,.any),(78,.any),(79,.any),(80,.any),(81,.any),(82,.any),(83,.any),(84,.any),(85,.any),(86,.any),(87,.any),(88,.any),(89,.any),(90,.any),(91,.any),(92,.any),(93,.any),(94,.any),(95,.any),(96,.any),(97,.any),(98,.any),(99,.any),(100,.any),(101,.any),(102,.any),(103,.any),(104,.any),(105,.any),(106,.any),(107,.any),(108,.any),(109,.any),(110,.any),(111,.any),(112,.any),(113,.any),(114,.any),(115,.any),(116,.any),(117,.any),(118,.any),(119,.any),(120,.any),(121,.any),(122,.any),(123,.any),(124,.any),(125,.any),(126,.any),(127,.any),(128,.any),(129,.any),(130,.any),(131,.any),(132,.any),(133,.any),(134,.any),(135,.any),(136,.any),(137,.any),(138,.any),(139,.any),(140,.any),(141,.any),(142,.any),(143,.any),(144,.any),(145,.any),(146,.any),(147,.any),(148,.any),(149,.any),(150,.any),(151,.any),(152,.any),(153,.any),(154,.any),(155,.any),(156,.any),(157,.any),(158,.any),(159,.any),(160,.any)],fun _=>[],fun _=>[],(0,0,0),⟨⟨by dsimp only;omega,⟨Int.le_refl _,Int.le_refl _⟩,Nat.le_refl _,fun k hk=>by dsimp only at hk;omega,fun h=>by dsimp only at h;omega⟩,none,?_⟩,?_⟩
  ·(repeat' ((conv=>whnf);first|(with_reducible first|apply spl|apply spl'|refine iJ ?_)<;>intro hc<;>try(exfalso;omega)|refine vcq ?_|refine dr 10 ?_|refine dr 18 ?_|refine dr 15 ?_|refine dr 35 ?_));all_goals(try conv=>whnf);try exact trivial
   refine⟨show s.cyl=((q.cyl.toNat:Nat):Int) by have:=hq.cyl;omega,?_⟩
   (repeat' ((conv=>whnf);first|(with_reducible first|apply spl|apply spl'|refine iJ ?_)<;>intro hc<;>try(exfalso;omega)|refine vcq ?_|refine dr 10 ?_|refine dr 18 ?_|refine dr 15 ?_|refine dr 35 ?_));all_goals(try conv=>whnf);try exact trivial
  ·rintro⟨i,now,dn⟩ ⟨hi,hnow,hdn,hd1,hd2⟩
   dsimp only at hi hnow hdn hd1 hd2 ⊢
   have hti:(i:Int).toNat=i:=Int.toNat_natCast i
   have htr:((o.getD i 0:Nat):Int).toNat=o.getD i 0:=Int.toNat_natCast _
   (repeat' ((conv=>whnf);first|(with_reducible first|apply spl|apply spl'|refine iJ ?_)<;>intro hc<;>try(exfalso;omega)|refine vcq ?_|refine dr 10 ?_));all_goals(try conv=>whnf);try exact trivial
   ·have hil:i<o.length:=by omega
    obtain⟨f1,f2,f3,f4,f5,f6,f7⟩:=hfa i (by omega)
    have hct:=hct _ f1
    have e0:(q.rq.getD (o.getD i 0) Rq.none).fr+(q.rq.getD (o.getD i 0) Rq.none).ct-1=(q.rq.getD (o.getD i 0) Rq.none).fr:=by omega
    have e1:(q.stQ false o (i+1)).2=q.srv (o.getD i 0) (q.stQ false o i).2 (q.sek (q.stQ true o i).1 (q.cy (q.rq.getD (o.getD i 0) Rq.none).fr)).1 (q.rn false (o.getD i 0)):=by rw[q.stQ_cyl];rfl
    have e2:q.stQ true o (i+1)=(q.cy ((q.rq.getD (o.getD i 0) Rq.none).fr+(q.rq.getD (o.getD i 0) Rq.none).ct-1),q.srv (o.getD i 0) (q.stQ true o i).2 (q.sek (q.stQ true o i).1 (q.cy (q.rq.getD (o.getD i 0) Rq.none).fr)).2 (q.rn true (o.getD i 0))):=rfl
    rw[e0] at e2
    have hk:=q.sek_bnd hq (q.stQ true o i).1 (q.cy (q.rq.getD (o.getD i 0) Rq.none).fr)
    have hhi:=f6 true
    have hlo:=f6 false
    have hrt:=f7 true
    have hrf:=f7 false
    rw[hti]
    refine And.intro ⟨by omega,by omega⟩ ?_
    (repeat' ((conv=>whnf);first|(with_reducible first|apply spl|apply spl'|refine iJ ?_)<;>intro hc<;>try(exfalso;omega)|refine vcq ?_|refine dr 10 ?_));all_goals(try conv=>whnf);try exact trivial
    rw[htr]
    (repeat' ((conv=>whnf);first|(with_reducible first|apply spl|apply spl'|refine iJ ?_)<;>intro hc<;>try(exfalso;omega)|refine vcq ?_|refine dr 10 ?_|refine dr 18 ?_));all_goals((try conv=>whnf);try exact trivial);(repeat' ((first|(refine a0b (Cyl13 q hq _ (by omega) (by omega)) rfl ?_;rintro _ rfl)|(refine a0c (Cyl13 q hq _ (by omega) (by omega)) rfl ?_)|(refine a0g (fun _=>Cyl13 q hq _ (by omega) (by omega)) rfl ?_)|(refine a0b (SeekOf12 q hq _ _ f5 f4) rfl ?_;rintro _ rfl)|(refine a0c (SeekOf12 q hq _ _ f5 f4) rfl ?_)|(refine a0g (fun _=>SeekOf12 q hq _ _ f5 f4) rfl ?_));(repeat' ((conv=>whnf);first|(with_reducible first|apply spl|apply spl'|refine iJ ?_)<;>intro hc<;>try(exfalso;omega)|refine vcq ?_|refine dr 10 ?_|refine dr 18 ?_));all_goals((try conv=>whnf);try exact trivial)))
    ·refine a0b works11 rfl ?_
     rintro _ rfl
     (repeat' ((conv=>whnf);first|(with_reducible first|apply spl|apply spl'|refine iJ ?_)<;>intro hc<;>try(exfalso;omega)|refine vcq ?_|refine dr 10 ?_|refine dr 18 ?_|refine dr 15 ?_|refine dr 35 ?_));all_goals(try conv=>whnf);try exact trivial
     refine⟨_,rfl,?_⟩
     (repeat' ((conv=>whnf);first|(with_reducible first|apply spl|apply spl'|refine iJ ?_)<;>intro hc<;>try(exfalso;omega)|refine vcq ?_|refine dr 10 ?_|refine dr 18 ?_|refine dr 15 ?_|refine dr 35 ?_));all_goals(try conv=>whnf);try exact trivial
    ·rw[hti] at hc
     have c1:(q.sek (q.stQ true o i).1 (q.cy (q.rq.getD (o.getD i 0) Rq.none).fr)).1≤sl.getD i 0∧sl.getD i 0≤(q.sek (q.stQ true o i).1 (q.cy (q.rq.getD (o.getD i 0) Rq.none).fr)).2:=by omega
     clear hc
     have hm1:=Qu.srv_mono hq (o.getD i 0) hnow.1 c1.1 (Int.le_refl (q.rn false (o.getD i 0)))
     have hm2:=Qu.srv_mono hq (o.getD i 0) hnow.2 c1.2 (Qu.rn_bnd hq f1).2.1
     refine a0b (hRun _ f1) rfl ?_
     rintro _ rfl
     (repeat' ((conv=>whnf);first|(with_reducible first|apply spl|apply spl'|refine iJ ?_)<;>intro hc<;>try(exfalso;omega)|refine vcq ?_|refine dr 15 ?_));all_goals(try conv=>whnf);try exact trivial
     rw[hti]
     refine a0c (Serve15 q hq _ f1 _ _ _ (by omega) (by omega) (by omega)) rfl ?_
     have w1:=hew false i
     have w2:=hew true i
     have k1:=Qu.endOf_at (q:=q) false ho hil
     have k2:=Qu.endOf_at (q:=q) true ho hil
     have hb2:=(Qu.stQ_bnd hq true ho.lt (i+1) (by omega)).2
     have hb3:=(Qu.stQ_bnd hq false ho.lt (i+1) (by omega)).2
     rw[e1] at w1 k1 hb3
     rw[e2] at w2 k2 hb2
     dsimp only at w2 k2 hb2
     clear hew hKT hKF
     generalize hN:q.srv (o.getD i 0) now (sl.getD i 0) (q.rn false (o.getD i 0))=N at *
     (repeat' ((conv=>whnf);first|(with_reducible first|apply spl|apply spl'|refine iJ ?_)<;>intro hc<;>try(exfalso;omega)|refine vcq ?_|refine dr 35 ?_));all_goals(try conv=>whnf);try exact trivial
     rw[hti]
     refine And.intro (fun _=>⟨by omega,by omega⟩) ?_
     rw[htr]
     (repeat' ((conv=>whnf);first|(with_reducible first|apply spl|apply spl'|refine iJ ?_)<;>intro hc<;>try(exfalso;omega)|refine vcq ?_|refine dr 35 ?_));all_goals(try conv=>whnf);try exact trivial
     ·exfalso
      rw[hti] at hc
      rcases hc with((h|h)|h)|h
      ·exact h rfl
      ·exact h ⟨by rw[w1,k1],by rw[w2,k2]⟩
      ·rw[w1] at h;omega
      ·rw[w2] at h;omega
     ·refine⟨(i+1,N,i+1),⟨⟨by dsimp only;omega,⟨by dsimp only;rw[e1];exact hm1,by dsimp only;rw[e2];exact hm2⟩,Nat.le_refl _,fun k hk _=>by dsimp only at hk ⊢;omega,fun _=>by show s.endW false o i≤x;rw[w1];omega⟩,by dsimp only;omega⟩,some [some 0,some 1,some 2],?_⟩
      dsimp only
      rw[e2]
      (repeat' ((conv=>whnf);first|(with_reducible first|apply spl|apply spl'|refine iJ ?_)<;>intro hc<;>try(exfalso;omega)|refine vcq ?_|refine dr 10 ?_|refine dr 18 ?_|refine dr 15 ?_|refine dr 35 ?_));all_goals(try conv=>whnf);try exact trivial
     ·refine⟨(i+1,N,dn),⟨⟨by dsimp only;omega,⟨by dsimp only;rw[e1];exact hm1,by dsimp only;rw[e2];exact hm2⟩,by dsimp only;omega,fun k hk hkx=>?_,hd2⟩,by dsimp only;omega⟩,some [some 0,some 1,some 2],?_⟩
      ·dsimp only at hk ⊢
       rcases Nat.lt_or_eq_of_le (Nat.le_of_lt_succ hk) with g|g
       ·exact hd1 k g hkx
       ·exfalso
        rw[g,w2] at hkx
        omega
      ·dsimp only
       rw[e2]
       (repeat' ((conv=>whnf);first|(with_reducible first|apply spl|apply spl'|refine iJ ?_)<;>intro hc<;>try(exfalso;omega)|refine vcq ?_|refine dr 10 ?_|refine dr 18 ?_|refine dr 15 ?_|refine dr 35 ?_));all_goals(try conv=>whnf);try exact trivial
   ·obtain rfl:i=o.length:=by omega
    have g1:s.sav x o≤dn:=by
     rcases Nat.eq_zero_or_pos (s.sav x o) with h|h
     ·omega
     ·have hle2:s.sav x o≤s.W.length:=Sv.cntK_le _ _ _
      have:=hd1 (s.sav x o-1) (by omega) ((hKT _ (by omega)).2 (by show s.sav x o-1<s.sav x o;omega))
      omega
    have g2:dn≤Sv.cntK (s.endW false o) x s.W.length:=by
     rcases Nat.eq_zero_or_pos dn with h|h
     ·omega
     ·have:=(hKF (dn-1) (by omega)).1 (hd2 h)
      omega
    exact hG q o dn now H' (by omega) g1 g2
theorem ServeTimes6 (s:Sv) (hz:s.d.Z.length≤9223372036854775807) (hl:s.x.l.length≤9223372036854775807) (hsk:s.sk.length≤9223372036854775807) (hsec:s.sec.length≤9223372036854775807) (l:List Int) (hll:l.length≤9223372036854775807) (sl:List Int) (hsl:sl.length≤9223372036854775807) (x:Int) :
  a0h Tryz.prog 6 false [.agg s.c,.agg [.sl 1 l.length (a0e intC 0 l),.sl 1 sl.length (a0e intC 0 sl),.int .i64 x]] (·=.prop True inferInstance):=by
 refine(ServeTimes6B s hz hl hsk hsec l hll sl hsl x).2 fun q o dn now H h1 h2 h3=>?_
 obtain⟨hs,hq,hqn,hqd,hqc,hct,hew,ho,hRun,hIm,hup,hendT,hendF,hx1,⟨hx2,hx3⟩,hlm,hle,hW,hn6⟩:=H
 have hc3:=Sv.cntK_le (s.endW false o) x s.W.length
 have u1:=fun b hb=>hup (s.sav x o) dn h2 (by omega) b hb
 have u2:=fun b hb=>hup dn (Sv.cntK (s.endW false o) x s.W.length) h3 hc3 b hb
 unfold Sv.sav at u1
 have hIm:=hIm dn h1
 clear hup hendT hendF hew hRun hct
 unfold Sv.c at hIm
 refine a0b hIm rfl ?_
 rintro _ rfl
 (repeat' ((conv=>whnf);first|(with_reducible first|apply spl|apply spl'|refine iJ ?_)<;>intro hc<;>try(exfalso;omega)|refine vcq ?_|refine dr 20 ?_));all_goals(try conv=>whnf);try exact trivial
 refine⟨Nat,fun i=>i≤s.n,fun i=>s.n-i,fun i=>[(26,.int .i64 (i:Nat)),(5,.any),(6,.any),(7,.any),(8,.any),(9,.any),(10,.any),(11,.any),(12,.any),(161,.any),(162,.any),(163,.any),(164,.any),(165,.any),(166,.any),(167,.any),(168,.any),(169,.any),(170,.any),(171,.any),(172,.any),(173,.any),(174,.any),(175,.any),(176,.any),(177,.any),(178,.any),(179,.any),(180,.any),(181,.any),(182,.any),(183,.any),(184,.any),(185,.any),(186,.any),(187,.any),(188,.any),(189,.any),(190,.any),(191,.any),(192,.any),(193,.any),(194,.any),(195,.any),(196,.any),(197,.any),(198,.any),(199,.any),(200,.any),(201,.any),(202,.any),(203,.any),(204,.any),(205,.any),(206,.any),(207,.any),(208,.any),(209,.any),(210,.any),(211,.any),(212,.any),(213,.any),(214,.any),(215,.any),(216,.any),(217,.any),(218,.any),(219,.any),(220,.any),(221,.any),(222,.any),(223,.any),(224,.any),(225,.any),(226,.any),(227,.any),(228,.any),(229,.any),(230,.any),(231,.any),(232,.any),(233,.any),(234,.any),(235,.any),(236,.any),(237,.any),(238,.any),(239,.any),(240,.any),(241,.any),(242,.any),(243,.any),(244,.any),(245,.any),(246,.any),(247,.any),(248,.any),(249,.any),(250,.any),(251,.any),(252,.any),(253,.any),(254,.any),(255,.any),(256,.any),(257,.any),(258,.any),(259,.any),(260,.any),(261,.any),(262,.any),(263,.any),(264,.any),(265,.any),(266,.any),(267,.any),(268,.any),(269,.any),(270,.any),(271,.any),(272,.any),(273,.any)],fun _=>[],fun _=>[],0,⟨by omega,none,?_⟩,?_⟩
 ·(repeat' ((conv=>whnf);first|(with_reducible first|apply spl|apply spl'|refine iJ ?_)<;>intro hc<;>try(exfalso;omega)|refine vcq ?_|refine dr 20 ?_));all_goals(try conv=>whnf);try exact trivial
 ·intro i hi
  have hi:i≤s.n:=hi
  have hti:(i:Int).toNat=i:=Int.toNat_natCast i
  have v1:i<s.n→s.img o (Sv.cntK (s.endW true o) x s.W.length) ((i:Int).toNat)≤s.img o dn ((i:Int).toNat):=fun h=>by rw[hti];exact u1 i h
  have v2:i<s.n→s.img o dn ((i:Int).toNat)≤s.img o (Sv.cntK (s.endW false o) x s.W.length) ((i:Int).toNat):=fun h=>by rw[hti];exact u2 i h
  (repeat' ((conv=>whnf);first|(with_reducible first|apply spl|apply spl'|refine iJ ?_)<;>intro hc<;>try(exfalso;omega)|refine vcq ?_|refine dr 20 ?_));all_goals(try conv=>whnf);try exact trivial
  ·refine⟨i+1,⟨by omega,by dsimp only;omega⟩,none,?_⟩
   (repeat' ((conv=>whnf);first|(with_reducible first|apply spl|apply spl'|refine iJ ?_)<;>intro hc<;>try(exfalso;omega)|refine vcq ?_|refine dr 20 ?_));all_goals(try conv=>whnf);try exact trivial
  ·refine a0b works11 rfl ?_
   rintro _ rfl
   (repeat' ((conv=>whnf);first|(with_reducible first|apply spl|apply spl'|refine iJ ?_)<;>intro hc<;>try(exfalso;omega)|refine vcq ?_|refine dr 20 ?_));all_goals(try conv=>whnf);try exact trivial
   refine⟨_,rfl,?_⟩
   (repeat' ((conv=>whnf);first|(with_reducible first|apply spl|apply spl'|refine iJ ?_)<;>intro hc<;>try(exfalso;omega)|refine vcq ?_|refine dr 20 ?_));all_goals(try conv=>whnf);try exact trivial
end Go.Proofs
