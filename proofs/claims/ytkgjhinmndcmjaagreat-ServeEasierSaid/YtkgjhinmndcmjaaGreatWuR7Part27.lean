/- Own work: texts of the proof of a law (WuK, SzPn, WuL8, WuP, WuK2, WuZ, WqN4, WuL7, WuL7B). No condition. -/
import Derived.Test.YtkgjhinmndcmjaaGreatPart26
namespace Go.Proofs
open Go Go.Sx
set_option maxRecDepth 100000
set_option maxHeartbeats 40000000
end Go.Proofs
namespace Go.Sx
open Go
variable {P:Program}
end Go.Sx
namespace Go.Proofs
open Go Go.Sx
set_option maxRecDepth 100000
set_option maxHeartbeats 40000000
theorem Sv.near {s:Sv} (h:¬s.far):s.d.Z.length≤1000000∧s.x.l.length≤40∧s.sk.length≤100∧s.sec.length≤40:=by
 refine⟨?_,Nat.le_of_not_lt fun g=>h (.inl (.inl (.inl (.inr g)))),Nat.le_of_not_lt fun g=>h (.inl (.inl (.inr g))),Nat.le_of_not_lt fun g=>h (.inl (.inr g))⟩
 rcases Nat.lt_or_ge 20 s.d.Z.length with g|g
 ·exact absurd (.inl (.inl (.inl (.inl (.inl (by omega)))))) h
 ·omega
theorem Sv.few4 {s:Sv} (h:¬s.far) (he:s.err=0):s.W.length≤4:=Nat.le_of_not_lt fun g=>h (.inr ⟨he,g⟩)
theorem den_nil {I:Nat→Prop} {η:Eta} {w:World} {v:Value} {sz:Nat} {f:Nat→List V} (h:Den I η w (.lit (.slice none 0 0)) v):Den I η w (.sl sz 0 f) v:=.inl ⟨rfl,none,0,h⟩
theorem den_tup1 {I:Nat→Prop} {η:Eta} {w:World} {v:Value} {a b:V} {l:List V} (hab:∀v,Den I η w a v→Den I η w b v) (h:Den I η w (.tup (a :: l)) v):Den I η w (.tup (b :: l)) v:=by
 obtain⟨vs,h1,x,r,h2,h3,h4⟩:=h
 exact⟨vs,h1,x,r,h2,hab _ h3,h4⟩
theorem entB (s:Sv) (hz:s.d.Z.length≤1000000) (hl:s.x.l.length≤1000000) (hsk:s.sk.length≤1000000) (hsec:s.sec.length≤1000000):∃U:List Ca.Wt,(s.err=0→U=s.W)∧(s.err≠0→U=[])∧a0h Tryz.prog 24 true [.agg s.c] (·=.tup [.sl 3 U.length (a0e wtC wt0 U),.int .i64 s.err])∧a0h Tryz.prog 34 true [.agg s.c] (·=.tup [.sl 3 U.length (a0e wtC wt0 U),.int .i64 s.err]):=by
 by_cases he:s.err=0
 ·refine⟨s.W,fun _=>rfl,fun h=>absurd he h,pureWk (entriesS s hz hl hsk hsec) fun r h=>?_,pureWk (rentries34 s hz hl hsk hsec) fun r h=>?_⟩
  all_goals
   rcases h with⟨_,rfl⟩|⟨h,_⟩
   ·rw[he]
    exact⟨_,rfl,fun _ _ _ h=>h⟩
   ·exact absurd he h
 ·refine⟨[],fun h=>absurd h he,fun _=>rfl,pureWk (entriesS s hz hl hsk hsec) fun r h=>?_,pureWk (rentries34 s hz hl hsk hsec) fun r h=>?_⟩
  all_goals
   rcases h with⟨h,_⟩|⟨_,rfl⟩
   ·exact absurd h he
   ·exact⟨_,rfl,fun I w v h=>den_tup1 (fun _=>den_nil) h⟩
end Go.Proofs
namespace Go.Proofs
open Go Go.Sx
set_option maxRecDepth 100000
set_option maxHeartbeats 40000000
open Ca (Wt epW IsCrs)
theorem rowNI (o:List Nat):a0e natC 0 o=a0e intC 0 (o.map Int.ofNat):=by
 funext i
 unfold a0e
 show [V.int .i64 ((o.getD i 0:Nat):Int)]=[V.int .i64 ((o.map Int.ofNat).getD i 0)]
 rw[List.getD_eq_getElem?_getD,List.getD_eq_getElem?_getD,List.getElem?_map]
 cases o[i]?<;>rfl
theorem toNat_ofNat (o:List Nat):(o.map Int.ofNat).map Int.toNat=o:=by
 rw[List.map_map]
 simp[Function.comp_def]
def Sv.rdy (s:Sv) (l:List Int):Prop:=(¬s.far∧l.length≤20)∧s.cerr l=0
theorem Sv.cerr_nat {s:Sv} (he:s.err=0) {o:List Nat} (ho:IsCrs s.W o):s.cerr (o.map Int.ofNat)=0:=by
 have h:CrsI s.W (o.map Int.ofNat):=IsCrs.crsI ho
 unfold Sv.cerr
 rw[if_pos he,if_pos h]
section
variable {s:Sv} (hz:s.d.Z.length≤1000000) (hx:s.x.l.length≤1000000) (hsk:s.sk.length≤1000000) (hsec:s.sec.length≤1000000) (he:s.err=0)
include hz hx hsk hsec he
theorem okBest:a0h Tryz.prog 13 true [.agg s.c] (·=.tup [.sl 1 s.best.1.length (a0e natC 0 s.best.1),.int .i64 s.best.2,.int .i64 0]):=
 pureWk (best13 s hz hx hsk hsec) fun r h=>by
  rcases h with⟨_,rfl⟩|⟨h,_⟩
  ·exact⟨_,rfl,fun _ _ _ h=>h⟩
  ·exact absurd he h
theorem okEntries:a0h Tryz.prog 24 true [.agg s.c] (·=.tup [.sl 3 s.W.length (a0e wtC wt0 s.W),.int .i64 0]):=
 pureWk (entriesS s hz hx hsk hsec) fun r h=>by
  rcases h with⟨_,rfl⟩|⟨h,_⟩
  ·exact⟨_,rfl,fun _ _ _ h=>h⟩
  ·exact absurd he h
theorem okEnds {o:List Nat} (ho:IsCrs s.W o):a0h Tryz.prog 22 true [.agg s.c,.sl 1 o.length (a0e natC 0 o)] (·=.tup [.sl 2 o.length (fun k=>[.int .i64 (s.endW false o k),.int .i64 (s.endW true o k)]),.int .i64 0]):=by
 have h:=endsS s hz hx hsk hsec (o.map Int.ofNat) (by rw[List.length_map,ho.len];have:=(Sv.err_ok he).few;omega)
 rw[←rowNI,List.length_map,toNat_ofNat] at h
 exact pureWk h fun r h=>by
  rcases h with⟨_,rfl⟩|⟨h,_⟩
  ·exact⟨_,rfl,fun _ _ _ h=>h⟩
  ·exact absurd (Sv.cerr_nat he ho) h
theorem okHeld {o:List Nat} (ho:IsCrs s.W o) (x:Int) (ht:0≤x∧x≤100000):a0h Tryz.prog 16 true [.agg s.c,.sl 1 o.length (a0e natC 0 o),.int .i64 x] (·=.tup [.sl 1 s.n (mdC (s.img o (Sv.cntK (s.endW true o) x s.W.length))),.sl 1 s.n (mdC (s.img o (Sv.cntK (s.endW false o) x s.W.length))),.int .i64 0]):=by
 have h:=held16 s hz hx hsk hsec (o.map Int.ofNat) (by rw[List.length_map,ho.len];have:=(Sv.err_ok he).few;omega) x
 rw[←rowNI,List.length_map] at h
 exact pureWk h fun r h=>by
  rcases h with⟨_,_,rfl⟩|⟨_,h,_⟩|⟨h,_⟩
  ·rw[toNat_ofNat]
   exact⟨_,rfl,fun _ _ _ h=>h⟩
  ·exact absurd ht h
  ·exact absurd (Sv.cerr_nat he ho) h
end
theorem ready20 (s:Sv) (hz:s.d.Z.length≤9223372036854775807) (hl:s.x.l.length≤9223372036854775807) (hsk:s.sk.length≤9223372036854775807) (hsec:s.sec.length≤9223372036854775807) (l:List Int) (hll:l.length≤9223372036854775807):a0h Tryz.prog 20 false [.agg s.c,.sl 1 l.length (a0e intC 0 l)] (·=.prop (s.rdy l) (Classical.propDecidable _)):=by
 have hf:=far10 s hz hl hsk hsec
 have hcc:¬s.far∧l.length≤20→a0h Tryz.prog 21 false [.agg s.c,.sl 1 l.length (a0e intC 0 l)] (·=.int .i64 (s.cerr l)):=fun h=>by
  obtain⟨n1,n2,n3,n4⟩:=Sv.near h.1
  exact checkCourse21 s n1 (by omega) (by omega) (by omega) l (by omega)
 unfold Sv.c at *
 refine a0a Tryz.E_ok Tryz.func20 rfl (by kernel_rfl) ?_
 (repeat' ((conv=>whnf);first|(with_reducible first|apply spl|apply spl'|refine iJ ?_)<;>intro hc<;>try(exfalso;omega)|refine vcq ?_|fail));all_goals(try conv=>whnf);try exact trivial
 refine a0b hf rfl ?_
 rintro _ rfl
 (repeat' ((conv=>whnf);first|(with_reducible first|apply spl|apply spl'|refine iJ ?_)<;>intro hc<;>try(exfalso;omega)|refine vcq ?_|fail));all_goals(try conv=>whnf);try exact trivial
 ·have hc2:¬s.far∧l.length≤20:=⟨hc.1,by have:=hc.2;omega⟩
  refine a0b (hcc hc2) rfl ?_
  rintro _ rfl
  (repeat' ((conv=>whnf);first|(with_reducible first|apply spl|apply spl'|refine iJ ?_)<;>intro hc<;>try(exfalso;omega)|refine vcq ?_|fail));all_goals(try conv=>whnf);try exact trivial
  refine⟨_,rfl,?_⟩
  (repeat' ((conv=>whnf);first|(with_reducible first|apply spl|apply spl'|refine iJ ?_)<;>intro hc<;>try(exfalso;omega)|refine vcq ?_|fail));all_goals(try conv=>whnf);try exact trivial
  exact⟨⟨fun h=>⟨hc2,h⟩,fun h=>h.2⟩,trivial⟩
 ·refine⟨_,rfl,?_⟩
  (repeat' ((conv=>whnf);first|(with_reducible first|apply spl|apply spl'|refine iJ ?_)<;>intro hc<;>try(exfalso;omega)|refine vcq ?_|fail));all_goals(try conv=>whnf);try exact trivial
  exact⟨fun h=>hc ⟨h.1.1,by have:=h.1.2;omega⟩,trivial⟩
theorem Sv.rdy_ok {s:Sv} {l:List Int} (h:s.rdy l):(s.d.Z.length≤1000000∧s.x.l.length≤40∧s.sk.length≤100∧s.sec.length≤40)∧s.err=0∧s.Ok∧IsCrs s.W (l.map Int.toNat)∧l.length=s.W.length∧s.W.length≤4∧a0e intC 0 l=a0e natC 0 (l.map Int.toNat):=by
 obtain⟨⟨h1,h2⟩,h3⟩:=h
 obtain⟨he,hi⟩:=Sv.cerr_ok h3
 have hcr:=hi.crs
 exact⟨Sv.near h1,he,Sv.err_ok he,hcr,by rw[←hcr.len,List.length_map],Sv.few4 h1 he,hi.1.row⟩
theorem readyT {s:Sv} (hz:s.d.Z.length≤9223372036854775807) (hl:s.x.l.length≤9223372036854775807) (hsk:s.sk.length≤9223372036854775807) (hsec:s.sec.length≤9223372036854775807) {l:List Int} (hll:l.length≤9223372036854775807) (h:s.rdy l):a0h Tryz.prog 20 false [.agg s.c,.sl 1 l.length (a0e intC 0 l)] (·=.kb true):=
 pureWk (ready20 s hz hl hsk hsec l hll) fun _ e=>⟨_,rfl,fun I w v hd=>by subst e;simpa [Den,h] using hd⟩
theorem readyF {s:Sv} (hz:s.d.Z.length≤9223372036854775807) (hl:s.x.l.length≤9223372036854775807) (hsk:s.sk.length≤9223372036854775807) (hsec:s.sec.length≤9223372036854775807) {l:List Int} (hll:l.length≤9223372036854775807) (h:¬s.rdy l):a0h Tryz.prog 20 false [.agg s.c,.sl 1 l.length (a0e intC 0 l)] (·=.kb false):=
 pureWk (ready20 s hz hl hsk hsec l hll) fun _ e=>⟨_,rfl,fun I w v hd=>by subst e;simpa [Den,h] using hd⟩
end Go.Proofs
namespace Go.Proofs
open Go Go.Sx
set_option maxRecDepth 100000
set_option maxHeartbeats 40000000
theorem copy43n (x:Ca.Cache) (hl:x.l.length≤1000000):NewC Tryz.prog 43 [x.v] (fun r H=>r=.agg [.int .i64 x.n,.osl 0 x.l.length]∧H=[.row 76 2 x.l.length (a0e Ca.oC (0,0) x.l) false]):=by
 refine newC_ent Tryz.E_ok Tryz.func43 rfl (by kernel_rfl) ?_
 (repeat' ((conv=>whnf);first|(with_reducible first|apply spl|apply spl'|refine iJ ?_)<;>intro hc<;>try(exfalso;omega)|refine vcq ?_|refine dr 2005 ?_));all_goals(try conv=>whnf);try exact trivial
 refine⟨_,_,⟨rfl,rfl⟩,some [some 3],?_⟩
 (repeat' ((conv=>whnf);first|(with_reducible first|apply spl|apply spl'|refine iJ ?_)<;>intro hc<;>try(exfalso;omega)|refine vcq ?_|refine dr 7 ?_|refine dr 2005 ?_));all_goals(try conv=>whnf);try exact trivial
def Sv.cs (s:Sv) (k:Nat):List V:=[.int .i64 s.x.n,.sl 2 s.x.l.length (a0e Ca.oC (0,0) s.x.l),.int .i64 s.d.H,.int .i64 s.d.T,.sl 2 s.d.Z.length (a0e zC (0,0) s.d.Z),.int .i64 s.d.hk,.int .i64 s.d.ck,.int .i64 s.d.hs.1,.int .i64 s.d.hs.2,.int .i64 s.d.cs.1,.int .i64 s.d.cs.2,.osl k s.sk.length,.int .i64 s.cyl,.sl 1 s.sec.length (a0e seC 0 s.sec)]
def Sv.co (s:Sv) (k:Nat):List V:=[.int .i64 s.x.n,.osl k s.x.l.length,.int .i64 s.d.H,.int .i64 s.d.T,.sl 2 s.d.Z.length (a0e zC (0,0) s.d.Z),.int .i64 s.d.hk,.int .i64 s.d.ck,.int .i64 s.d.hs.1,.int .i64 s.d.hs.2,.int .i64 s.d.cs.1,.int .i64 s.d.cs.2,.sl 2 s.sk.length (a0e zC (0,0) s.sk),.int .i64 s.cyl,.sl 1 s.sec.length (a0e seC 0 s.sec)]
theorem copy12s (s:Sv) (hz:s.d.Z.length≤1000000) (hl:s.x.l.length≤1000000) (hsk:s.sk.length≤1000000) (hsec:s.sec.length≤1000000):NewC Tryz.prog 12 [.agg s.c] (fun r H=>r=.agg (s.cs 0)∧H=[.row 27 2 s.sk.length (a0e zC (0,0) s.sk) false]):=by
 have h1:=copy43 s.x hl
 have h2:=Copy42 s.d hz
 unfold Ca.Cache.v at h1
 unfold Dk.v Dk.c at h2
 refine newC_ent Tryz.E_ok Tryz.func12 rfl (by kernel_rfl) ?_
 unfold Sv.c
 (repeat' ((conv=>whnf);first|(with_reducible first|apply spl|apply spl'|refine iJ ?_)<;>intro hc<;>try(exfalso;omega)|refine vcq ?_|refine dr 7 ?_));all_goals(try conv=>whnf);try exact trivial
 refine a0c h1 rfl ?_
 (repeat' ((conv=>whnf);first|(with_reducible first|apply spl|apply spl'|refine iJ ?_)<;>intro hc<;>try(exfalso;omega)|refine vcq ?_|refine dr 7 ?_));all_goals(try conv=>whnf);try exact trivial
 refine a0c h2 rfl ?_
 (repeat' ((conv=>whnf);first|(with_reducible first|apply spl|apply spl'|refine iJ ?_)<;>intro hc<;>try(exfalso;omega)|refine vcq ?_|refine dr 80807090507040603052006 ?_));all_goals(try conv=>whnf);try exact trivial
 refine⟨_,_,⟨rfl,rfl⟩,some [some 5],?_⟩
 (repeat' ((conv=>whnf);first|(with_reducible first|apply spl|apply spl'|refine iJ ?_)<;>intro hc<;>try(exfalso;omega)|refine vcq ?_|refine dr 7 ?_|refine dr 2005 ?_));all_goals(try conv=>whnf);try exact trivial
theorem copy12o (s:Sv) (hz:s.d.Z.length≤1000000) (hl:s.x.l.length≤1000000) (hsk:s.sk.length≤1000000) (hsec:s.sec.length≤1000000):NewC Tryz.prog 12 [.agg s.c] (fun r H=>r=.agg (s.co 0)∧H=[.row 76 2 s.x.l.length (a0e Ca.oC (0,0) s.x.l) false]):=by
 have h1:=copy43n s.x hl
 have h2:=Copy42 s.d hz
 unfold Ca.Cache.v at h1
 unfold Dk.v Dk.c at h2
 refine newC_ent Tryz.E_ok Tryz.func12 rfl (by kernel_rfl) ?_
 unfold Sv.c
 (repeat' ((conv=>whnf);first|(with_reducible first|apply spl|apply spl'|refine iJ ?_)<;>intro hc<;>try(exfalso;omega)|refine vcq ?_|refine dr 7 ?_));all_goals(try conv=>whnf);try exact trivial
 refine ncall_intro h1 rfl ?_
 (repeat' ((conv=>whnf);first|(with_reducible first|apply spl|apply spl'|refine iJ ?_)<;>intro hc<;>try(exfalso;omega)|refine vcq ?_|refine dr 7 ?_));all_goals(try conv=>whnf);try exact trivial
 refine a0c h2 rfl ?_
 (repeat' ((conv=>whnf);first|(with_reducible first|apply spl|apply spl'|refine iJ ?_)<;>intro hc<;>try(exfalso;omega)|refine vcq ?_|refine dr 80807090507040603052006 ?_));all_goals(try conv=>whnf);try exact trivial
 refine⟨_,_,⟨rfl,rfl⟩,some [some 3],?_⟩
 (repeat' ((conv=>whnf);first|(with_reducible first|apply spl|apply spl'|refine iJ ?_)<;>intro hc<;>try(exfalso;omega)|refine vcq ?_|refine dr 7 ?_|refine dr 2005 ?_));all_goals(try conv=>whnf);try exact trivial
end Go.Proofs
namespace Go.Sx
open Go
variable {P:Program}
theorem Sat.recell {I:Nat→Prop} {η:Eta} {w:World} {H:List O} (h:Sat I η w H) {k:Nat} {ty:TypeId} {vs vs':List V} (hk:H[k]? = some (.cells ty vs)) (hd:∀e,η[k]? = some e→SatO I η w e (.cells ty vs')) :
  Sat I η w (H.set k (.cells ty vs'))∧own η (H.set k (.cells ty vs'))=own η H:=by
 have hkl:k<H.length:=(List.getElem?_eq_some_iff.1 hk).1
 have back:∀(id:Nat) (o:O),(H.set k (.cells ty vs'))[id]? = some o→∃o0,H[id]? = some o0∧(∀e b,o.has e b↔o0.has e b):=by
  intro id o ho
  rw[List.getElem?_set] at ho
  by_cases hi:k=id
  ·subst hi
   rw[if_pos rfl,if_pos hkl] at ho
   cases ho
   exact⟨_,hk,fun e b=>Iff.rfl⟩
  ·rw[if_neg hi] at ho
   exact⟨o,ho,fun _ _=>Iff.rfl⟩
 have forth:∀(id:Nat) (o0:O),H[id]? = some o0→∃o,(H.set k (.cells ty vs'))[id]? = some o∧(∀e b,o.has e b↔o0.has e b):=by
  intro id o0 ho
  by_cases hi:k=id
  ·subst hi
   rw[hk] at ho
   cases ho
   exact⟨.cells ty vs',by rw[List.getElem?_set,if_pos rfl,if_pos hkl],fun e b=>Iff.rfl⟩
  ·exact⟨o0,by rw[List.getElem?_set,if_neg hi];exact ho,fun _ _=>Iff.rfl⟩
 have hown:∀b,own η (H.set k (.cells ty vs')) b↔own η H b:=by
  intro b
  constructor
  ·rintro⟨id,e,o,h1,h2,h3⟩
   obtain⟨o0,g1,g2⟩:=back id o h2
   exact⟨id,e,o0,h1,g1,(g2 e b).1 h3⟩
  ·rintro⟨id,e,o,h1,h2,h3⟩
   obtain⟨o0,g1,g2⟩:=forth id o h2
   exact⟨id,e,o0,h1,g1,(g2 e b).2 h3⟩
 refine⟨⟨by rw[List.length_set];exact h.len,?_,?_,fun b hb=>h.notI b ((hown b).1 hb),fun b hb=>h.lt b ((hown b).1 hb),h.ilt⟩,?_⟩
 ·intro id e o h1 h2
  rw[List.getElem?_set] at h2
  by_cases hi:k=id
  ·subst hi
   rw[if_pos rfl,if_pos hkl] at h2
   cases h2
   exact hd e h1
  ·rw[if_neg hi] at h2
   exact h.obj id e o h1 h2
 ·intro id id' b e e' o o' h1 h2 h3 h4 l1 l2
  obtain⟨p0,g1,g2⟩:=back id o h3
  obtain⟨p1,g3,g4⟩:=back id' o' h4
  exact h.apart id id' b e e' p0 p1 h1 h2 g1 g3 ((g2 e b).1 l1) ((g4 e' b).1 l2)
 ·unfold own
  congr 1
  funext b
  exact propext (hown b)
theorem callee_fzc {g:FuncId} {keep:Bool} {args args':List V} {R0:V→Prop} {H:List O} {K:V→List O→Prop} {ps ps2:List Prop} {ids:List Nat} (k:Nat) {ty:TypeId} {vs vs':List V} (h:a0h P g keep args' R0)
  (hf:frzL (frzV 8 H) args=some (ps,ids,args')) (hk0:H[k]? = some (.cells ty vs)) (hf2:frzL (frzV 8 H) vs=some (ps2,ids,vs')) (hn:ids.contains k=false) (hp:∀p∈ps,p) (hp2:∀p∈ps2,p)
  (hk:∀ret,R0 ret→K ret ((goneAt ids H).set k (.cells ty vs'))):Callee P g args H K:=by
 unfold Callee
 refine⟨h.1,fun I η w vals hS hd=>?_⟩
 obtain⟨s1,m1,st1⟩:=hS.freeze ids
 have hfr:∀(l l':List V) (qs:List Prop) (xs:List Value),frzL (frzV 8 H) l=some (qs,ids,l')→(∀p∈qs,p)→DenL I η w l xs→DenL (frzI I η H ids) [] w l' xs:=fun l l' qs xs e1 e2 e3=>
  frzL_sound (C:=fun id=>∀e o b,η[id]? = some e→H[id]? = some o→o.has e b→frzI I η H ids b) (fun v v' ps ids x=>frzV_sound hS.obj (fun b hb=>.inl hb) 8 v v' ps ids x) l l' qs ids xs e1 e2
   (fun id hid e o b he ho hb=>.inr ⟨id,hid,e,o,he,ho,hb⟩) e3
 have hd':=hfr args args' ps vals hf hp hd
 have hkk:(goneAt ids H)[k]? = some (.cells ty vs):=by
  have key:∀(l:List Nat) (H:List O),l.contains k=false→H[k]? = some (.cells ty vs)→(goneAt l H)[k]? = some (.cells ty vs):=by
   intro l
   induction l with
   |nil=>intro H _ h;exact h
   |cons i l ih=>
    intro H hc h
    rw[List.contains_cons] at hc
    simp only[Bool.or_eq_false_iff,beq_eq_false_iff_ne] at hc
    refine ih _ hc.2 ?_
    rw[a0r,List.getElem?_set,if_neg (fun e=>hc.1 e.symm)]
    exact h
  exact key ids H hn hk0
 have hη:∀e,η[k]? = some e→SatO (frzI I η H ids) η w e (.cells ty vs'):=fun e he=>by
  obtain⟨b,c,e1,xs,e2,e3,e4⟩:=hS.obj k e _ he hk0
  refine⟨b,c,e1,xs,e2,e3,?_⟩
  have:=hfr vs vs' ps2 xs hf2 hp2 e4
  exact DenL.mono ⟨fun _ _ he _=>by simp at he,fun b hb=>hb,fun _ _=>rfl⟩ _ _ this
 obtain⟨s2,hown⟩:=s1.recell hkk hη
 refine(h.2 _ w vals s2.ilt hd').mono ?_
 rintro e w' ⟨ret,v,rfl,hr,hden,hpr⟩
 obtain⟨s3,m3,st3⟩:=s2.pres hpr
 refine⟨grow (frzI I η H ids) w w',η,(goneAt ids H).set k (.cells ty vs'),ret,v,rfl,hk ret hr,s3,?_,m1.trans m3,st1.trans ?_⟩
 ·refine Den.mono ⟨fun _ _ he _=>by simp at he,fun b hb=>?_,fun _ _=>rfl⟩ _ _ hden
  rcases hb with hb|hb
  ·exact .inl hb.2
  ·exact .inr hb
 ·rw[←hown]
  exact st3
end Go.Sx
namespace Go.Proofs
open Go Go.Sx
set_option maxHeartbeats 1000000
def ezS (a b:Int) (s:Int×Int):Int×Int:=(min s.2 (s.1+a),max (min s.2 (s.1+a)) (s.2-b))
namespace Qu
def ez (q:Qu) (a b:Int):Qu:={q with sk:=q.sk.map (ezS a b)}
theorem Ok.ez {q:Qu} (h:q.Ok) {a b:Int} (ha:0≤a) (hb:0≤b):(q.ez a b).Ok:=by
 refine⟨h.d,h.cyl,by show(q.sk.map _).length=_;rw[List.length_map];exact h.skl,h.rql,h.pas,fun s hs=>?_,h.rq,h.asc⟩
 obtain⟨s',h',rfl⟩:=List.mem_map.1 hs
 have:=h.sk s' h'
 unfold ezS
 dsimp only
 omega
theorem ez_sek {q:Qu} (h:q.Ok) {a b:Int} (ha:0≤a) (hb:0≤b) (x y:Nat):(q.sek x y).1≤((q.ez a b).sek x y).1∧((q.ez a b).sek x y).2≤(q.sek x y).2:=by
 unfold sek ez
 dsimp only
 generalize max (x-y) (y-x)=j
 rw[List.getD_eq_getElem?_getD,List.getD_eq_getElem?_getD,List.getElem?_map]
 by_cases hj:j<q.sk.length
 ·have:=h.sk q.sk[j] (List.getElem_mem hj)
  rw[List.getElem?_eq_getElem hj]
  show(q.sk[j]).1≤(ezS a b q.sk[j]).1∧(ezS a b q.sk[j]).2≤(q.sk[j]).2
  unfold ezS
  dsimp only
  omega
 ·rw[List.getElem?_eq_none (by omega)]
  exact⟨Int.le_refl _,Int.le_refl _⟩
theorem ez_st {q:Qu} (h:q.Ok) {a b:Int} (ha:0≤a) (hb:0≤b) (o:List Nat):∀k,(∀hi,((q.ez a b).stQ hi o k).1=(q.stQ hi o k).1)∧(q.stQ false o k).2≤((q.ez a b).stQ false o k).2∧((q.ez a b).stQ true o k).2≤(q.stQ true o k).2
 |0=>⟨fun _=>rfl,Int.le_refl _,Int.le_refl _⟩
 |k+1=>by
  obtain⟨h1,h2,h3⟩:=ez_st h ha hb o k
  refine⟨fun hi=>rfl,?_,?_⟩
  ·have g:=(ez_sek h ha hb (q.stQ false o k).1 (q.cy (q.req (o.getD k 0)).fr)).1
   show q.srv (o.getD k 0) (q.stQ false o k).2 (q.sek (q.stQ false o k).1 (q.cy (q.req (o.getD k 0)).fr)).1 (q.rn false (o.getD k 0))≤q.srv (o.getD k 0) ((q.ez a b).stQ false o k).2 ((q.ez a b).sek ((q.ez a b).stQ false o k).1 (q.cy (q.req (o.getD k 0)).fr)).1 (q.rn false (o.getD k 0))
   rw[h1]
   exact srv_mono h _ h2 g (Int.le_refl _)
  ·have g:=(ez_sek h ha hb (q.stQ true o k).1 (q.cy (q.req (o.getD k 0)).fr)).2
   show q.srv (o.getD k 0) ((q.ez a b).stQ true o k).2 ((q.ez a b).sek ((q.ez a b).stQ true o k).1 (q.cy (q.req (o.getD k 0)).fr)).2 (q.rn true (o.getD k 0))≤q.srv (o.getD k 0) (q.stQ true o k).2 (q.sek (q.stQ true o k).1 (q.cy (q.req (o.getD k 0)).fr)).2 (q.rn true (o.getD k 0))
   rw[h1]
   exact srv_mono h _ h3 g (Int.le_refl _)
def ezL (q:Qu) (a b:Int) (k:Nat):List (Int×Int):=(q.sk.take k).map (ezS a b)++q.sk.drop k
theorem ezL_len (q:Qu) (a b:Int) (k:Nat) (hk:k≤q.sk.length):(q.ezL a b k).length=q.sk.length:=by
 unfold ezL
 rw[List.length_append,List.length_map,List.length_take,List.length_drop]
 omega
theorem ezL_get (q:Qu) (a b:Int) (k j:Nat) (hk:k≤q.sk.length):(q.ezL a b k).getD j (0,0)=if j<k then ezS a b (q.sk.getD j (0,0)) else q.sk.getD j (0,0):=by
 unfold ezL
 have hl:((q.sk.take k).map (ezS a b)).length=k:=by rw[List.length_map,List.length_take];omega
 by_cases h:j<k
 ·rw[if_pos h,List.getD_eq_getElem?_getD,List.getElem?_append_left (by omega),List.getElem?_map,List.getElem?_take_of_lt h,List.getD_eq_getElem?_getD,List.getElem?_eq_getElem (by omega)]
  rfl
 ·rw[if_neg h,List.getD_eq_getElem?_getD,List.getElem?_append_right (by omega),hl,List.getElem?_drop,List.getD_eq_getElem?_getD]
  congr 2
  omega
theorem ezL_zero (q:Qu) (a b:Int):q.ezL a b 0=q.sk:=by simp[ezL]
theorem ezL_all (q:Qu) (a b:Int):q.ezL a b q.sk.length=(q.ez a b).sk:=by simp[ezL,ez]
end Qu
end Go.Proofs
namespace Go.Proofs
open Go Go.Sx
set_option maxRecDepth 100000
set_option maxHeartbeats 40000000
open Ca (Wt epW IsCrs RS)
def Sv.ez (s:Sv) (a b:Int):Sv:={s with sk:=s.sk.map (ezS a b)}
def Sv.ezL (s:Sv) (a b:Int) (i:Nat):List (Int×Int):=(s.qu []).ezL a b i
def Sv.fl (s:Sv):Sv:={s with x:=⟨s.x.n,s.x.l++[(4,0)]⟩}
theorem Sv.ez_ok {s:Sv} (h:s.Ok) {a b:Int} (ha:0≤a) (hb:0≤b):(s.ez a b).Ok:=
 ⟨h.d,h.x,⟨h.so.len,h.so.rng,h.so.nd,Qu.Ok.ez h.so.q ha hb⟩,h.few⟩
theorem Sv.ez_end {s:Sv} (h:s.Ok) {a b:Int} (ha:0≤a) (hb:0≤b) (o:List Nat) (k:Nat):s.endW false o k≤(s.ez a b).endW false o k∧(s.ez a b).endW true o k≤s.endW true o k:=by
 have:=(Qu.ez_st (Sv.quW_ok h) ha hb o (k+1)).2
 exact⟨this.1,this.2⟩
theorem Sv.ez_best {s:Sv} (h:s.Ok) {a b:Int} (ha:0≤a) (hb:0≤b):(s.ez a b).best.2≤s.best.2:=by
 obtain⟨h1,h2,_⟩:=s.best_spec
 obtain⟨_,_,g3⟩:=(s.ez a b).best_spec
 refine Int.le_trans (g3 _ h1) ?_
 rw[h2]
 unfold Sv.lastE
 split
 ·rw[if_pos (by assumption)];exact Int.le_refl _
 ·rw[if_neg (by assumption)]
  exact(Sv.ez_end h ha hb _ _).2
theorem Sv.fl_run (s:Sv):s.fl.st=s.st.wrE s.n s.st.E.length:=by
 have e:s.fl.x.l.length=s.x.l.length+1:=by show(s.x.l++[(4,0)]).length=_;simp
 have hr:∀k,k≤s.x.l.length→RS.run s.n (s.x.l++[(4,0)]) k=RS.run s.n s.x.l k:=fun k=>by
  induction k with
  |zero=>intro _;rfl
  |succ k ih=>
   intro hk
   have h1:RS.run s.n (s.x.l++[(4,0)]) (k+1)=(RS.run s.n (s.x.l++[(4,0)]) k).order s.n k ((s.x.l++[(4,0)]).getD k (0,0)):=rfl
   have h2:RS.run s.n s.x.l (k+1)=(RS.run s.n s.x.l k).order s.n k (s.x.l.getD k (0,0)):=rfl
   rw[h1,h2,ih (by omega)]
   congr 1
   rw[List.getD_eq_getElem?_getD,List.getD_eq_getElem?_getD,List.getElem?_append_left (by omega)]
 show RS.run s.n (s.x.l++[(4,0)]) s.fl.x.l.length=_
 rw[e]
 have h1:RS.run s.n (s.x.l++[(4,0)]) (s.x.l.length+1)=(RS.run s.n (s.x.l++[(4,0)]) s.x.l.length).order s.n s.x.l.length ((s.x.l++[(4,0)]).getD s.x.l.length (0,0)):=rfl
 rw[h1,hr _ (Nat.le_refl _)]
 have e2:(s.x.l++[(4,0)]).getD s.x.l.length (0,0)=(4,0):=by simp[List.getD_eq_getElem?_getD]
 rw[e2]
 rfl
theorem Sv.fl_W (s:Sv):s.fl.W=[]:=by
 have h:s.fl.W=(s.fl.st).ents s.n:=rfl
 rw[h,s.fl_run,(RS.ents_wrE (Nat.le_refl _)).1]
 rw[List.filter_eq_nil_iff]
 intro w hw
 have:=(RS.mem_ents.1 hw).1
 simp[this]
theorem Sv.fl_err {s:Sv} (h:s.Ok) (hl:s.x.l.length<16):s.fl.err=0:=by
 have hx:s.fl.x.Ok:=by
  refine⟨h.x.n,by show(s.x.l++[(4,0)]).length≤16;simp;omega,fun o ho=>?_⟩
  rcases List.mem_append.1 ho with g|g
  ·exact h.x.ord o g
  ·rw[List.mem_singleton] at g
   subst g
   exact .inr ⟨.inr rfl,rfl⟩
 have hso:s.fl.SOk:=⟨h.so.len,h.so.rng,h.so.nd,h.so.q⟩
 unfold Sv.err
 rw[if_pos (show s.fl.d.Ok from h.d),if_pos hx,if_pos hso,if_pos (by rw[s.fl_W];decide)]
theorem Sv.ez_err {s:Sv} (h:s.Ok) {a b:Int} (ha:0≤a) (hb:0≤b):(s.ez a b).err=0:=by
 have:=Sv.ez_ok h ha hb
 unfold Sv.err
 rw[if_pos this.d,if_pos this.x,if_pos this.so,if_pos this.few]
noncomputable def ServeEasier7A (s:Sv) (hz:s.d.Z.length≤9223372036854775807) (hl:s.x.l.length≤9223372036854775807) (hsk:s.sk.length≤9223372036854775807) (hsec:s.sec.length≤9223372036854775807) (l:List Int) (hll:l.length≤9223372036854775807) (a b:Int) :
  {G:List Nat→Prop // (∀o:List Nat,s.Ok→s.err=0→s.x.l.length<16→(0≤a∧a≤5000)→(0≤b∧b≤5000)→IsCrs s.W o→o.length=l.length→s.W.length≤4→(s.d.Z.length≤1000000∧s.x.l.length≤40∧s.sk.length≤100∧s.sec.length≤40)→G o)→a0h Tryz.prog 7 false [.agg s.c,.sl 1 l.length (a0e intC 0 l),.agg [.int .i64 a,.int .i64 b]] (·=.prop True inferInstance)}:=by
 constructor
 case property=>
  intro hG
  by_cases hr:s.rdy l
  ·have hrd:=readyT hz hl hsk hsec hll hr
   obtain⟨⟨n1,n2,n3,n4⟩,he,hs,hcr,hle,hW,hrow⟩:=Sv.rdy_ok hr
   have hlm:(l.map Int.toNat).length=l.length:=List.length_map ..
   have hG:=fun c1 c2 c3=>hG (l.map Int.toNat) hs he c1 c2 c3 hcr hlm hW ⟨n1,n2,n3,n4⟩
   have hcp:=copy12s s n1 (by omega) (by omega) (by omega)
   have hE1:=okEnds n1 (by omega) (by omega) (by omega) he hcr
   have hel:(s.ez a b).sk.length=s.sk.length:=List.length_map ..
   have hE2:=fun(h1:0≤a) (h2:0≤b)=>okEnds (s:=s.ez a b) n1 (show s.x.l.length≤1000000 by omega) (by omega) (show s.sec.length≤1000000 by omega) (Sv.ez_err hs h1 h2) hcr
   have hzl:=fun i h=>(s.qu []).ezL_len a b i h
   have hzg:=fun i j h=>(s.qu []).ezL_get a b i j h
   have hza:s.ezL a b s.sk.length=(s.ez a b).sk:=(s.qu []).ezL_all a b
   have hz0:s.ezL a b 0=s.sk:=(s.qu []).ezL_zero a b
   have hskb:∀i,i<s.sk.length→(0≤(s.sk.getD i (0,0)).1∧(s.sk.getD i (0,0)).1≤(s.sk.getD i (0,0)).2)∧(s.sk.getD i (0,0)).2≤5000:=fun i h=>by
    have:=Qu.sk_at hs.so.q h
    have h2:(s.qu []).sk=s.sk:=rfl
    rw[h2] at this
    exact⟨⟨by omega,by omega⟩,by omega⟩
   rw[hlm] at hE1 hE2
   rw[hrow] at hrd ⊢
   clear hcr hr hrow
   generalize l.map Int.toNat=o at *
   unfold Sv.cs at hcp
   unfold Sv.c at *
   rw[hel] at hE2
   refine a0a Tryz.E_ok Tryz.func7 rfl (by kernel_rfl) ?_
   (repeat' ((conv=>whnf);first|(with_reducible first|apply spl|apply spl'|refine iJ ?_)<;>intro hc<;>try(exfalso;omega)|refine vcq ?_|fail));all_goals(try conv=>whnf);try exact trivial
   refine a0b hrd rfl ?_
   rintro _ rfl
   (repeat' ((conv=>whnf);first|(with_reducible first|apply spl|apply spl'|refine iJ ?_)<;>intro hc<;>try(exfalso;omega)|refine vcq ?_|fail));all_goals(try conv=>whnf);try exact trivial
   ·refine a0b works11 rfl ?_
    rintro _ rfl
    (repeat' ((conv=>whnf);first|(with_reducible first|apply spl|apply spl'|refine iJ ?_)<;>intro hc<;>try(exfalso;omega)|refine vcq ?_|fail));all_goals(try conv=>whnf);try exact trivial
    refine⟨_,rfl,?_⟩
    (repeat' ((conv=>whnf);first|(with_reducible first|apply spl|apply spl'|refine iJ ?_)<;>intro hc<;>try(exfalso;omega)|refine vcq ?_|fail));all_goals(try conv=>whnf);try exact trivial
   ·have hab:s.x.l.length<16∧(0≤a∧a≤5000)∧0≤b∧b≤5000:=by omega
    obtain⟨c1,c2,c3⟩:=hab
    clear hc
    have hE2:=hE2 c2.1 c3.1
    refine callee_new hcp rfl ?_
    rintro _ _ ⟨rfl,rfl⟩
    (repeat' ((conv=>whnf);first|(with_reducible first|apply spl|apply spl'|refine iJ ?_)<;>intro hc<;>try(exfalso;omega)|refine vcq ?_|fail));all_goals(try conv=>whnf);try exact trivial
    refine⟨Nat,fun i=>i≤s.sk.length,fun i=>s.sk.length-i,fun i=>[(8,.int .i64 (i:Nat)),(9,.any),(25,.any),(26,.any),(27,.any),(28,.any),(29,.any),(30,.any),(31,.any),(32,.any),(33,.any),(34,.any),(35,.any),(36,.any),(37,.any),(38,.any),(39,.any),(40,.any),(41,.any),(42,.any),(43,.any),(44,.any),(45,.any),(46,.any),(47,.any),(48,.any),(49,.any),(50,.any),(51,.any),(52,.any),(53,.any),(54,.any),(55,.any),(56,.any),(57,.any),(58,.any)],fun i=>[(2,.row 27 2 s.sk.length (a0e zC (0,0) (s.ezL a b i)) false)],fun _=>[],0,⟨by omega,some [some 0,some 1,some 2,some 3],?_⟩,?_⟩
    ·dsimp only
     rw[hz0]
     (repeat' ((conv=>whnf);first|(with_reducible first|apply spl|apply spl'|refine iJ ?_)<;>intro hc<;>try(exfalso;omega)|refine vcq ?_|fail));all_goals(try conv=>whnf);try exact trivial
    ·intro i hi
     have hi:i≤s.sk.length:=hi
     have hti:(i:Int).toNat=i:=Int.toNat_natCast i
     (repeat' ((conv=>whnf);first|(with_reducible first|apply spl|apply spl'|refine iJ ?_)<;>intro hc<;>try(exfalso;omega)|refine vcq ?_|fail));all_goals(try conv=>whnf);try exact trivial
     ·have hil:i<s.sk.length:=by omega
      have hsb:=hskb i hil
      have hgi:=hzg i i hi
      rw[if_neg (Nat.lt_irrefl i)] at hgi
      have hgi:(s.ezL a b i).getD i (0,0)=s.sk.getD i (0,0):=hgi
      rw[hti,hgi]
      (repeat' ((conv=>whnf);first|(with_reducible first|apply spl|apply spl'|refine iJ ?_)<;>intro hc<;>try(exfalso;omega)|refine vcq ?_|fail));all_goals(try conv=>whnf);try exact trivial
      refine⟨i+1,⟨by omega,by dsimp only;omega⟩,some [some 0,some 1,some 2,some 3],?_⟩
      (repeat' ((conv=>whnf);first|(with_reducible first|apply spl|apply spl'|refine iJ ?_)<;>intro hc<;>try(exfalso;omega)|refine vcq ?_|fail));all_goals(try conv=>whnf);try exact trivial
      refine⟨fun j _=>?_,?_⟩
      ·have e1:(s.ezL a b (i+1)).getD j (0,0)=if j<i+1 then ezS a b (s.sk.getD j (0,0)) else s.sk.getD j (0,0):=hzg (i+1) j (by show i+1≤s.sk.length;omega)
       have e2:(s.ezL a b i).getD j (0,0)=if j<i then ezS a b (s.sk.getD j (0,0)) else s.sk.getD j (0,0):=hzg i j hi
       show _=zC ((s.ezL a b (i+1)).getD j (0,0))
       rw[e1,hti]
       dsimp only
       by_cases h:j=i
       ·subst h
        rw[a0z rfl,if_pos (Nat.lt_succ_self j)]
        rfl
       ·rw[a0u h]
        show zC ((s.ezL a b i).getD j (0,0))=_
        rw[e2]
        by_cases h2:j<i
        ·rw[if_pos h2,if_pos (by omega)]
        ·rw[if_neg h2,if_neg (by omega)]
      ·(repeat' ((conv=>whnf);first|(with_reducible first|apply spl|apply spl'|refine iJ ?_)<;>intro hc<;>try(exfalso;omega)|refine vcq ?_|fail));all_goals(try conv=>whnf);try exact trivial
     ·obtain rfl:i=s.sk.length:=by omega
      rw[hza]
      clear hzl hzg hskb hcp
      refine a0b hE1 rfl ?_
      rintro _ rfl
      (repeat' ((conv=>whnf);first|(with_reducible first|apply spl|apply spl'|refine iJ ?_)<;>intro hc<;>try(exfalso;omega)|refine vcq ?_|fail));all_goals(try conv=>whnf);try exact trivial
      refine callee_fzc 3 hE2 rfl rfl rfl rfl ?_ ?_ ?_
      ·simp[a2i]
      ·simp[a2i]
      rintro _ rfl
      (repeat' ((conv=>whnf);first|(with_reducible first|apply spl|apply spl'|refine iJ ?_)<;>intro hc<;>try(exfalso;omega)|refine vcq ?_|fail));all_goals(try conv=>whnf);try exact trivial
      exact hG c1 c2 c3
  ·have hrd:=readyF hz hl hsk hsec hll hr
   unfold Sv.c at *
   refine a0a Tryz.E_ok Tryz.func7 rfl (by kernel_rfl) ?_
   (repeat' ((conv=>whnf);first|(with_reducible first|apply spl|apply spl'|refine iJ ?_)<;>intro hc<;>try(exfalso;omega)|refine vcq ?_|fail));all_goals(try conv=>whnf);try exact trivial
   refine a0b hrd rfl ?_
   rintro _ rfl
   (repeat' ((conv=>whnf);first|(with_reducible first|apply spl|apply spl'|refine iJ ?_)<;>intro hc<;>try(exfalso;omega)|refine vcq ?_|fail));all_goals(try conv=>whnf);try exact trivial
   refine a0b works11 rfl ?_
   rintro _ rfl
   (repeat' ((conv=>whnf);first|(with_reducible first|apply spl|apply spl'|refine iJ ?_)<;>intro hc<;>try(exfalso;omega)|refine vcq ?_|fail));all_goals(try conv=>whnf);try exact trivial
   refine⟨_,rfl,?_⟩
   (repeat' ((conv=>whnf);first|(with_reducible first|apply spl|apply spl'|refine iJ ?_)<;>intro hc<;>try(exfalso;omega)|refine vcq ?_|fail));all_goals(try conv=>whnf);try exact trivial
theorem ServeEasier7 (s:Sv) (hz:s.d.Z.length≤9223372036854775807) (hl:s.x.l.length≤9223372036854775807) (hsk:s.sk.length≤9223372036854775807) (hsec:s.sec.length≤9223372036854775807) (l:List Int) (hll:l.length≤9223372036854775807) (a b:Int):a0h Tryz.prog 7 false [.agg s.c,.sl 1 l.length (a0e intC 0 l),.agg [.int .i64 a,.int .i64 b]] (·=.prop True inferInstance):=by
 refine(ServeEasier7A s hz hl hsk hsec l hll a b).2 fun o hs he hx16 ha hb hcr hlm hW ⟨n1,n2,n3,n4⟩=>?_
 have hol:=hcr.len
 have hen:=fun k=>Sv.ez_end hs ha.1 hb.1 o k
 have hbest:=Sv.ez_best hs ha.1 hb.1
 have hB1:=okBest n1 (by omega) (by omega) (by omega) he
 have hel:(s.ez a b).sk.length=s.sk.length:=List.length_map ..
 have hB2:=okBest (s:=s.ez a b) n1 (show s.x.l.length≤1000000 by omega) (by omega) (show s.sec.length≤1000000 by omega) (Sv.ez_err hs ha.1 hb.1)
 have hcp:=copy12o s n1 (by omega) (by omega) (by omega)
 have hfl:s.fl.x.l.length=s.x.l.length+1:=by show(s.x.l++[(4,0)]).length=_;simp
 have hF:=okEntries (s:=s.fl) n1 (by omega) (show s.sk.length≤1000000 by omega) (show s.sec.length≤1000000 by omega) (Sv.fl_err hs hx16)
 rw[s.fl_W] at hF
 have hF:a0h Tryz.prog 24 true [.agg s.fl.c] (·=.tup [.sl 3 0 (a0e wtC wt0 []),.int .i64 0]):=hF
 unfold Sv.co at hcp
 unfold Sv.c at *
 rw[hel] at hB2
 rw[hfl] at hF
 refine⟨Nat,fun i=>i≤l.length,fun i=>l.length-i,fun i=>[(15,.int .i64 (i:Nat)),(8,.any),(9,.any),(10,.any),(59,.any),(60,.any),(61,.any),(62,.any),(63,.any),(64,.any),(65,.any),(66,.any),(67,.any),(68,.any),(69,.any),(70,.any),(71,.any),(72,.any),(73,.any),(74,.any),(75,.any),(76,.any),(77,.any),(78,.any),(79,.any),(80,.any),(81,.any),(82,.any),(83,.any),(84,.any),(85,.any),(86,.any),(87,.any),(88,.any),(89,.any),(90,.any),(91,.any),(92,.any),(93,.any),(94,.any),(95,.any),(96,.any),(97,.any),(98,.any),(99,.any),(100,.any),(101,.any),(102,.any),(103,.any),(104,.any),(105,.any),(106,.any),(107,.any),(108,.any),(109,.any),(110,.any),(111,.any),(112,.any),(113,.any),(114,.any),(115,.any),(116,.any),(117,.any),(118,.any),(119,.any),(120,.any),(121,.any),(122,.any),(123,.any)],fun _=>[],fun _=>[],0,⟨by omega,none,?_⟩,?_⟩
 ·(repeat' ((conv=>whnf);first|(with_reducible first|apply spl|apply spl'|refine iJ ?_)<;>intro hc<;>try(exfalso;omega)|refine vcq ?_|refine dr 24 ?_));all_goals(try conv=>whnf);try exact trivial
 ·intro i hi
  have hi:i≤l.length:=hi
  have hti:(i:Int).toNat=i:=Int.toNat_natCast i
  have hen:=hen ((i:Int).toNat)
  (repeat' ((conv=>whnf);first|(with_reducible first|apply spl|apply spl'|refine iJ ?_)<;>intro hc<;>try(exfalso;omega)|refine vcq ?_|refine dr 24 ?_));all_goals(try conv=>whnf);try exact trivial
  ·refine⟨i+1,⟨by omega,by dsimp only;omega⟩,none,?_⟩
   (repeat' ((conv=>whnf);first|(with_reducible first|apply spl|apply spl'|refine iJ ?_)<;>intro hc<;>try(exfalso;omega)|refine vcq ?_|refine dr 24 ?_));all_goals(try conv=>whnf);try exact trivial
   rfl
  ·clear hen
   refine a0b hB1 rfl ?_
   rintro _ rfl
   (repeat' ((conv=>whnf);first|(with_reducible first|apply spl|apply spl'|refine iJ ?_)<;>intro hc<;>try(exfalso;omega)|refine vcq ?_|refine dr 24 ?_));all_goals(try conv=>whnf);try exact trivial
   refine a0b hB2 rfl ?_
   rintro _ rfl
   generalize s.best=B1 at *
   generalize (s.ez a b).best=B2 at *
   (repeat' ((conv=>whnf);first|(with_reducible first|apply spl|apply spl'|refine iJ ?_)<;>intro hc<;>try(exfalso;omega)|refine vcq ?_|refine dr 24 ?_));all_goals(try conv=>whnf);try exact trivial
   refine callee_new hcp rfl ?_
   rintro _ _ ⟨rfl,rfl⟩
   (repeat' ((conv=>whnf);first|(with_reducible first|apply spl|apply spl'|refine iJ ?_)<;>intro hc<;>try(exfalso;omega)|refine vcq ?_|refine dr 24 ?_));all_goals(try conv=>whnf);try exact trivial
   refine callee_frz (a0h.view hF ?_) rfl ?_ ?_
   ·(repeat' ((conv=>whnf);first|(with_reducible first|apply spl|apply spl'|refine iJ ?_)<;>intro hc<;>try(exfalso;omega)|refine vcq ?_|refine dr 24 ?_));all_goals(try conv=>whnf);try exact trivial
    refine⟨a2m (c:=Ca.oC) (d:=(0,0)) (l:=s.x.l) (a:=(4,0)) rfl (fun _ _=>rfl),?_⟩
    (repeat' ((conv=>whnf);first|(with_reducible first|apply spl|apply spl'|refine iJ ?_)<;>intro hc<;>try(exfalso;omega)|refine vcq ?_|refine dr 24 ?_));all_goals(try conv=>whnf);try exact trivial
   ·simp[a2i]
   rintro _ rfl
   (repeat' ((conv=>whnf);first|(with_reducible first|apply spl|apply spl'|refine iJ ?_)<;>intro hc<;>try(exfalso;omega)|refine vcq ?_|refine dr 24 ?_));all_goals(try conv=>whnf);try exact trivial
   refine a0b works11 rfl ?_
   rintro _ rfl
   (repeat' ((conv=>whnf);first|(with_reducible first|apply spl|apply spl'|refine iJ ?_)<;>intro hc<;>try(exfalso;omega)|refine vcq ?_|refine dr 24 ?_));all_goals(try conv=>whnf);try exact trivial
   refine⟨_,rfl,?_⟩
   (repeat' ((conv=>whnf);first|(with_reducible first|apply spl|apply spl'|refine iJ ?_)<;>intro hc<;>try(exfalso;omega)|refine vcq ?_|refine dr 24 ?_));all_goals(try conv=>whnf);try exact trivial
end Go.Proofs
