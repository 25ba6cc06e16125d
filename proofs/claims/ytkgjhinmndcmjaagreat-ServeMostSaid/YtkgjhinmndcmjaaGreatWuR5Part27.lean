/- Own work: texts of the proof of a law (WuK, SzPn, WuL8, WuP, WuL5). No condition. -/
import Derived.Test.YtkgjhinmndcmjaaGreatPart26
namespace Go.Proofs
open Go Go.Sx
set_option maxRecDepth 100000
set_option maxHeartbeats 40000000
theorem copy12 (s:Sv) (hz:s.d.Z.length≤1000000) (hl:s.x.l.length≤1000000) (hsk:s.sk.length≤1000000) (hsec:s.sec.length≤1000000):a0h Tryz.prog 12 true [.agg s.c] (·=.agg s.c):=by
 have h1:=copy43 s.x hl
 have h2:=Copy42 s.d hz
 unfold Ca.Cache.v at h1
 unfold Dk.v Dk.c at h2
 refine a0a Tryz.E_ok Tryz.func12 rfl (by kernel_rfl) ?_
 unfold Sv.c
 (repeat' ((conv=>whnf);first|(with_reducible first|apply spl|apply spl'|refine iJ ?_)<;>intro hc<;>try(exfalso;omega)|refine vcq ?_|refine dr 7 ?_));all_goals((try conv=>whnf);try exact trivial)
 refine a0c h1 rfl ?_
 (repeat' ((conv=>whnf);first|(with_reducible first|apply spl|apply spl'|refine iJ ?_)<;>intro hc<;>try(exfalso;omega)|refine vcq ?_|refine dr 7 ?_));all_goals((try conv=>whnf);try exact trivial)
 refine a0c h2 rfl ?_
 (repeat' ((conv=>whnf);first|(with_reducible first|apply spl|apply spl'|refine iJ ?_)<;>intro hc<;>try(exfalso;omega)|refine vcq ?_|refine dr 80807090507040603052006 ?_));all_goals((try conv=>whnf);try exact trivial)
 refine⟨_,rfl,?_⟩
 (repeat' ((conv=>whnf);first|(with_reducible first|apply spl|apply spl'|refine iJ ?_)<;>intro hc<;>try(exfalso;omega)|refine vcq ?_|refine dr 7 ?_));all_goals((try conv=>whnf);try exact trivial)
end Go.Proofs
namespace Go.Sx
open Go
variable {P:Program}
end Go.Sx
namespace Go.Proofs
open Go Go.Sx
set_option maxRecDepth 100000
set_option maxHeartbeats 40000000
theorem Sv.near {s:Sv} (h:¬s.far):s.d.Z.length≤1000000∧s.x.l.length≤40∧s.sk.length≤100∧s.sec.length≤40:=by
 refine⟨?_,Nat.le_of_not_lt fun g=>h (.inl (.inl (.inl (.inr g)))),Nat.le_of_not_lt fun g=>h (.inl (.inl (.inr g))),Nat.le_of_not_lt fun g=>h (.inl (.inr g))⟩
 rcases Nat.lt_or_ge 20 s.d.Z.length with g|g
 ·exact absurd (.inl (.inl (.inl (.inl (.inl (by omega)))))) h
 ·omega
theorem Sv.few4 {s:Sv} (h:¬s.far) (he:s.err=0):s.W.length≤4:=Nat.le_of_not_lt fun g=>h (.inr ⟨he,g⟩)
theorem sameSpansS (n:Nat) (f g:Nat→Int) (hn:n≤1000000):a0h Tryz.prog 36 false [.sl 2 n (fun k=>[.int .i64 (f k),.int .i64 (g k)]),.sl 2 n (fun k=>[.int .i64 (f k),.int .i64 (g k)])] (·=.kb true):=
 pureWk (sameSpans30 n n (fun k=>(f k,g k)) (fun k=>(f k,g k)) hn hn) fun _ e=>⟨_,rfl,fun I w v hd=>by subst e;simpa [Den] using hd⟩
theorem den_nil {I:Nat→Prop} {η:Eta} {w:World} {v:Value} {sz:Nat} {f:Nat→List V} (h:Den I η w (.lit (.slice none 0 0)) v):Den I η w (.sl sz 0 f) v:=.inl ⟨rfl,none,0,h⟩
theorem den_tup1 {I:Nat→Prop} {η:Eta} {w:World} {v:Value} {a b:V} {l:List V} (hab:∀v,Den I η w a v→Den I η w b v) (h:Den I η w (.tup (a :: l)) v):Den I η w (.tup (b :: l)) v:=by
 obtain⟨vs,h1,x,r,h2,h3,h4⟩:=h
 exact⟨vs,h1,x,r,h2,hab _ h3,h4⟩
theorem entB (s:Sv) (hz:s.d.Z.length≤1000000) (hl:s.x.l.length≤1000000) (hsk:s.sk.length≤1000000) (hsec:s.sec.length≤1000000):∃U:List Ca.Wt,(s.err=0→U=s.W)∧(s.err≠0→U=[])∧a0h Tryz.prog 24 true [.agg s.c] (·=.tup [.sl 3 U.length (a0f wtC wt0 U),.int .i64 s.err])∧a0h Tryz.prog 34 true [.agg s.c] (·=.tup [.sl 3 U.length (a0f wtC wt0 U),.int .i64 s.err]):=by
 by_cases he:s.err=0
 ·refine⟨s.W,fun _=>rfl,fun h=>absurd he h,pureWk (entriesS s hz hl hsk hsec) fun r h=>?_,pureWk (rentries34 s hz hl hsk hsec) fun r h=>?_⟩
  all_goals
   rcases h with⟨_,rfl⟩|⟨h,_⟩
   ·rw[he]
    exact⟨_,rfl,fun _ _ _ h=>h⟩
   ·exact absurd he h
 ·refine⟨[],fun h=>absurd h he,fun _=>rfl,pureWk (entriesS s hz hl hsk hsec) fun r h=>?_,pureWk (rentries34 s hz hl hsk hsec) fun r h=>?_⟩
  all_goals
   rcases h with⟨h,_⟩|⟨_,rfl⟩
   ·exact absurd h he
   ·exact⟨_,rfl,fun I w v h=>den_tup1 (fun _=>den_nil) h⟩
theorem endsB (s:Sv) (hz:s.d.Z.length≤1000000) (hl:s.x.l.length≤1000000) (hsk:s.sk.length≤1000000) (hsec:s.sec.length≤1000000) (l:List Int) (hll:l.length≤1000000):∃(n:Nat) (f g:Nat→Int),n≤l.length∧a0h Tryz.prog 22 true [.agg s.c,.sl 1 l.length (a0f intC 0 l)] (·=.tup [.sl 2 n (fun k=>[.int .i64 (f k),.int .i64 (g k)]),.int .i64 (s.cerr l)])∧a0h Tryz.prog 35 true [.agg s.c,.sl 1 l.length (a0f intC 0 l)] (·=.tup [.sl 2 n (fun k=>[.int .i64 (f k),.int .i64 (g k)]),.int .i64 (s.cerr l)]):=by
 by_cases he:s.cerr l=0
 ·refine⟨l.length,s.endW false (l.map Int.toNat),s.endW true (l.map Int.toNat),Nat.le_refl _,pureWk (endsS s hz hl hsk hsec l hll) fun r h=>?_,pureWk (rends35 s hz hl hsk hsec l hll) fun r h=>?_⟩
  all_goals
   rcases h with⟨_,rfl⟩|⟨h,_⟩
   ·rw[he]
    exact⟨_,rfl,fun _ _ _ h=>h⟩
   ·exact absurd he h
 ·refine⟨0,fun _=>0,fun _=>0,Nat.zero_le _,pureWk (endsS s hz hl hsk hsec l hll) fun r h=>?_,pureWk (rends35 s hz hl hsk hsec l hll) fun r h=>?_⟩
  all_goals
   rcases h with⟨h,_⟩|⟨_,rfl⟩
   ·exact absurd h he
   ·exact⟨_,rfl,fun I w v h=>den_tup1 (fun _=>den_nil) h⟩
theorem ServeEnds8 (s:Sv) (hz:s.d.Z.length≤9223372036854775807) (hl:s.x.l.length≤9223372036854775807) (hsk:s.sk.length≤9223372036854775807) (hsec:s.sec.length≤9223372036854775807) (l:List Int) (hll:l.length≤9223372036854775807):a0h Tryz.prog 8 false [.agg s.c,.sl 1 l.length (a0f intC 0 l)] (·=.prop True inferInstance):=by
 have hf:=far10 s hz hl hsk hsec
 have hcp:=fun a b c d=>copy12 s a b c d
 have hck:=fun a b c d=>checkS s a b c d
 have hrc:=fun a b c d=>rcheck33 s a b c d
 unfold Sv.c at *
 refine a0a Tryz.E_ok Tryz.func8 rfl (by kernel_rfl) ?_
 (repeat' ((conv=>whnf);first|(with_reducible first|apply spl|apply spl'|refine iJ ?_)<;>intro hc<;>try(exfalso;omega)|refine vcq ?_|refine dr 80807072003 ?_|refine dr 5 ?_|refine dr 9 ?_));all_goals((try conv=>whnf);try exact trivial)
 refine a0b hf rfl ?_
 rintro _ rfl
 (repeat' ((conv=>whnf);first|(with_reducible first|apply spl|apply spl'|refine iJ ?_)<;>intro hc<;>try(exfalso;omega)|refine vcq ?_|refine dr 80807072003 ?_|refine dr 5 ?_|refine dr 9 ?_));all_goals((try conv=>whnf);try exact trivial)
 ·refine a0b works11 rfl ?_
  rintro _ rfl
  (repeat' ((conv=>whnf);first|(with_reducible first|apply spl|apply spl'|refine iJ ?_)<;>intro hc<;>try(exfalso;omega)|refine vcq ?_|refine dr 80807072003 ?_|refine dr 5 ?_|refine dr 9 ?_));all_goals((try conv=>whnf);try exact trivial)
  refine⟨_,rfl,?_⟩
  (repeat' ((conv=>whnf);first|(with_reducible first|apply spl|apply spl'|refine iJ ?_)<;>intro hc<;>try(exfalso;omega)|refine vcq ?_|refine dr 80807072003 ?_|refine dr 5 ?_|refine dr 9 ?_));all_goals((try conv=>whnf);try exact trivial)
 ·have hnf:¬s.far:=fun g=>hc (.inl g)
  have hll2:l.length≤20:=Nat.le_of_not_lt fun g=>hc (.inr (by omega))
  obtain⟨n1,n2,n3,n4⟩:=Sv.near hnf
  clear hc
  refine a0b (hcp n1 (by omega) (by omega) (by omega)) rfl ?_
  rintro _ rfl
  (repeat' ((conv=>whnf);first|(with_reducible first|apply spl|apply spl'|refine iJ ?_)<;>intro hc<;>try(exfalso;omega)|refine vcq ?_|refine dr 80807072003 ?_|refine dr 5 ?_|refine dr 9 ?_));all_goals((try conv=>whnf);try exact trivial)
  refine a0c (hck n1 (by omega) (by omega) (by omega)) rfl ?_
  (repeat' ((conv=>whnf);first|(with_reducible first|apply spl|apply spl'|refine iJ ?_)<;>intro hc<;>try(exfalso;omega)|refine vcq ?_|refine dr 80807072003 ?_|refine dr 5 ?_|refine dr 9 ?_));all_goals((try conv=>whnf);try exact trivial)
  refine a0c (hrc n1 (by omega) (by omega) (by omega)) rfl ?_
  (repeat' ((conv=>whnf);first|(with_reducible first|apply spl|apply spl'|refine iJ ?_)<;>intro hc<;>try(exfalso;omega)|refine vcq ?_|refine dr 80807072003 ?_|refine dr 5 ?_|refine dr 9 ?_));all_goals((try conv=>whnf);try exact trivial)
  obtain⟨U,hU1,hU2,hB1,hB2⟩:=entB s n1 (by omega) (by omega) (by omega)
  obtain⟨n,f,g,hnl,hE1,hE2⟩:=endsB s n1 (by omega) (by omega) (by omega) l (by omega)
  have hU4:U.length≤4:=by
   by_cases he:s.err=0
   ·rw[hU1 he];exact Sv.few4 hnf he
   ·rw[hU2 he];exact Nat.zero_le 4
  clear hU1 hU2
  unfold Sv.c at hB1 hB2 hE1 hE2
  refine a0b hB1 rfl ?_
  rintro _ rfl
  (repeat' ((conv=>whnf);first|(with_reducible first|apply spl|apply spl'|refine iJ ?_)<;>intro hc<;>try(exfalso;omega)|refine vcq ?_|refine dr 80807072003 ?_|refine dr 5 ?_|refine dr 9 ?_));all_goals((try conv=>whnf);try exact trivial)
  refine a0b hB2 rfl ?_
  rintro _ rfl
  (repeat' ((conv=>whnf);first|(with_reducible first|apply spl|apply spl'|refine iJ ?_)<;>intro hc<;>try(exfalso;omega)|refine vcq ?_|refine dr 80807072003 ?_|refine dr 5 ?_|refine dr 9 ?_));all_goals((try conv=>whnf);try exact trivial)
  refine⟨Nat,fun i=>i≤U.length,fun i=>U.length-i,fun i=>[(10,.int .i64 (i:Nat))],fun _=>[],fun _=>[],0,⟨by omega,none,?_⟩,?_⟩
  ·(repeat' ((conv=>whnf);first|(with_reducible first|apply spl|apply spl'|refine iJ ?_)<;>intro hc<;>try(exfalso;omega)|refine vcq ?_|refine dr 80807072003 ?_|refine dr 5 ?_|refine dr 9 ?_));all_goals((try conv=>whnf);try exact trivial)
  ·intro i hi
   have hi:i≤U.length:=hi
   have hti:(i:Int).toNat=i:=Int.toNat_natCast i
   (repeat' ((conv=>whnf);first|(with_reducible first|apply spl|apply spl'|refine iJ ?_)<;>intro hc<;>try(exfalso;omega)|refine vcq ?_|refine dr 80807072003 ?_|refine dr 5 ?_|refine dr 9 ?_));all_goals((try conv=>whnf);try exact trivial)
   ·refine⟨i+1,⟨by omega,by dsimp only;omega⟩,none,?_⟩
    (repeat' ((conv=>whnf);first|(with_reducible first|apply spl|apply spl'|refine iJ ?_)<;>intro hc<;>try(exfalso;omega)|refine vcq ?_|refine dr 80807072003 ?_|refine dr 5 ?_|refine dr 9 ?_));all_goals((try conv=>whnf);try exact trivial)
   ·refine callee_frz (a0h.view hE1 ?_) rfl ?_ ?_
    ·(repeat' ((conv=>whnf);first|(with_reducible first|apply spl|apply spl'|refine iJ ?_)<;>intro hc<;>try(exfalso;omega)|refine vcq ?_|refine dr 80807072003 ?_|refine dr 5 ?_|refine dr 9 ?_));all_goals((try conv=>whnf);try exact trivial)
    ·simp[a2e]
    ·rintro _ rfl
     (repeat' ((conv=>whnf);first|(with_reducible first|apply spl|apply spl'|refine iJ ?_)<;>intro hc<;>try(exfalso;omega)|refine vcq ?_|refine dr 80807072003 ?_|refine dr 5 ?_|refine dr 9 ?_));all_goals((try conv=>whnf);try exact trivial)
     refine a0b hE2 rfl ?_
     rintro _ rfl
     (repeat' ((conv=>whnf);first|(with_reducible first|apply spl|apply spl'|refine iJ ?_)<;>intro hc<;>try(exfalso;omega)|refine vcq ?_|refine dr 80807072003 ?_|refine dr 5 ?_|refine dr 9 ?_));all_goals((try conv=>whnf);try exact trivial)
     refine a0b (sameSpansS n f g (by omega)) rfl ?_
     rintro _ rfl
     (repeat' ((conv=>whnf);first|(with_reducible first|apply spl|apply spl'|refine iJ ?_)<;>intro hc<;>try(exfalso;omega)|refine vcq ?_|refine dr 80807072003 ?_|refine dr 5 ?_|refine dr 9 ?_));all_goals((try conv=>whnf);try exact trivial)
     refine a0b works11 rfl ?_
     rintro _ rfl
     (repeat' ((conv=>whnf);first|(with_reducible first|apply spl|apply spl'|refine iJ ?_)<;>intro hc<;>try(exfalso;omega)|refine vcq ?_|refine dr 80807072003 ?_|refine dr 5 ?_|refine dr 9 ?_));all_goals((try conv=>whnf);try exact trivial)
     refine⟨_,rfl,?_⟩
     (repeat' ((conv=>whnf);first|(with_reducible first|apply spl|apply spl'|refine iJ ?_)<;>intro hc<;>try(exfalso;omega)|refine vcq ?_|refine dr 80807072003 ?_|refine dr 5 ?_|refine dr 9 ?_));all_goals((try conv=>whnf);try exact trivial)
end Go.Proofs
namespace Go.Proofs
open Go Go.Sx
set_option maxRecDepth 100000
set_option maxHeartbeats 40000000
open Ca (Wt epW IsCrs)
theorem rowNI (o:List Nat):a0f natC 0 o=a0f intC 0 (o.map Int.ofNat):=by
 funext i
 unfold a0f
 show [V.int .i64 ((o.getD i 0:Nat):Int)]=[V.int .i64 ((o.map Int.ofNat).getD i 0)]
 rw[List.getD_eq_getElem?_getD,List.getD_eq_getElem?_getD,List.getElem?_map]
 cases o[i]?<;>rfl
theorem toNat_ofNat (o:List Nat):(o.map Int.ofNat).map Int.toNat=o:=by
 rw[List.map_map]
 simp[Function.comp_def]
def Sv.rdy (s:Sv) (l:List Int):Prop:=(¬s.far∧l.length≤20)∧s.cerr l=0
theorem Sv.cerr_nat {s:Sv} (he:s.err=0) {o:List Nat} (ho:IsCrs s.W o):s.cerr (o.map Int.ofNat)=0:=by
 have h:CrsI s.W (o.map Int.ofNat):=IsCrs.crsI ho
 unfold Sv.cerr
 rw[if_pos he,if_pos h]
section
variable {s:Sv} (hz:s.d.Z.length≤1000000) (hx:s.x.l.length≤1000000) (hsk:s.sk.length≤1000000) (hsec:s.sec.length≤1000000) (he:s.err=0)
include hz hx hsk hsec he
theorem okBest:a0h Tryz.prog 13 true [.agg s.c] (·=.tup [.sl 1 s.best.1.length (a0f natC 0 s.best.1),.int .i64 s.best.2,.int .i64 0]):=
 pureWk (best13 s hz hx hsk hsec) fun r h=>by
  rcases h with⟨_,rfl⟩|⟨h,_⟩
  ·exact⟨_,rfl,fun _ _ _ h=>h⟩
  ·exact absurd he h
theorem okMost (x:Int) (ht:0≤x∧x≤100000):a0h Tryz.prog 18 true [.agg s.c,.int .i64 x] (·=.tup [.sl 1 (s.most x).1.length (a0f natC 0 (s.most x).1),.int .i64 (s.most x).2,.int .i64 0]):=
 pureWk (most18 s hz hx hsk hsec x) fun r h=>by
  rcases h with⟨_,_,rfl⟩|⟨_,h,_⟩|⟨h,_⟩
  ·exact⟨_,rfl,fun _ _ _ h=>h⟩
  ·exact absurd ht h
  ·exact absurd he h
theorem okCC {o:List Nat} (ho:IsCrs s.W o):a0h Tryz.prog 21 false [.agg s.c,.sl 1 o.length (a0f natC 0 o)] (·=.int .i64 0):=by
 have h:=checkCourse21 s hz hx hsk hsec (o.map Int.ofNat) (by rw[List.length_map,ho.len];have:=(Sv.err_ok he).few;omega)
 rw[Sv.cerr_nat he ho,←rowNI,List.length_map] at h
 exact h
theorem okEnds {o:List Nat} (ho:IsCrs s.W o):a0h Tryz.prog 22 true [.agg s.c,.sl 1 o.length (a0f natC 0 o)] (·=.tup [.sl 2 o.length (fun k=>[.int .i64 (s.endW false o k),.int .i64 (s.endW true o k)]),.int .i64 0]):=by
 have h:=endsS s hz hx hsk hsec (o.map Int.ofNat) (by rw[List.length_map,ho.len];have:=(Sv.err_ok he).few;omega)
 rw[←rowNI,List.length_map,toNat_ofNat] at h
 exact pureWk h fun r h=>by
  rcases h with⟨_,rfl⟩|⟨h,_⟩
  ·exact⟨_,rfl,fun _ _ _ h=>h⟩
  ·exact absurd (Sv.cerr_nat he ho) h
end
theorem ready20 (s:Sv) (hz:s.d.Z.length≤9223372036854775807) (hl:s.x.l.length≤9223372036854775807) (hsk:s.sk.length≤9223372036854775807) (hsec:s.sec.length≤9223372036854775807) (l:List Int) (hll:l.length≤9223372036854775807):a0h Tryz.prog 20 false [.agg s.c,.sl 1 l.length (a0f intC 0 l)] (·=.prop (s.rdy l) (Classical.propDecidable _)):=by
 have hf:=far10 s hz hl hsk hsec
 have hcc:¬s.far∧l.length≤20→a0h Tryz.prog 21 false [.agg s.c,.sl 1 l.length (a0f intC 0 l)] (·=.int .i64 (s.cerr l)):=fun h=>by
  obtain⟨n1,n2,n3,n4⟩:=Sv.near h.1
  exact checkCourse21 s n1 (by omega) (by omega) (by omega) l (by omega)
 unfold Sv.c at *
 refine a0a Tryz.E_ok Tryz.func20 rfl (by kernel_rfl) ?_
 (repeat' ((conv=>whnf);first|(with_reducible first|apply spl|apply spl'|refine iJ ?_)<;>intro hc<;>try(exfalso;omega)|refine vcq ?_|fail));all_goals((try conv=>whnf);try exact trivial)
 refine a0b hf rfl ?_
 rintro _ rfl
 (repeat' ((conv=>whnf);first|(with_reducible first|apply spl|apply spl'|refine iJ ?_)<;>intro hc<;>try(exfalso;omega)|refine vcq ?_|fail));all_goals((try conv=>whnf);try exact trivial)
 ·have hc2:¬s.far∧l.length≤20:=⟨hc.1,by have:=hc.2;omega⟩
  refine a0b (hcc hc2) rfl ?_
  rintro _ rfl
  (repeat' ((conv=>whnf);first|(with_reducible first|apply spl|apply spl'|refine iJ ?_)<;>intro hc<;>try(exfalso;omega)|refine vcq ?_|fail));all_goals((try conv=>whnf);try exact trivial)
  refine⟨_,rfl,?_⟩
  (repeat' ((conv=>whnf);first|(with_reducible first|apply spl|apply spl'|refine iJ ?_)<;>intro hc<;>try(exfalso;omega)|refine vcq ?_|fail));all_goals((try conv=>whnf);try exact trivial)
  exact⟨⟨fun h=>⟨hc2,h⟩,fun h=>h.2⟩,trivial⟩
 ·refine⟨_,rfl,?_⟩
  (repeat' ((conv=>whnf);first|(with_reducible first|apply spl|apply spl'|refine iJ ?_)<;>intro hc<;>try(exfalso;omega)|refine vcq ?_|fail));all_goals((try conv=>whnf);try exact trivial)
  exact⟨fun h=>hc ⟨h.1.1,by have:=h.1.2;omega⟩,trivial⟩
theorem saved23 (n:Nat) (f g:Nat→Int) (hn:n≤1000000) (t:Int) (hup:∀i j,i≤j→j<n→g i≤g j):a0h Tryz.prog 23 false [.sl 2 n (fun k=>[.int .i64 (f k),.int .i64 (g k)]),.int .i64 t] (·=.int .i64 (Sv.cntK g t n:Nat)):=by
 have hle:=Sv.cntK_le g t n
 have hiff:=fun i hi=>Sv.cntK_iff hup (t:=t) n (Nat.le_refl n) i hi
 refine a0a Tryz.E_ok Tryz.func23 rfl (by kernel_rfl) ?_
 (repeat' ((conv=>whnf);first|(with_reducible first|apply spl|apply spl'|refine iJ ?_)<;>intro hc<;>try(exfalso;omega)|refine vcq ?_|fail));all_goals((try conv=>whnf);try exact trivial)
 refine⟨Nat,fun i=>i≤Sv.cntK g t n,fun i=>n-i,fun i=>[(5,.int .i64 (i:Nat))],fun _=>[],fun _=>[],0,⟨by omega,none,?_⟩,?_⟩
 ·(repeat' ((conv=>whnf);first|(with_reducible first|apply spl|apply spl'|refine iJ ?_)<;>intro hc<;>try(exfalso;omega)|refine vcq ?_|fail));all_goals((try conv=>whnf);try exact trivial)
 ·intro i hi
  have hi:i≤Sv.cntK g t n:=hi
  have hti:(i:Int).toNat=i:=Int.toNat_natCast i
  (repeat' ((conv=>whnf);first|(with_reducible first|apply spl|apply spl'|refine iJ ?_)<;>intro hc<;>try(exfalso;omega)|refine vcq ?_|fail));all_goals((try conv=>whnf);try exact trivial)
  ·rw[hti] at hc
   have:=(hiff i (by omega)).1 hc.2
   refine⟨i+1,⟨by omega,by dsimp only;omega⟩,none,?_⟩
   (repeat' ((conv=>whnf);first|(with_reducible first|apply spl|apply spl'|refine iJ ?_)<;>intro hc<;>try(exfalso;omega)|refine vcq ?_|fail));all_goals((try conv=>whnf);try exact trivial)
  ·rw[hti] at hc
   have:i=Sv.cntK g t n:=by
    rcases Nat.lt_or_eq_of_le hi with h|h
    ·exact absurd ⟨by omega,(hiff i (by omega)).2 h⟩ hc
    ·exact h
   refine⟨_,rfl,?_⟩
   rw[this]
   (repeat' ((conv=>whnf);first|(with_reducible first|apply spl|apply spl'|refine iJ ?_)<;>intro hc<;>try(exfalso;omega)|refine vcq ?_|fail));all_goals((try conv=>whnf);try exact trivial)
theorem Sv.rdy_ok {s:Sv} {l:List Int} (h:s.rdy l):(s.d.Z.length≤1000000∧s.x.l.length≤40∧s.sk.length≤100∧s.sec.length≤40)∧s.err=0∧s.Ok∧IsCrs s.W (l.map Int.toNat)∧l.length=s.W.length∧s.W.length≤4∧a0f intC 0 l=a0f natC 0 (l.map Int.toNat):=by
 obtain⟨⟨h1,h2⟩,h3⟩:=h
 obtain⟨he,hi⟩:=Sv.cerr_ok h3
 have hcr:=hi.crs
 exact⟨Sv.near h1,he,Sv.err_ok he,hcr,by rw[←hcr.len,List.length_map],Sv.few4 h1 he,hi.1.row⟩
theorem readyT {s:Sv} (hz:s.d.Z.length≤9223372036854775807) (hl:s.x.l.length≤9223372036854775807) (hsk:s.sk.length≤9223372036854775807) (hsec:s.sec.length≤9223372036854775807) {l:List Int} (hll:l.length≤9223372036854775807) (h:s.rdy l):a0h Tryz.prog 20 false [.agg s.c,.sl 1 l.length (a0f intC 0 l)] (·=.kb true):=
 pureWk (ready20 s hz hl hsk hsec l hll) fun _ e=>⟨_,rfl,fun I w v hd=>by subst e;simpa [Den,h] using hd⟩
theorem readyF {s:Sv} (hz:s.d.Z.length≤9223372036854775807) (hl:s.x.l.length≤9223372036854775807) (hsk:s.sk.length≤9223372036854775807) (hsec:s.sec.length≤9223372036854775807) {l:List Int} (hll:l.length≤9223372036854775807) (h:¬s.rdy l):a0h Tryz.prog 20 false [.agg s.c,.sl 1 l.length (a0f intC 0 l)] (·=.kb false):=
 pureWk (ready20 s hz hl hsk hsec l hll) fun _ e=>⟨_,rfl,fun I w v hd=>by subst e;simpa [Den,h] using hd⟩
end Go.Proofs
namespace Go.Proofs
open Go Go.Sx
set_option maxRecDepth 100000
set_option maxHeartbeats 40000000
open Ca (Wt epW IsCrs)
theorem ServeMost5 (s:Sv) (hz:s.d.Z.length≤9223372036854775807) (hl:s.x.l.length≤9223372036854775807) (hsk:s.sk.length≤9223372036854775807) (hsec:s.sec.length≤9223372036854775807) (l:List Int) (hll:l.length≤9223372036854775807) (x m:Int):a0h Tryz.prog 5 false [.agg s.c,.agg [.sl 1 l.length (a0f intC 0 l),.int .i64 x],.int .i64 m] (·=.prop True inferInstance):=by
 by_cases hr:s.rdy l
 ·have hrd:=readyT hz hl hsk hsec hll hr
  obtain⟨⟨n1,n2,n3,n4⟩,he,hs,hcr,hle,hW,hrow⟩:=Sv.rdy_ok hr
  obtain⟨b1,b2,b3⟩:=s.most_spec x
  have hM1:=fun h=>okMost n1 (by omega) (by omega) (by omega) he x h
  have hM2:=fun h=>okMost n1 (by omega) (by omega) (by omega) he (x+m) h
  have hC:=okCC n1 (by omega) (by omega) (by omega) he b1
  have hE1:=okEnds n1 (by omega) (by omega) (by omega) he b1
  have hE2:=okEnds n1 (by omega) (by omega) (by omega) he hcr
  have hb3:=b3 _ hcr
  have hbl:=b1.len
  have hlm:(l.map Int.toNat).length=l.length:=List.length_map ..
  have hS1:=saved23 (s.most x).1.length (s.endW false (s.most x).1) (s.endW true (s.most x).1) (by omega) x (fun i j hij hj=>Sv.endW_up hs true b1 hij (by omega))
  have hS2:=saved23 l.length (s.endW false (l.map Int.toNat)) (s.endW true (l.map Int.toNat)) (by omega) x (fun i j hij hj=>Sv.endW_up hs true hcr hij (by omega))
  have hmt:0≤m→(s.most x).2≤(s.most (x+m)).2:=fun h=>Sv.most_time (by omega)
  have e1:((Sv.cntK (s.endW true (s.most x).1) x (s.most x).1.length:Nat):Int)=(s.most x).2:=by
   rw[b2,hbl]
   rfl
  have e2:((Sv.cntK (s.endW true (l.map Int.toNat)) x l.length:Nat):Int)≤(s.most x).2:=by
   rw[hle]
   exact hb3
  rw[hrow] at hrd ⊢
  rw[hlm] at hE2
  clear hb3 b1 b2 b3 hcr hr hrow
  generalize s.most x=B at *
  generalize s.most (x+m)=B2 at *
  generalize l.map Int.toNat=o at *
  unfold Sv.c at *
  refine a0a Tryz.E_ok Tryz.func5 rfl (by kernel_rfl) ?_
  (repeat' ((conv=>whnf);first|(with_reducible first|apply spl|apply spl'|refine iJ ?_)<;>intro hc<;>try(exfalso;omega)|refine vcq ?_|fail));all_goals((try conv=>whnf);try exact trivial)
  refine a0b hrd rfl ?_
  rintro _ rfl
  (repeat' ((conv=>whnf);first|(with_reducible first|apply spl|apply spl'|refine iJ ?_)<;>intro hc<;>try(exfalso;omega)|refine vcq ?_|fail));all_goals((try conv=>whnf);try exact trivial)
  ·refine a0b works11 rfl ?_
   rintro _ rfl
   (repeat' ((conv=>whnf);first|(with_reducible first|apply spl|apply spl'|refine iJ ?_)<;>intro hc<;>try(exfalso;omega)|refine vcq ?_|fail));all_goals((try conv=>whnf);try exact trivial)
   refine⟨_,rfl,?_⟩
   (repeat' ((conv=>whnf);first|(with_reducible first|apply spl|apply spl'|refine iJ ?_)<;>intro hc<;>try(exfalso;omega)|refine vcq ?_|fail));all_goals((try conv=>whnf);try exact trivial)
  ·have hx:0≤x∧x≤100000∧0≤m∧m≤100000-x:=by omega
   obtain⟨x1,x2,x3,x4⟩:=hx
   have hmt:=hmt x3
   clear hc
   refine a0b (hM1 ⟨x1,x2⟩) rfl ?_
   rintro _ rfl
   (repeat' ((conv=>whnf);first|(with_reducible first|apply spl|apply spl'|refine iJ ?_)<;>intro hc<;>try(exfalso;omega)|refine vcq ?_|fail));all_goals((try conv=>whnf);try exact trivial)
   refine a0b hC rfl ?_
   rintro _ rfl
   (repeat' ((conv=>whnf);first|(with_reducible first|apply spl|apply spl'|refine iJ ?_)<;>intro hc<;>try(exfalso;omega)|refine vcq ?_|fail));all_goals((try conv=>whnf);try exact trivial)
   refine a0b (hM2 ⟨by omega,by omega⟩) rfl ?_
   rintro _ rfl
   (repeat' ((conv=>whnf);first|(with_reducible first|apply spl|apply spl'|refine iJ ?_)<;>intro hc<;>try(exfalso;omega)|refine vcq ?_|fail));all_goals((try conv=>whnf);try exact trivial)
   refine a0b hE1 rfl ?_
   rintro _ rfl
   (repeat' ((conv=>whnf);first|(with_reducible first|apply spl|apply spl'|refine iJ ?_)<;>intro hc<;>try(exfalso;omega)|refine vcq ?_|fail));all_goals((try conv=>whnf);try exact trivial)
   refine a0b hE2 rfl ?_
   rintro _ rfl
   (repeat' ((conv=>whnf);first|(with_reducible first|apply spl|apply spl'|refine iJ ?_)<;>intro hc<;>try(exfalso;omega)|refine vcq ?_|fail));all_goals((try conv=>whnf);try exact trivial)
   refine a0b hS1 rfl ?_
   rintro _ rfl
   (repeat' ((conv=>whnf);first|(with_reducible first|apply spl|apply spl'|refine iJ ?_)<;>intro hc<;>try(exfalso;omega)|refine vcq ?_|fail));all_goals((try conv=>whnf);try exact trivial)
   refine a0b hS2 rfl ?_
   rintro _ rfl
   (repeat' ((conv=>whnf);first|(with_reducible first|apply spl|apply spl'|refine iJ ?_)<;>intro hc<;>try(exfalso;omega)|refine vcq ?_|fail));all_goals((try conv=>whnf);try exact trivial)
   refine a0b works11 rfl ?_
   rintro _ rfl
   (repeat' ((conv=>whnf);first|(with_reducible first|apply spl|apply spl'|refine iJ ?_)<;>intro hc<;>try(exfalso;omega)|refine vcq ?_|fail));all_goals((try conv=>whnf);try exact trivial)
   refine⟨_,rfl,?_⟩
   (repeat' ((conv=>whnf);first|(with_reducible first|apply spl|apply spl'|refine iJ ?_)<;>intro hc<;>try(exfalso;omega)|refine vcq ?_|fail));all_goals((try conv=>whnf);try exact trivial)
 ·have hrd:=readyF hz hl hsk hsec hll hr
  unfold Sv.c at *
  refine a0a Tryz.E_ok Tryz.func5 rfl (by kernel_rfl) ?_
  (repeat' ((conv=>whnf);first|(with_reducible first|apply spl|apply spl'|refine iJ ?_)<;>intro hc<;>try(exfalso;omega)|refine vcq ?_|fail));all_goals((try conv=>whnf);try exact trivial)
  refine a0b hrd rfl ?_
  rintro _ rfl
  (repeat' ((conv=>whnf);first|(with_reducible first|apply spl|apply spl'|refine iJ ?_)<;>intro hc<;>try(exfalso;omega)|refine vcq ?_|fail));all_goals((try conv=>whnf);try exact trivial)
  refine a0b works11 rfl ?_
  rintro _ rfl
  (repeat' ((conv=>whnf);first|(with_reducible first|apply spl|apply spl'|refine iJ ?_)<;>intro hc<;>try(exfalso;omega)|refine vcq ?_|fail));all_goals((try conv=>whnf);try exact trivial)
  refine⟨_,rfl,?_⟩
  (repeat' ((conv=>whnf);first|(with_reducible first|apply spl|apply spl'|refine iJ ?_)<;>intro hc<;>try(exfalso;omega)|refine vcq ?_|fail));all_goals((try conv=>whnf);try exact trivial)
end Go.Proofs
