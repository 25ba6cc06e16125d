/- Own work: texts of the proof of a law (WuK, SzPn, WuL8, WuL3). No condition. -/
import Derived.Test.YtkgjhinmndcmjaaGreatPart26
namespace Go.Proofs
open Go Go.Sx
set_option maxRecDepth 100000
set_option maxHeartbeats 40000000
theorem copy12 (s:Sv) (hz:s.d.Z.length≤1000000) (hl:s.x.l.length≤1000000) (hsk:s.sk.length≤1000000) (hsec:s.sec.length≤1000000):a0h Tryz.prog 12 true [.agg s.c] (·=.agg s.c):=by
 have h1:=copy43 s.x hl
 have h2:=Copy42 s.d hz
 unfold Ca.Cache.v at h1
 unfold Dk.v Dk.c at h2
 refine a0a Tryz.E_ok Tryz.func12 rfl (by kernel_rfl) ?_
 unfold Sv.c
 (repeat' ((conv=>whnf);first|(with_reducible first|apply spl|apply spl'|refine iJ ?_)<;>intro hc<;>try(exfalso;omega)|refine vcq ?_|refine dr 7 ?_));all_goals(try conv=>whnf);try exact trivial
 refine a0c h1 rfl ?_
 (repeat' ((conv=>whnf);first|(with_reducible first|apply spl|apply spl'|refine iJ ?_)<;>intro hc<;>try(exfalso;omega)|refine vcq ?_|refine dr 7 ?_));all_goals(try conv=>whnf);try exact trivial
 refine a0c h2 rfl ?_
 (repeat' ((conv=>whnf);first|(with_reducible first|apply spl|apply spl'|refine iJ ?_)<;>intro hc<;>try(exfalso;omega)|refine vcq ?_|refine dr 80807090507040603052006 ?_));all_goals(try conv=>whnf);try exact trivial
 refine⟨_,rfl,?_⟩
 (repeat' ((conv=>whnf);first|(with_reducible first|apply spl|apply spl'|refine iJ ?_)<;>intro hc<;>try(exfalso;omega)|refine vcq ?_|refine dr 7 ?_));all_goals(try conv=>whnf);try exact trivial
end Go.Proofs
namespace Go.Sx
open Go
variable {P:Program}
end Go.Sx
namespace Go.Proofs
open Go Go.Sx
set_option maxRecDepth 100000
set_option maxHeartbeats 40000000
theorem Sv.near {s:Sv} (h:¬s.far):s.d.Z.length≤1000000∧s.x.l.length≤40∧s.sk.length≤100∧s.sec.length≤40:=by
 refine⟨?_,Nat.le_of_not_lt fun g=>h (.inl (.inl (.inl (.inr g)))),Nat.le_of_not_lt fun g=>h (.inl (.inl (.inr g))),Nat.le_of_not_lt fun g=>h (.inl (.inr g))⟩
 rcases Nat.lt_or_ge 20 s.d.Z.length with g|g
 ·exact absurd (.inl (.inl (.inl (.inl (.inl (by omega)))))) h
 ·omega
theorem Sv.few4 {s:Sv} (h:¬s.far) (he:s.err=0):s.W.length≤4:=Nat.le_of_not_lt fun g=>h (.inr ⟨he,g⟩)
theorem den_nil {I:Nat→Prop} {η:Eta} {w:World} {v:Value} {sz:Nat} {f:Nat→List V} (h:Den I η w (.lit (.slice none 0 0)) v):Den I η w (.sl sz 0 f) v:=.inl ⟨rfl,none,0,h⟩
theorem den_tup1 {I:Nat→Prop} {η:Eta} {w:World} {v:Value} {a b:V} {l:List V} (hab:∀v,Den I η w a v→Den I η w b v) (h:Den I η w (.tup (a :: l)) v):Den I η w (.tup (b :: l)) v:=by
 obtain⟨vs,h1,x,r,h2,h3,h4⟩:=h
 exact⟨vs,h1,x,r,h2,hab _ h3,h4⟩
theorem den_tup2 {I:Nat→Prop} {η:Eta} {w:World} {v:Value} {a b c d:V} {l:List V} (hab:∀v,Den I η w a v→Den I η w b v) (hcd:∀v,Den I η w c v→Den I η w d v) (h:Den I η w (.tup (a :: c :: l)) v):Den I η w (.tup (b :: d :: l)) v:=by
 obtain⟨vs,h1,x,r,h2,h3,y,t,h4,h5,h6⟩:=h
 exact⟨vs,h1,x,r,h2,hab _ h3,y,t,h4,hcd _ h5,h6⟩
theorem entB (s:Sv) (hz:s.d.Z.length≤1000000) (hl:s.x.l.length≤1000000) (hsk:s.sk.length≤1000000) (hsec:s.sec.length≤1000000):∃U:List Ca.Wt,(s.err=0→U=s.W)∧(s.err≠0→U=[])∧a0h Tryz.prog 24 true [.agg s.c] (·=.tup [.sl 3 U.length (a0e wtC wt0 U),.int .i64 s.err])∧a0h Tryz.prog 34 true [.agg s.c] (·=.tup [.sl 3 U.length (a0e wtC wt0 U),.int .i64 s.err]):=by
 by_cases he:s.err=0
 ·refine⟨s.W,fun _=>rfl,fun h=>absurd he h,pureWk (entriesS s hz hl hsk hsec) fun r h=>?_,pureWk (rentries34 s hz hl hsk hsec) fun r h=>?_⟩
  all_goals
   rcases h with⟨_,rfl⟩|⟨h,_⟩
   ·rw[he]
    exact⟨_,rfl,fun _ _ _ h=>h⟩
   ·exact absurd he h
 ·refine⟨[],fun h=>absurd h he,fun _=>rfl,pureWk (entriesS s hz hl hsk hsec) fun r h=>?_,pureWk (rentries34 s hz hl hsk hsec) fun r h=>?_⟩
  all_goals
   rcases h with⟨h,_⟩|⟨_,rfl⟩
   ·exact absurd h he
   ·exact⟨_,rfl,fun I w v h=>den_tup1 (fun _=>den_nil) h⟩
theorem bestB (s:Sv) (hz:s.d.Z.length≤1000000) (hl:s.x.l.length≤1000000) (hsk:s.sk.length≤1000000) (hsec:s.sec.length≤1000000):∃(o:List Nat) (e:Int),o.length≤6∧a0h Tryz.prog 13 true [.agg s.c] (·=.tup [.sl 1 o.length (a0e natC 0 o),.int .i64 e,.int .i64 s.err])∧a0h Tryz.prog 14 true [.agg s.c] (·=.tup [.sl 1 o.length (a0e natC 0 o),.int .i64 e,.int .i64 s.err]):=by
 by_cases he:s.err=0
 ·refine⟨s.best.1,s.best.2,by rw[s.best_spec.1.len];exact(Sv.err_ok he).few,pureWk (best13 s hz hl hsk hsec) fun r h=>?_,pureWk (rbest14 s hz hl hsk hsec) fun r h=>?_⟩
  all_goals
   rcases h with⟨_,rfl⟩|⟨h,_⟩
   ·rw[he]
    exact⟨_,rfl,fun _ _ _ h=>h⟩
   ·exact absurd he h
 ·refine⟨[],0,by decide,pureWk (best13 s hz hl hsk hsec) fun r h=>?_,pureWk (rbest14 s hz hl hsk hsec) fun r h=>?_⟩
  all_goals
   rcases h with⟨h,_⟩|⟨_,rfl⟩
   ·exact absurd h he
   ·exact⟨_,rfl,fun I w v h=>den_tup1 (fun _=>den_nil) h⟩
theorem mostB (s:Sv) (hz:s.d.Z.length≤1000000) (hl:s.x.l.length≤1000000) (hsk:s.sk.length≤1000000) (hsec:s.sec.length≤1000000) (x:Int):∃(o:List Nat) (e f:Int),o.length≤6∧a0h Tryz.prog 18 true [.agg s.c,.int .i64 x] (·=.tup [.sl 1 o.length (a0e natC 0 o),.int .i64 e,.int .i64 f])∧a0h Tryz.prog 19 true [.agg s.c,.int .i64 x] (·=.tup [.sl 1 o.length (a0e natC 0 o),.int .i64 e,.int .i64 f]):=by
 by_cases he:s.err=0
 ·by_cases hx:0≤x∧x≤100000
  ·refine⟨(s.most x).1,(s.most x).2,0,by rw[(s.most_spec x).1.len];exact(Sv.err_ok he).few,pureWk (most18 s hz hl hsk hsec x) fun r h=>?_,pureWk (rmost19 s hz hl hsk hsec x) fun r h=>?_⟩
   all_goals
    rcases h with⟨_,_,rfl⟩|⟨_,h,_⟩|⟨h,_⟩
    ·exact⟨_,rfl,fun _ _ _ h=>h⟩
    ·exact absurd hx h
    ·exact absurd he h
  ·refine⟨[],0,1,by decide,pureWk (most18 s hz hl hsk hsec x) fun r h=>?_,pureWk (rmost19 s hz hl hsk hsec x) fun r h=>?_⟩
   all_goals
    rcases h with⟨_,h,_⟩|⟨_,_,rfl⟩|⟨h,_⟩
    ·exact absurd h hx
    ·exact⟨_,rfl,fun I w v h=>den_tup1 (fun _=>den_nil) h⟩
    ·exact absurd he h
 ·refine⟨[],0,s.err,by decide,pureWk (most18 s hz hl hsk hsec x) fun r h=>?_,pureWk (rmost19 s hz hl hsk hsec x) fun r h=>?_⟩
  all_goals
   rcases h with⟨h,_⟩|⟨h,_⟩|⟨_,rfl⟩
   ·exact absurd h he
   ·exact absurd h he
   ·exact⟨_,rfl,fun I w v h=>den_tup1 (fun _=>den_nil) h⟩
theorem heldB (s:Sv) (hz:s.d.Z.length≤1000000) (hx:s.x.l.length≤1000000) (hsk:s.sk.length≤1000000) (hsec:s.sec.length≤1000000) (l:List Int) (hl:l.length≤1000000) (x:Int):∃(n:Nat) (F G:Nat→Int) (f:Int),n≤6∧a0h Tryz.prog 16 true [.agg s.c,.sl 1 l.length (a0e intC 0 l),.int .i64 x] (·=.tup [.sl 1 n (mdC F),.sl 1 n (mdC G),.int .i64 f])∧a0h Tryz.prog 17 true [.agg s.c,.sl 1 l.length (a0e intC 0 l),.int .i64 x] (·=.tup [.sl 1 n (mdC F),.sl 1 n (mdC G),.int .i64 f]):=by
 by_cases he:s.cerr l=0
 ·by_cases ht:0≤x∧x≤100000
  ·have hs:=Sv.err_ok (Sv.cerr_ok he).1
   refine⟨s.n,s.img (l.map Int.toNat) (Sv.cntK (s.endW true (l.map Int.toNat)) x s.W.length),s.img (l.map Int.toNat) (Sv.cntK (s.endW false (l.map Int.toNat)) x s.W.length),0,(Sv.at_small hs.x (Nat.le_refl _)).2.2.2.1,pureWk (held16 s hz hx hsk hsec l hl x) fun r h=>?_,pureWk (rheld17 s hz hx hsk hsec l hl x) fun r h=>?_⟩
   all_goals
    rcases h with⟨_,_,rfl⟩|⟨_,h,_⟩|⟨h,_⟩
    ·exact⟨_,rfl,fun _ _ _ h=>h⟩
    ·exact absurd ht h
    ·exact absurd he h
  ·refine⟨0,fun _=>0,fun _=>0,1,by decide,pureWk (held16 s hz hx hsk hsec l hl x) fun r h=>?_,pureWk (rheld17 s hz hx hsk hsec l hl x) fun r h=>?_⟩
   all_goals
    rcases h with⟨_,h,_⟩|⟨_,_,rfl⟩|⟨h,_⟩
    ·exact absurd h ht
    ·exact⟨_,rfl,fun I w v h=>den_tup2 (fun _=>den_nil) (fun _=>den_nil) h⟩
    ·exact absurd he h
 ·refine⟨0,fun _=>0,fun _=>0,s.cerr l,by decide,pureWk (held16 s hz hx hsk hsec l hl x) fun r h=>?_,pureWk (rheld17 s hz hx hsk hsec l hl x) fun r h=>?_⟩
  all_goals
   rcases h with⟨h,_⟩|⟨h,_⟩|⟨_,rfl⟩
   ·exact absurd h he
   ·exact absurd h he
   ·exact⟨_,rfl,fun I w v h=>den_tup2 (fun _=>den_nil) (fun _=>den_nil) h⟩
theorem sameIntsO (o:List Nat) (h:o.length≤6):a0h Tryz.prog 15 false [.sl 1 o.length (a0e natC 0 o),.sl 1 o.length (a0e natC 0 o)] (·=.kb true):=
 pureWk (sameInts29 o o (by omega) (by omega)) fun _ e=>⟨_,rfl,fun I w v hd=>by subst e;simpa [Den] using hd⟩
theorem sameIntsM (n:Nat) (F:Nat→Int) (h:n≤6):a0h Tryz.prog 15 false [.sl 1 n (mdC F),.sl 1 n (mdC F)] (·=.kb true):=
 pureWk (sameInts30 n n (by omega) (by omega) F F) fun _ e=>⟨_,rfl,fun I w v hd=>by subst e;simpa [Den] using hd⟩
theorem ServeBests3 (s:Sv) (hz:s.d.Z.length≤9223372036854775807) (hl:s.x.l.length≤9223372036854775807) (hsk:s.sk.length≤9223372036854775807) (hsec:s.sec.length≤9223372036854775807) (l:List Int) (hll:l.length≤9223372036854775807) (x:Int):a0h Tryz.prog 3 false [.agg s.c,.agg [.sl 1 l.length (a0e intC 0 l),.int .i64 x]] (·=.prop True inferInstance):=by
 have hf:=far10 s hz hl hsk hsec
 have hcp:=fun a b c d=>copy12 s a b c d
 unfold Sv.c at *
 refine a0a Tryz.E_ok Tryz.func3 rfl (by kernel_rfl) ?_
 (repeat' ((conv=>whnf);first|(with_reducible first|apply spl|apply spl'|refine iJ ?_)<;>intro hc<;>try(exfalso;omega)|refine vcq ?_|refine dr 5070406121212111111111010102006 ?_));all_goals(try conv=>whnf);try exact trivial
 refine a0b hf rfl ?_
 rintro _ rfl
 (repeat' ((conv=>whnf);first|(with_reducible first|apply spl|apply spl'|refine iJ ?_)<;>intro hc<;>try(exfalso;omega)|refine vcq ?_|refine dr 5070406121212111111111010102006 ?_));all_goals(try conv=>whnf);try exact trivial
 ·refine a0b works11 rfl ?_
  rintro _ rfl
  (repeat' ((conv=>whnf);first|(with_reducible first|apply spl|apply spl'|refine iJ ?_)<;>intro hc<;>try(exfalso;omega)|refine vcq ?_|refine dr 5070406121212111111111010102006 ?_));all_goals(try conv=>whnf);try exact trivial
  refine⟨_,rfl,?_⟩
  (repeat' ((conv=>whnf);first|(with_reducible first|apply spl|apply spl'|refine iJ ?_)<;>intro hc<;>try(exfalso;omega)|refine vcq ?_|refine dr 5070406121212111111111010102006 ?_));all_goals(try conv=>whnf);try exact trivial
 ·have hnf:¬s.far:=fun g=>hc (.inl g)
  have hll2:l.length≤20:=Nat.le_of_not_lt fun g=>hc (.inr (by omega))
  obtain⟨n1,n2,n3,n4⟩:=Sv.near hnf
  clear hc
  obtain⟨o,e,ho,hB1,hB2⟩:=bestB s n1 (by omega) (by omega) (by omega)
  obtain⟨o2,e2,f2,ho2,hM1,hM2⟩:=mostB s n1 (by omega) (by omega) (by omega) x
  obtain⟨n,F,G,f,hn,hH1,hH2⟩:=heldB s n1 (by omega) (by omega) (by omega) l (by omega) x
  unfold Sv.c at hB1 hB2 hM1 hM2 hH1 hH2
  refine a0b (hcp n1 (by omega) (by omega) (by omega)) rfl ?_
  rintro _ rfl
  (repeat' ((conv=>whnf);first|(with_reducible first|apply spl|apply spl'|refine iJ ?_)<;>intro hc<;>try(exfalso;omega)|refine vcq ?_|refine dr 5070406121212111111111010102006 ?_));all_goals(try conv=>whnf);try exact trivial
  refine a0b hB1 rfl ?_
  rintro _ rfl
  (repeat' ((conv=>whnf);first|(with_reducible first|apply spl|apply spl'|refine iJ ?_)<;>intro hc<;>try(exfalso;omega)|refine vcq ?_|refine dr 5070406121212111111111010102006 ?_));all_goals(try conv=>whnf);try exact trivial
  refine a0b hB2 rfl ?_
  rintro _ rfl
  (repeat' ((conv=>whnf);first|(with_reducible first|apply spl|apply spl'|refine iJ ?_)<;>intro hc<;>try(exfalso;omega)|refine vcq ?_|refine dr 5070406121212111111111010102006 ?_));all_goals(try conv=>whnf);try exact trivial
  refine a0b (sameIntsO o ho) rfl ?_
  rintro _ rfl
  (repeat' ((conv=>whnf);first|(with_reducible first|apply spl|apply spl'|refine iJ ?_)<;>intro hc<;>try(exfalso;omega)|refine vcq ?_|refine dr 5070406121212111111111010102006 ?_));all_goals(try conv=>whnf);try exact trivial
  refine callee_frz (a0h.view hH1 ?_) rfl ?_ ?_
  ·(repeat' ((conv=>whnf);first|(with_reducible first|apply spl|apply spl'|refine iJ ?_)<;>intro hc<;>try(exfalso;omega)|refine vcq ?_|refine dr 5070406121212111111111010102006 ?_));all_goals(try conv=>whnf);try exact trivial
  ·simp[a2g]
  rintro _ rfl
  (repeat' ((conv=>whnf);first|(with_reducible first|apply spl|apply spl'|refine iJ ?_)<;>intro hc<;>try(exfalso;omega)|refine vcq ?_|refine dr 5070406121212111111111010102006 ?_));all_goals(try conv=>whnf);try exact trivial
  refine a0b hH2 rfl ?_
  rintro _ rfl
  (repeat' ((conv=>whnf);first|(with_reducible first|apply spl|apply spl'|refine iJ ?_)<;>intro hc<;>try(exfalso;omega)|refine vcq ?_|refine dr 5070406121212111111111010102006 ?_));all_goals(try conv=>whnf);try exact trivial
  refine a0b hM1 rfl ?_
  rintro _ rfl
  (repeat' ((conv=>whnf);first|(with_reducible first|apply spl|apply spl'|refine iJ ?_)<;>intro hc<;>try(exfalso;omega)|refine vcq ?_|refine dr 5070406121212111111111010102006 ?_));all_goals(try conv=>whnf);try exact trivial
  refine a0b hM2 rfl ?_
  rintro _ rfl
  (repeat' ((conv=>whnf);first|(with_reducible first|apply spl|apply spl'|refine iJ ?_)<;>intro hc<;>try(exfalso;omega)|refine vcq ?_|refine dr 5070406121212111111111010102006 ?_));all_goals(try conv=>whnf);try exact trivial
  refine a0b (sameIntsM n F hn) rfl ?_
  rintro _ rfl
  (repeat' ((conv=>whnf);first|(with_reducible first|apply spl|apply spl'|refine iJ ?_)<;>intro hc<;>try(exfalso;omega)|refine vcq ?_|refine dr 5070406121212111111111010102006 ?_));all_goals(try conv=>whnf);try exact trivial
  refine a0b (sameIntsM n G hn) rfl ?_
  rintro _ rfl
  (repeat' ((conv=>whnf);first|(with_reducible first|apply spl|apply spl'|refine iJ ?_)<;>intro hc<;>try(exfalso;omega)|refine vcq ?_|refine dr 5070406121212111111111010102006 ?_));all_goals(try conv=>whnf);try exact trivial
  refine a0b (sameIntsO o2 ho2) rfl ?_
  rintro _ rfl
  (repeat' ((conv=>whnf);first|(with_reducible first|apply spl|apply spl'|refine iJ ?_)<;>intro hc<;>try(exfalso;omega)|refine vcq ?_|refine dr 5070406121212111111111010102006 ?_));all_goals(try conv=>whnf);try exact trivial
  refine a0b works11 rfl ?_
  rintro _ rfl
  (repeat' ((conv=>whnf);first|(with_reducible first|apply spl|apply spl'|refine iJ ?_)<;>intro hc<;>try(exfalso;omega)|refine vcq ?_|refine dr 5070406121212111111111010102006 ?_));all_goals(try conv=>whnf);try exact trivial
  refine⟨_,rfl,?_⟩
  (repeat' ((conv=>whnf);first|(with_reducible first|apply spl|apply spl'|refine iJ ?_)<;>intro hc<;>try(exfalso;omega)|refine vcq ?_|refine dr 5070406121212111111111010102006 ?_));all_goals(try conv=>whnf);try exact trivial
end Go.Proofs
