/- Own work: texts of the proof of a law (WuK, SzPn, WuL8). No condition. -/
import Derived.Test.YtkgjhinmndcmjaaGreatPart26
namespace Go.Proofs
open Go Go.Sx
set_option maxRecDepth 100000
set_option maxHeartbeats 40000000
theorem copy12 (s:Sv) (hz:s.d.Z.length≤1000000) (hl:s.x.l.length≤1000000) (hsk:s.sk.length≤1000000) (hsec:s.sec.length≤1000000):a0h Tryz.prog 12 true [.agg s.c] (·=.agg s.c):=by
 have h1:=copy43 s.x hl
 have h2:=Copy42 s.d hz
 unfold Ca.Cache.v at h1
 unfold Dk.v Dk.c at h2
 refine a0a Tryz.E_ok Tryz.func12 rfl (by kernel_rfl) ?_
 unfold Sv.c
 (repeat' ((conv=>whnf);first|(with_reducible first|apply spl|apply spl'|refine iJ ?_)<;>intro hc<;>try(exfalso;omega)|refine vcq ?_|refine dr 7 ?_));all_goals((try conv=>whnf);try exact trivial)
 refine a0c h1 rfl ?_
 (repeat' ((conv=>whnf);first|(with_reducible first|apply spl|apply spl'|refine iJ ?_)<;>intro hc<;>try(exfalso;omega)|refine vcq ?_|refine dr 7 ?_));all_goals((try conv=>whnf);try exact trivial)
 refine a0c h2 rfl ?_
 (repeat' ((conv=>whnf);first|(with_reducible first|apply spl|apply spl'|refine iJ ?_)<;>intro hc<;>try(exfalso;omega)|refine vcq ?_|refine dr 80807090507040603052006 ?_));all_goals((try conv=>whnf);try exact trivial)
 refine⟨_,rfl,?_⟩
 (repeat' ((conv=>whnf);first|(with_reducible first|apply spl|apply spl'|refine iJ ?_)<;>intro hc<;>try(exfalso;omega)|refine vcq ?_|refine dr 7 ?_));all_goals((try conv=>whnf);try exact trivial)
end Go.Proofs
namespace Go.Sx
open Go
variable {P:Program}
end Go.Sx
namespace Go.Proofs
open Go Go.Sx
set_option maxRecDepth 100000
set_option maxHeartbeats 40000000
theorem Sv.near {s:Sv} (h:¬s.far):s.d.Z.length≤1000000∧s.x.l.length≤40∧s.sk.length≤100∧s.sec.length≤40:=by
 refine⟨?_,Nat.le_of_not_lt fun g=>h (.inl (.inl (.inl (.inr g)))),Nat.le_of_not_lt fun g=>h (.inl (.inl (.inr g))),Nat.le_of_not_lt fun g=>h (.inl (.inr g))⟩
 rcases Nat.lt_or_ge 20 s.d.Z.length with g|g
 ·exact absurd (.inl (.inl (.inl (.inl (.inl (by omega)))))) h
 ·omega
theorem Sv.few4 {s:Sv} (h:¬s.far) (he:s.err=0):s.W.length≤4:=Nat.le_of_not_lt fun g=>h (.inr ⟨he,g⟩)
theorem sameSpansS (n:Nat) (f g:Nat→Int) (hn:n≤1000000):a0h Tryz.prog 36 false [.sl 2 n (fun k=>[.int .i64 (f k),.int .i64 (g k)]),.sl 2 n (fun k=>[.int .i64 (f k),.int .i64 (g k)])] (·=.kb true):=
 pureWk (sameSpans30 n n (fun k=>(f k,g k)) (fun k=>(f k,g k)) hn hn) fun _ e=>⟨_,rfl,fun I w v hd=>by subst e;simpa [Den] using hd⟩
theorem den_nil {I:Nat→Prop} {η:Eta} {w:World} {v:Value} {sz:Nat} {f:Nat→List V} (h:Den I η w (.lit (.slice none 0 0)) v):Den I η w (.sl sz 0 f) v:=.inl ⟨rfl,none,0,h⟩
theorem den_tup1 {I:Nat→Prop} {η:Eta} {w:World} {v:Value} {a b:V} {l:List V} (hab:∀v,Den I η w a v→Den I η w b v) (h:Den I η w (.tup (a :: l)) v):Den I η w (.tup (b :: l)) v:=by
 obtain⟨vs,h1,x,r,h2,h3,h4⟩:=h
 exact⟨vs,h1,x,r,h2,hab _ h3,h4⟩
theorem entB (s:Sv) (hz:s.d.Z.length≤1000000) (hl:s.x.l.length≤1000000) (hsk:s.sk.length≤1000000) (hsec:s.sec.length≤1000000):∃U:List Ca.Wt,(s.err=0→U=s.W)∧(s.err≠0→U=[])∧a0h Tryz.prog 24 true [.agg s.c] (·=.tup [.sl 3 U.length (a0f wtC wt0 U),.int .i64 s.err])∧a0h Tryz.prog 34 true [.agg s.c] (·=.tup [.sl 3 U.length (a0f wtC wt0 U),.int .i64 s.err]):=by
 by_cases he:s.err=0
 ·refine⟨s.W,fun _=>rfl,fun h=>absurd he h,pureWk (entriesS s hz hl hsk hsec) fun r h=>?_,pureWk (rentries34 s hz hl hsk hsec) fun r h=>?_⟩
  all_goals
   rcases h with⟨_,rfl⟩|⟨h,_⟩
   ·rw[he]
    exact⟨_,rfl,fun _ _ _ h=>h⟩
   ·exact absurd he h
 ·refine⟨[],fun h=>absurd h he,fun _=>rfl,pureWk (entriesS s hz hl hsk hsec) fun r h=>?_,pureWk (rentries34 s hz hl hsk hsec) fun r h=>?_⟩
  all_goals
   rcases h with⟨h,_⟩|⟨_,rfl⟩
   ·exact absurd h he
   ·exact⟨_,rfl,fun I w v h=>den_tup1 (fun _=>den_nil) h⟩
theorem endsB (s:Sv) (hz:s.d.Z.length≤1000000) (hl:s.x.l.length≤1000000) (hsk:s.sk.length≤1000000) (hsec:s.sec.length≤1000000) (l:List Int) (hll:l.length≤1000000):∃(n:Nat) (f g:Nat→Int),n≤l.length∧a0h Tryz.prog 22 true [.agg s.c,.sl 1 l.length (a0f intC 0 l)] (·=.tup [.sl 2 n (fun k=>[.int .i64 (f k),.int .i64 (g k)]),.int .i64 (s.cerr l)])∧a0h Tryz.prog 35 true [.agg s.c,.sl 1 l.length (a0f intC 0 l)] (·=.tup [.sl 2 n (fun k=>[.int .i64 (f k),.int .i64 (g k)]),.int .i64 (s.cerr l)]):=by
 by_cases he:s.cerr l=0
 ·refine⟨l.length,s.endW false (l.map Int.toNat),s.endW true (l.map Int.toNat),Nat.le_refl _,pureWk (endsS s hz hl hsk hsec l hll) fun r h=>?_,pureWk (rends35 s hz hl hsk hsec l hll) fun r h=>?_⟩
  all_goals
   rcases h with⟨_,rfl⟩|⟨h,_⟩
   ·rw[he]
    exact⟨_,rfl,fun _ _ _ h=>h⟩
   ·exact absurd he h
 ·refine⟨0,fun _=>0,fun _=>0,Nat.zero_le _,pureWk (endsS s hz hl hsk hsec l hll) fun r h=>?_,pureWk (rends35 s hz hl hsk hsec l hll) fun r h=>?_⟩
  all_goals
   rcases h with⟨h,_⟩|⟨_,rfl⟩
   ·exact absurd h he
   ·exact⟨_,rfl,fun I w v h=>den_tup1 (fun _=>den_nil) h⟩
theorem ServeEnds8 (s:Sv) (hz:s.d.Z.length≤9223372036854775807) (hl:s.x.l.length≤9223372036854775807) (hsk:s.sk.length≤9223372036854775807) (hsec:s.sec.length≤9223372036854775807) (l:List Int) (hll:l.length≤9223372036854775807):a0h Tryz.prog 8 false [.agg s.c,.sl 1 l.length (a0f intC 0 l)] (·=.prop True inferInstance):=by
 have hf:=far10 s hz hl hsk hsec
 have hcp:=fun a b c d=>copy12 s a b c d
 have hck:=fun a b c d=>checkS s a b c d
 have hrc:=fun a b c d=>rcheck33 s a b c d
 unfold Sv.c at *
 refine a0a Tryz.E_ok Tryz.func8 rfl (by kernel_rfl) ?_
 (repeat' ((conv=>whnf);first|(with_reducible first|apply spl|apply spl'|refine iJ ?_)<;>intro hc<;>try(exfalso;omega)|refine vcq ?_|refine dr 80807072003 ?_|refine dr 5 ?_|refine dr 9 ?_));all_goals((try conv=>whnf);try exact trivial)
 refine a0b hf rfl ?_
 rintro _ rfl
 (repeat' ((conv=>whnf);first|(with_reducible first|apply spl|apply spl'|refine iJ ?_)<;>intro hc<;>try(exfalso;omega)|refine vcq ?_|refine dr 80807072003 ?_|refine dr 5 ?_|refine dr 9 ?_));all_goals((try conv=>whnf);try exact trivial)
 ·refine a0b works11 rfl ?_
  rintro _ rfl
  (repeat' ((conv=>whnf);first|(with_reducible first|apply spl|apply spl'|refine iJ ?_)<;>intro hc<;>try(exfalso;omega)|refine vcq ?_|refine dr 80807072003 ?_|refine dr 5 ?_|refine dr 9 ?_));all_goals((try conv=>whnf);try exact trivial)
  refine⟨_,rfl,?_⟩
  (repeat' ((conv=>whnf);first|(with_reducible first|apply spl|apply spl'|refine iJ ?_)<;>intro hc<;>try(exfalso;omega)|refine vcq ?_|refine dr 80807072003 ?_|refine dr 5 ?_|refine dr 9 ?_));all_goals((try conv=>whnf);try exact trivial)
 ·have hnf:¬s.far:=fun g=>hc (.inl g)
  have hll2:l.length≤20:=Nat.le_of_not_lt fun g=>hc (.inr (by omega))
  obtain⟨n1,n2,n3,n4⟩:=Sv.near hnf
  clear hc
  refine a0b (hcp n1 (by omega) (by omega) (by omega)) rfl ?_
  rintro _ rfl
  (repeat' ((conv=>whnf);first|(with_reducible first|apply spl|apply spl'|refine iJ ?_)<;>intro hc<;>try(exfalso;omega)|refine vcq ?_|refine dr 80807072003 ?_|refine dr 5 ?_|refine dr 9 ?_));all_goals((try conv=>whnf);try exact trivial)
  refine a0c (hck n1 (by omega) (by omega) (by omega)) rfl ?_
  (repeat' ((conv=>whnf);first|(with_reducible first|apply spl|apply spl'|refine iJ ?_)<;>intro hc<;>try(exfalso;omega)|refine vcq ?_|refine dr 80807072003 ?_|refine dr 5 ?_|refine dr 9 ?_));all_goals((try conv=>whnf);try exact trivial)
  refine a0c (hrc n1 (by omega) (by omega) (by omega)) rfl ?_
  (repeat' ((conv=>whnf);first|(with_reducible first|apply spl|apply spl'|refine iJ ?_)<;>intro hc<;>try(exfalso;omega)|refine vcq ?_|refine dr 80807072003 ?_|refine dr 5 ?_|refine dr 9 ?_));all_goals((try conv=>whnf);try exact trivial)
  obtain⟨U,hU1,hU2,hB1,hB2⟩:=entB s n1 (by omega) (by omega) (by omega)
  obtain⟨n,f,g,hnl,hE1,hE2⟩:=endsB s n1 (by omega) (by omega) (by omega) l (by omega)
  have hU4:U.length≤4:=by
   by_cases he:s.err=0
   ·rw[hU1 he];exact Sv.few4 hnf he
   ·rw[hU2 he];exact Nat.zero_le 4
  clear hU1 hU2
  unfold Sv.c at hB1 hB2 hE1 hE2
  refine a0b hB1 rfl ?_
  rintro _ rfl
  (repeat' ((conv=>whnf);first|(with_reducible first|apply spl|apply spl'|refine iJ ?_)<;>intro hc<;>try(exfalso;omega)|refine vcq ?_|refine dr 80807072003 ?_|refine dr 5 ?_|refine dr 9 ?_));all_goals((try conv=>whnf);try exact trivial)
  refine a0b hB2 rfl ?_
  rintro _ rfl
  (repeat' ((conv=>whnf);first|(with_reducible first|apply spl|apply spl'|refine iJ ?_)<;>intro hc<;>try(exfalso;omega)|refine vcq ?_|refine dr 80807072003 ?_|refine dr 5 ?_|refine dr 9 ?_));all_goals((try conv=>whnf);try exact trivial)
  refine⟨Nat,fun i=>i≤U.length,fun i=>U.length-i,fun i=>[(10,.int .i64 (i:Nat))],fun _=>[],fun _=>[],0,⟨by omega,none,?_⟩,?_⟩
  ·(repeat' ((conv=>whnf);first|(with_reducible first|apply spl|apply spl'|refine iJ ?_)<;>intro hc<;>try(exfalso;omega)|refine vcq ?_|refine dr 80807072003 ?_|refine dr 5 ?_|refine dr 9 ?_));all_goals((try conv=>whnf);try exact trivial)
  ·intro i hi
   have hi:i≤U.length:=hi
   have hti:(i:Int).toNat=i:=Int.toNat_natCast i
   (repeat' ((conv=>whnf);first|(with_reducible first|apply spl|apply spl'|refine iJ ?_)<;>intro hc<;>try(exfalso;omega)|refine vcq ?_|refine dr 80807072003 ?_|refine dr 5 ?_|refine dr 9 ?_));all_goals((try conv=>whnf);try exact trivial)
   ·refine⟨i+1,⟨by omega,by dsimp only;omega⟩,none,?_⟩
    (repeat' ((conv=>whnf);first|(with_reducible first|apply spl|apply spl'|refine iJ ?_)<;>intro hc<;>try(exfalso;omega)|refine vcq ?_|refine dr 80807072003 ?_|refine dr 5 ?_|refine dr 9 ?_));all_goals((try conv=>whnf);try exact trivial)
   ·refine callee_frz (a0h.view hE1 ?_) rfl ?_ ?_
    ·(repeat' ((conv=>whnf);first|(with_reducible first|apply spl|apply spl'|refine iJ ?_)<;>intro hc<;>try(exfalso;omega)|refine vcq ?_|refine dr 80807072003 ?_|refine dr 5 ?_|refine dr 9 ?_));all_goals((try conv=>whnf);try exact trivial)
    ·simp[a2e]
    ·rintro _ rfl
     (repeat' ((conv=>whnf);first|(with_reducible first|apply spl|apply spl'|refine iJ ?_)<;>intro hc<;>try(exfalso;omega)|refine vcq ?_|refine dr 80807072003 ?_|refine dr 5 ?_|refine dr 9 ?_));all_goals((try conv=>whnf);try exact trivial)
     refine a0b hE2 rfl ?_
     rintro _ rfl
     (repeat' ((conv=>whnf);first|(with_reducible first|apply spl|apply spl'|refine iJ ?_)<;>intro hc<;>try(exfalso;omega)|refine vcq ?_|refine dr 80807072003 ?_|refine dr 5 ?_|refine dr 9 ?_));all_goals((try conv=>whnf);try exact trivial)
     refine a0b (sameSpansS n f g (by omega)) rfl ?_
     rintro _ rfl
     (repeat' ((conv=>whnf);first|(with_reducible first|apply spl|apply spl'|refine iJ ?_)<;>intro hc<;>try(exfalso;omega)|refine vcq ?_|refine dr 80807072003 ?_|refine dr 5 ?_|refine dr 9 ?_));all_goals((try conv=>whnf);try exact trivial)
     refine a0b works11 rfl ?_
     rintro _ rfl
     (repeat' ((conv=>whnf);first|(with_reducible first|apply spl|apply spl'|refine iJ ?_)<;>intro hc<;>try(exfalso;omega)|refine vcq ?_|refine dr 80807072003 ?_|refine dr 5 ?_|refine dr 9 ?_));all_goals((try conv=>whnf);try exact trivial)
     refine⟨_,rfl,?_⟩
     (repeat' ((conv=>whnf);first|(with_reducible first|apply spl|apply spl'|refine iJ ?_)<;>intro hc<;>try(exfalso;omega)|refine vcq ?_|refine dr 80807072003 ?_|refine dr 5 ?_|refine dr 9 ?_));all_goals((try conv=>whnf);try exact trivial)
end Go.Proofs
