/- Own work: texts of the proof of a law (WuX, WtE, WtF, WtG, WuW). No condition. -/
import Derived.Test.YtkgjhinmndcmjaaGreatPart22
namespace Go.Proofs
open Go Go.Sx
set_option maxRecDepth 100000
set_option maxHeartbeats 40000000
def exS:Sv:=⟨⟨3,[(1,2),(1,0),(3,0),(1,1)]⟩,exD,exQ.sk,0,[0,7,14]⟩
theorem exS_W:exS.W=[(0,0,1),(0,2,0),(1,1,3)]:=by decide +kernel
theorem exS_n:exS.n=3:=by decide +kernel
section
variable {W:List Ca.Wt}
instance (o:List Nat) (n:Nat):Decidable (Ca.okP W o n):=inferInstanceAs (Decidable (n∉o∧∀i,i<W.length→i∉o→_))
end
def crsD (ok:List Nat→Nat→Prop) [∀o n,Decidable (ok o n)] (N:Nat):Nat→List Nat→List (List Nat)
 |0,o=>[o]
 |m+1,o=>(List.range N).flatMap fun n=>if ok o n then crsD ok N m (o++[n]) else []
theorem crs_dec (ok:List Nat→Nat→Prop) [∀o n,Decidable (ok o n)] (N:Nat):∀(m:Nat) (o:List Nat),Ca.crs ok N m o=crsD ok N m o
 |0,_=>rfl
 |m+1,o=>by
  unfold Ca.crs crsD
  refine Ca.flatMap_same fun n _=>?_
  by_cases h:ok o n
  ·rw[if_pos h,if_pos h,crs_dec ok N m]
  ·rw[if_neg h,if_neg h]
theorem exS_all:Ca.allCrs exS.W=[[0,1,2],[1,0,2]]:=by
 unfold Ca.allCrs
 rw[crs_dec,exS_W]
 decide +kernel
theorem exS_best:exS.best=([0,1,2],150):=by
 unfold Sv.best Sv.c0
 rw[exS_all]
 decide +kernel
theorem exS_most:exS.most 60=([0,1,2],1):=by
 unfold Sv.most Sv.c0
 rw[exS_all]
 decide +kernel
theorem exS_sure:Sv.cntK (exS.endW true [0,1,2]) 100 3=2:=by decide +kernel
theorem exS_may:Sv.cntK (exS.endW false [0,1,2]) 100 3=3:=by decide +kernel
theorem exS_img2:∀b,b<3→Ca.medC exS.W exS.st.M [0,1,2] 2 b=[1,-1,0].getD b 0:=by
 rw[exS_W]
 decide +kernel
theorem exS_img3:∀b,b<3→Ca.medC exS.W exS.st.M [0,1,2] 3 b=[1,3,0].getD b 0:=by
 rw[exS_W]
 decide +kernel
theorem exS_sok:exS.SOk:=by
 refine⟨by decide +kernel,by decide +kernel,by decide +kernel,?_⟩
 refine⟨exD_ok,?_,?_,?_,?_,?_,?_,fun i hi=>?_⟩<;>(try unfold Qu.RqOk)<;>first|decide +kernel|exact absurd hi (by show ¬i+1<0;omega)
theorem exS_ok:exS.Ok:=⟨exD_ok,by refine⟨?_,?_,?_⟩<;>(try unfold Ca.Cache.OkO)<;>decide +kernel,exS_sok,by rw[exS_W];decide⟩
theorem exS_crs:Ca.IsCrs exS.W [0,1,2]:=by
 rw[exS_W]
 exact⟨rfl,by decide,by decide,by decide⟩
end Go.Proofs
namespace Go.Proofs
open Go Go.Sx
set_option maxRecDepth 100000
set_option maxHeartbeats 40000000
def iF (F:Nat→Int) (b:Nat):List V:=[.int .i64 (F b)]
theorem sameInts29 (a b:List Nat) (ha:a.length≤1000000) (_hb:b.length≤1000000):a0h Tryz.prog 15 false [.sl 1 a.length (a0e natC 0 a),.sl 1 b.length (a0e natC 0 b)] (·=.prop (a=b) inferInstance):=by
 refine a0a Tryz.E_ok Tryz.func15 rfl (by kernel_rfl) ?_
 (repeat' ((conv=>whnf);first|(with_reducible first|apply spl|apply spl'|refine iJ ?_)<;>intro hc<;>try(exfalso;omega)|refine vcq ?_|refine dr 9 ?_));all_goals(try conv=>whnf);try exact trivial
 ·refine⟨_,rfl,?_⟩
  (repeat' ((conv=>whnf);first|(with_reducible first|apply spl|apply spl'|refine iJ ?_)<;>intro hc<;>try(exfalso;omega)|refine vcq ?_|refine dr 9 ?_));all_goals(try conv=>whnf);try exact trivial
  exact⟨fun h=>hc (by rw[h]),trivial⟩
 ·have hl:a.length=b.length:=by omega
  refine⟨Nat,fun i=>i≤a.length∧∀j,j<i→a.getD j 0=b.getD j 0,fun i=>a.length-i,fun i=>[(5,.int .i64 (i:Nat))],fun _=>[],fun _=>[],0,⟨⟨by omega,fun j hj=>by omega⟩,none,?_⟩,?_⟩
  ·(repeat' ((conv=>whnf);first|(with_reducible first|apply spl|apply spl'|refine iJ ?_)<;>intro hc<;>try(exfalso;omega)|refine vcq ?_|refine dr 9 ?_));all_goals(try conv=>whnf);try exact trivial
  ·rintro i ⟨hi,hall⟩
   have hti:(i:Int).toNat=i:=Int.toNat_natCast i
   (repeat' ((conv=>whnf);first|(with_reducible first|apply spl|apply spl'|refine iJ ?_)<;>intro hc<;>try(exfalso;omega)|refine vcq ?_|refine dr 9 ?_));all_goals(try conv=>whnf);try exact trivial
   ·rw[hti] at hc
    refine⟨_,rfl,?_⟩
    (repeat' ((conv=>whnf);first|(with_reducible first|apply spl|apply spl'|refine iJ ?_)<;>intro hc<;>try(exfalso;omega)|refine vcq ?_|refine dr 9 ?_));all_goals(try conv=>whnf);try exact trivial
    exact⟨fun h=>hc (by rw[h]),trivial⟩
   ·rw[hti] at hc
    refine⟨i+1,⟨⟨by omega,fun j hj=>?_⟩,by dsimp only;omega⟩,none,?_⟩
    ·rcases Nat.lt_or_eq_of_le (show j≤i by omega) with g|rfl
     ·exact hall j g
     ·omega
    ·(repeat' ((conv=>whnf);first|(with_reducible first|apply spl|apply spl'|refine iJ ?_)<;>intro hc<;>try(exfalso;omega)|refine vcq ?_|refine dr 9 ?_));all_goals(try conv=>whnf);try exact trivial
   ·obtain rfl:i=a.length:=by omega
    refine⟨_,rfl,?_⟩
    (repeat' ((conv=>whnf);first|(with_reducible first|apply spl|apply spl'|refine iJ ?_)<;>intro hc<;>try(exfalso;omega)|refine vcq ?_|refine dr 9 ?_));all_goals(try conv=>whnf);try exact trivial
    refine⟨List.ext_getElem hl fun j h1 h2=>?_,trivial⟩
    have:=hall j h1
    rwa [a0r h1,a0r h2] at this
theorem sameInts30 (n m:Nat) (hn:n≤1000000) (_hm:m≤1000000) (F G:Nat→Int):a0h Tryz.prog 15 false [.sl 1 n (iF F),.sl 1 m (iF G)] (·=.prop (n=m∧∀b,b<n→F b=G b) (Classical.propDecidable _)):=by
 refine a0a Tryz.E_ok Tryz.func15 rfl (by kernel_rfl) ?_
 (repeat' ((conv=>whnf);first|(with_reducible first|apply spl|apply spl'|refine iJ ?_)<;>intro hc<;>try(exfalso;omega)|refine vcq ?_|refine dr 9 ?_));all_goals(try conv=>whnf);try exact trivial
 ·refine⟨_,rfl,?_⟩
  (repeat' ((conv=>whnf);first|(with_reducible first|apply spl|apply spl'|refine iJ ?_)<;>intro hc<;>try(exfalso;omega)|refine vcq ?_|refine dr 9 ?_));all_goals(try conv=>whnf);try exact trivial
 ·have hnl:n=m:=by omega
  refine⟨Nat,fun i=>i≤n∧∀b,b<i→F b=G b,fun i=>n-i,fun i=>[(5,.int .i64 (i:Nat))],fun _=>[],fun _=>[],0,⟨⟨by omega,fun b hb=>by omega⟩,none,?_⟩,?_⟩
  ·(repeat' ((conv=>whnf);first|(with_reducible first|apply spl|apply spl'|refine iJ ?_)<;>intro hc<;>try(exfalso;omega)|refine vcq ?_|refine dr 9 ?_));all_goals(try conv=>whnf);try exact trivial
  ·rintro i ⟨h1,h2⟩
   have hti:(i:Int).toNat=i:=Int.toNat_natCast i
   (repeat' ((conv=>whnf);first|(with_reducible first|apply spl|apply spl'|refine iJ ?_)<;>intro hc<;>try(exfalso;omega)|refine vcq ?_|refine dr 9 ?_));all_goals(try conv=>whnf);try exact trivial
   ·refine⟨_,rfl,?_⟩
    (repeat' ((conv=>whnf);first|(with_reducible first|apply spl|apply spl'|refine iJ ?_)<;>intro hc<;>try(exfalso;omega)|refine vcq ?_|refine dr 9 ?_));all_goals(try conv=>whnf);try exact trivial
    refine⟨fun h=>?_,trivial⟩
    rw[hti] at hc
    exact hc (h.2 i (by omega))
   ·rw[hti] at hc
    refine⟨i+1,⟨⟨by omega,fun b hb=>?_⟩,by dsimp only;omega⟩,none,?_⟩
    ·rcases Nat.lt_or_eq_of_le (show b≤i by omega) with h|rfl
     ·exact h2 b h
     ·exact Classical.not_not.1 hc
    ·(repeat' ((conv=>whnf);first|(with_reducible first|apply spl|apply spl'|refine iJ ?_)<;>intro hc<;>try(exfalso;omega)|refine vcq ?_|refine dr 9 ?_));all_goals(try conv=>whnf);try exact trivial
   ·refine⟨_,rfl,?_⟩
    (repeat' ((conv=>whnf);first|(with_reducible first|apply spl|apply spl'|refine iJ ?_)<;>intro hc<;>try(exfalso;omega)|refine vcq ?_|refine dr 9 ?_));all_goals(try conv=>whnf);try exact trivial
    exact⟨⟨hnl,fun b hb=>h2 b (by omega)⟩,trivial⟩
theorem copy43 (x:Ca.Cache) (hl:x.l.length≤1000000):a0h Tryz.prog 43 false [x.v] (·=x.v):=by
 refine a0a Tryz.E_ok Tryz.func43 rfl (by kernel_rfl) ?_
 (repeat' ((conv=>whnf);first|(with_reducible first|apply spl|apply spl'|refine iJ ?_)<;>intro hc<;>try(exfalso;omega)|refine vcq ?_|refine dr 2005 ?_));all_goals(try conv=>whnf);try exact trivial
 refine⟨_,rfl,?_⟩
 (repeat' ((conv=>whnf);first|(with_reducible first|apply spl|apply spl'|refine iJ ?_)<;>intro hc<;>try(exfalso;omega)|refine vcq ?_|refine dr 2005 ?_));all_goals(try conv=>whnf);try exact trivial
end Go.Proofs
namespace Go.Proofs
open Go Go.Sx
set_option maxRecDepth 100000
set_option maxHeartbeats 40000000
open Ca (Wt epW IsCrs RS)
def Sv.far (s:Sv):Prop:=(((s.d.far∨40<s.x.l.length)∨100<s.sk.length)∨40<s.sec.length)∨s.err=0∧4<s.W.length
theorem far10 (s:Sv) (hz:s.d.Z.length≤9223372036854775807) (hl:s.x.l.length≤9223372036854775807) (hsk:s.sk.length≤9223372036854775807) (hsec:s.sec.length≤9223372036854775807):a0h Tryz.prog 10 false [.agg s.c] (·=.prop s.far (Classical.propDecidable _)):=by
 have h1:=Far48 s.d hz
 have hzf:¬s.d.far→s.d.Z.length≤1000000:=fun h=>by
  rcases Nat.lt_or_ge 20 s.d.Z.length with g|g
  ·exact absurd (.inl (by omega)) h
  ·omega
 have h2:=fun h a b c=>rentries34 s (hzf h) a b c
 unfold Sv.c at h2 ⊢
 refine a0a Tryz.E_ok Tryz.func10 rfl (by kernel_rfl) ?_
 (repeat' ((conv=>whnf);first|(with_reducible first|apply spl|apply spl'|refine iJ ?_)<;>intro hc<;>try(exfalso;omega)|refine vcq ?_|fail));all_goals(try conv=>whnf);try exact trivial
 refine a0b h1 rfl ?_
 rintro _ rfl
 (repeat' ((conv=>whnf);first|(with_reducible first|apply spl|apply spl'|refine iJ ?_)<;>intro hc<;>try(exfalso;omega)|refine vcq ?_|fail));all_goals(try conv=>whnf);try exact trivial
 ·have hy:s.far:=.inl (by
   rcases hc with((h|h)|h)|h
   ·exact .inl (.inl (.inl h))
   ·exact .inl (.inl (.inr (by omega)))
   ·exact .inl (.inr (by omega))
   ·exact .inr (by omega))
  refine⟨_,rfl,?_⟩
  (repeat' ((conv=>whnf);first|(with_reducible first|apply spl|apply spl'|refine iJ ?_)<;>intro hc<;>try(exfalso;omega)|refine vcq ?_|fail));all_goals(try conv=>whnf);try exact trivial
 ·have hn:¬s.d.far∧s.x.l.length≤40∧s.sk.length≤100∧s.sec.length≤40:=
   ⟨fun h=>hc (.inl (.inl (.inl h))),Nat.le_of_not_lt fun h=>hc (.inl (.inl (.inr (by omega)))),Nat.le_of_not_lt fun h=>hc (.inl (.inr (by omega))),Nat.le_of_not_lt fun h=>hc (.inr (by omega))⟩
  refine a0b (h2 hn.1 (by omega) (by omega) (by omega)) rfl ?_
  have hno:¬(((s.d.far∨40<s.x.l.length)∨100<s.sk.length)∨40<s.sec.length):=by
   rintro(((h|h)|h)|h)
   ·exact hn.1 h
   ·omega
   ·omega
   ·omega
  rintro _ (⟨he,rfl⟩|⟨he,rfl⟩)
  ·(repeat' ((conv=>whnf);first|(with_reducible first|apply spl|apply spl'|refine iJ ?_)<;>intro hc<;>try(exfalso;omega)|refine vcq ?_|fail));all_goals(try conv=>whnf);try exact trivial
   refine⟨_,rfl,?_⟩
   (repeat' ((conv=>whnf);first|(with_reducible first|apply spl|apply spl'|refine iJ ?_)<;>intro hc<;>try(exfalso;omega)|refine vcq ?_|fail));all_goals(try conv=>whnf);try exact trivial
   refine⟨⟨fun h=>.inr ⟨he,by omega⟩,fun h=>?_⟩,trivial⟩
   rcases h with h|h
   ·exact absurd h hno
   ·exact⟨rfl,by omega⟩
  ·have hnf:¬s.far:=by
    rintro(h|h)
    ·exact hno h
    ·exact he h.1
   (repeat' ((conv=>whnf);first|(with_reducible first|apply spl|apply spl'|refine iJ ?_)<;>intro hc<;>try(exfalso;omega)|refine vcq ?_|fail));all_goals(try conv=>whnf);try exact trivial
   all_goals(first|exact absurd (by assumption) he|skip)
   refine⟨_,rfl,?_⟩
   (repeat' ((conv=>whnf);first|(with_reducible first|apply spl|apply spl'|refine iJ ?_)<;>intro hc<;>try(exfalso;omega)|refine vcq ?_|fail));all_goals(try conv=>whnf);try exact trivial
end Go.Proofs
namespace Go.Proofs
open Go Go.Sx
set_option maxRecDepth 100000
set_option maxHeartbeats 40000000
theorem Example42:a0h Tryz.prog 42 true [] (·=.agg exS.c):=by
 refine a0a Tryz.E_ok Tryz.func42 rfl (by kernel_rfl) ?_
 (repeat' ((conv=>whnf);first|(with_reducible first|apply spl|apply spl'|refine iJ ?_)<;>intro hc<;>try(exfalso;omega)|refine vcq ?_|fail));all_goals(try conv=>whnf);try exact trivial
 refine a0b Example50 rfl ?_
 rintro _ rfl
 (repeat' ((conv=>whnf);first|(with_reducible first|apply spl|apply spl'|refine iJ ?_)<;>intro hc<;>try(exfalso;omega)|refine vcq ?_|fail));all_goals(try conv=>whnf);try exact trivial
 refine a0b Example28 rfl ?_
 rintro _ rfl
 (repeat' ((conv=>whnf);first|(with_reducible first|apply spl|apply spl'|refine iJ ?_)<;>intro hc<;>try(exfalso;omega)|refine vcq ?_|fail));all_goals(try conv=>whnf);try exact trivial
 refine⟨_,rfl,?_⟩
 (repeat' ((conv=>whnf);first|(with_reducible first|apply spl|apply spl'|refine iJ ?_)<;>intro hc<;>try(exfalso;omega)|refine vcq ?_|fail));all_goals(try conv=>whnf);try exact trivial
 refine⟨fun i hi=>?_,.inl rfl,?_⟩
 ·have:i=0∨i=1∨i=2∨i=3:=by omega
  rcases this with rfl|rfl|rfl|rfl<;>rfl
 ·(repeat' ((conv=>whnf);first|(with_reducible first|apply spl|apply spl'|refine iJ ?_)<;>intro hc<;>try(exfalso;omega)|refine vcq ?_|fail));all_goals(try conv=>whnf);try exact trivial
  refine⟨fun i hi=>?_,.inl rfl,?_⟩
  ·have:i=0∨i=1∨i=2:=by omega
   rcases this with rfl|rfl|rfl<;>rfl
  ·(repeat' ((conv=>whnf);first|(with_reducible first|apply spl|apply spl'|refine iJ ?_)<;>intro hc<;>try(exfalso;omega)|refine vcq ?_|fail));all_goals(try conv=>whnf);try exact trivial
theorem exS_err:exS.err=0:=by
 unfold Sv.err
 rw[if_pos exS_ok.d,if_pos exS_ok.x,if_pos exS_ok.so,if_pos exS_ok.few]
theorem exS_cerr:exS.cerr [0,1,2]=0:=by
 have h:CrsI exS.W [0,1,2]:=IsCrs.crsI exS_crs
 unfold Sv.cerr
 rw[if_pos exS_err,if_pos h]
theorem bestX:a0h Tryz.prog 13 true [.agg exS.c] (·=.tup [.sl 1 3 (a0e natC 0 [0,1,2]),.int .i64 150,.int .i64 0]):=
 pureWk (best13 exS (by decide) (by decide) (by decide) (by decide)) fun r h=>by
  rcases h with⟨_,rfl⟩|⟨h,_⟩
  ·rw[exS_best]
   exact⟨_,rfl,fun _ _ _ h=>h⟩
  ·exact absurd exS_err h
theorem mostX:a0h Tryz.prog 18 true [.agg exS.c,.int .i64 60] (·=.tup [.sl 1 3 (a0e natC 0 [0,1,2]),.int .i64 1,.int .i64 0]):=
 pureWk (most18 exS (by decide) (by decide) (by decide) (by decide) 60) fun r h=>by
  rcases h with⟨_,_,rfl⟩|⟨_,h,_⟩|⟨h,_⟩
  ·rw[exS_most]
   exact⟨_,rfl,fun _ _ _ h=>h⟩
  ·exact absurd ⟨by decide,by decide⟩ h
  ·exact absurd exS_err h
theorem heldX:a0h Tryz.prog 16 true [.agg exS.c,.sl 1 3 (a0e intC 0 [0,1,2]),.int .i64 100] (·=.tup [.sl 1 3 (mdC (exS.img [0,1,2] 2)),.sl 1 3 (mdC (exS.img [0,1,2] 3)),.int .i64 0]):=
 pureWk (held16 exS (by decide) (by decide) (by decide) (by decide) [0,1,2] (by decide) 100) fun r h=>by
  rcases h with⟨_,_,rfl⟩|⟨_,h,_⟩|⟨h,_⟩
  ·have e1:([0,1,2]:List Int).map Int.toNat=[0,1,2]:=rfl
   have e2:exS.W.length=3:=by rw[exS_W];rfl
   rw[e1,e2,exS_sure,exS_may,exS_n]
   exact⟨_,rfl,fun _ _ _ h=>h⟩
  ·exact absurd ⟨by decide,by decide⟩ h
  ·exact absurd exS_cerr h
theorem three {f g:Nat→List V} (h0:f 0=g 0) (h1:f 1=g 1) (h2:f 2=g 2):∀i,i<3→f i=g i:=by
 intro i hi
 have:i=0∨i=1∨i=2:=by omega
 rcases this with rfl|rfl|rfl<;>assumption
theorem works11:a0h Tryz.prog 11 false [] (·=.prop True inferInstance):=by
 have hb:=bestX
 have hh:=heldX
 have hm:=mostX
 have hex:=Example42
 have hs0:=sameInts29 [0,1,2] [0,1,2] (by decide) (by decide)
 have hs1:=sameInts30 3 3 (by decide) (by decide) (exS.img [0,1,2] 2) (fun b=>[1,-1,0].getD b 0)
 have hs2:=sameInts30 3 3 (by decide) (by decide) (exS.img [0,1,2] 3) (fun b=>[1,3,0].getD b 0)
 unfold Sv.c at hb hh hm hex
 refine a0a Tryz.E_ok Tryz.func11 rfl (by kernel_rfl) ?_
 (repeat' ((conv=>whnf);first|(with_reducible first|apply spl|apply spl'|refine iJ ?_)<;>intro hc<;>try(exfalso;omega)|refine vcq ?_|fail));all_goals(try conv=>whnf);try exact trivial
 refine a0b hex rfl ?_
 rintro _ rfl
 (repeat' ((conv=>whnf);first|(with_reducible first|apply spl|apply spl'|refine iJ ?_)<;>intro hc<;>try(exfalso;omega)|refine vcq ?_|fail));all_goals(try conv=>whnf);try exact trivial
 refine a0b hb rfl ?_
 rintro _ rfl
 (repeat' ((conv=>whnf);first|(with_reducible first|apply spl|apply spl'|refine iJ ?_)<;>intro hc<;>try(exfalso;omega)|refine vcq ?_|fail));all_goals(try conv=>whnf);try exact trivial
 refine callee_frz (a0h.view hh ?_) rfl ?_ ?_
 ·(repeat' ((conv=>whnf);first|(with_reducible first|apply spl|apply spl'|refine iJ ?_)<;>intro hc<;>try(exfalso;omega)|refine vcq ?_|fail));all_goals(try conv=>whnf);try exact trivial
  refine⟨three rfl rfl rfl,?_⟩
  (repeat' ((conv=>whnf);first|(with_reducible first|apply spl|apply spl'|refine iJ ?_)<;>intro hc<;>try(exfalso;omega)|refine vcq ?_|fail));all_goals(try conv=>whnf);try exact trivial
 ·simp[a2g]
 rintro _ rfl
 (repeat' ((conv=>whnf);first|(with_reducible first|apply spl|apply spl'|refine iJ ?_)<;>intro hc<;>try(exfalso;omega)|refine vcq ?_|fail));all_goals(try conv=>whnf);try exact trivial
 refine a0b hm rfl ?_
 rintro _ rfl
 (repeat' ((conv=>whnf);first|(with_reducible first|apply spl|apply spl'|refine iJ ?_)<;>intro hc<;>try(exfalso;omega)|refine vcq ?_|fail));all_goals(try conv=>whnf);try exact trivial
 ·refine a2a hs0 ?_
  (repeat' ((conv=>whnf);first|(with_reducible first|apply spl|apply spl'|refine iJ ?_)<;>intro hc<;>try(exfalso;omega)|refine vcq ?_|fail));all_goals(try conv=>whnf);try exact trivial
  refine⟨three rfl rfl rfl,?_⟩
  (repeat' ((conv=>whnf);first|(with_reducible first|apply spl|apply spl'|refine iJ ?_)<;>intro hc<;>try(exfalso;omega)|refine vcq ?_|fail));all_goals(try conv=>whnf);try exact trivial
  rintro _ rfl
  (repeat' ((conv=>whnf);first|(with_reducible first|apply spl|apply spl'|refine iJ ?_)<;>intro hc<;>try(exfalso;omega)|refine vcq ?_|fail));all_goals(try conv=>whnf);try exact trivial
  ·refine a2a hs1 ?_
   (repeat' ((conv=>whnf);first|(with_reducible first|apply spl|apply spl'|refine iJ ?_)<;>intro hc<;>try(exfalso;omega)|refine vcq ?_|fail));all_goals(try conv=>whnf);try exact trivial
   refine⟨three rfl rfl rfl,?_⟩
   (repeat' ((conv=>whnf);first|(with_reducible first|apply spl|apply spl'|refine iJ ?_)<;>intro hc<;>try(exfalso;omega)|refine vcq ?_|fail));all_goals(try conv=>whnf);try exact trivial
   rintro _ rfl
   (repeat' ((conv=>whnf);first|(with_reducible first|apply spl|apply spl'|refine iJ ?_)<;>intro hc<;>try(exfalso;omega)|refine vcq ?_|fail));all_goals(try conv=>whnf);try exact trivial
   ·refine a2a hs2 ?_
    (repeat' ((conv=>whnf);first|(with_reducible first|apply spl|apply spl'|refine iJ ?_)<;>intro hc<;>try(exfalso;omega)|refine vcq ?_|fail));all_goals(try conv=>whnf);try exact trivial
    refine⟨three rfl rfl rfl,?_⟩
    (repeat' ((conv=>whnf);first|(with_reducible first|apply spl|apply spl'|refine iJ ?_)<;>intro hc<;>try(exfalso;omega)|refine vcq ?_|fail));all_goals(try conv=>whnf);try exact trivial
    rintro _ rfl
    (repeat' ((conv=>whnf);first|(with_reducible first|apply spl|apply spl'|refine iJ ?_)<;>intro hc<;>try(exfalso;omega)|refine vcq ?_|fail));all_goals(try conv=>whnf);try exact trivial
    ·refine a2a hs0 ?_
     (repeat' ((conv=>whnf);first|(with_reducible first|apply spl|apply spl'|refine iJ ?_)<;>intro hc<;>try(exfalso;omega)|refine vcq ?_|fail));all_goals(try conv=>whnf);try exact trivial
     refine⟨three rfl rfl rfl,?_⟩
     (repeat' ((conv=>whnf);first|(with_reducible first|apply spl|apply spl'|refine iJ ?_)<;>intro hc<;>try(exfalso;omega)|refine vcq ?_|fail));all_goals(try conv=>whnf);try exact trivial
     rintro _ rfl
     (repeat' ((conv=>whnf);first|(with_reducible first|apply spl|apply spl'|refine iJ ?_)<;>intro hc<;>try(exfalso;omega)|refine vcq ?_|fail));all_goals(try conv=>whnf);try exact trivial
     refine⟨_,rfl,?_⟩
     (repeat' ((conv=>whnf);first|(with_reducible first|apply spl|apply spl'|refine iJ ?_)<;>intro hc<;>try(exfalso;omega)|refine vcq ?_|fail));all_goals(try conv=>whnf);try exact trivial
     exact⟨⟨fun _=>trivial,fun _=>⟨rfl,rfl⟩⟩,trivial⟩
    ·exact absurd (And.intro rfl exS_img3) hc
   ·exact absurd (And.intro rfl exS_img2) hc
  ·exact absurd rfl hc
end Go.Proofs
