/- Own work: texts of the proof of a law (WuX, WtE, WtF, WtG, WuW, WuK, SzPn, WuL8, WuP, WuL9). No condition. -/
import Derived.Test.YtkgjhinmndcmjaaGreatPart15
import Derived.Test.YtkgjhinmndcmjaaGreatPart30
import Derived.Test.YtkgjhinmndcmjaaGreatPart35
import Derived.Test.YtkgjhinmndcmjaaGreatPart29
import Derived.Test.YtkgjhinmndcmjaaGreatPart37
import Derived.Test.YtkgjhinmndcmjaaGreatPart38
import Derived.Test.YtkgjhinmndcmjaaGreatPart13
import Derived.Test.YtkgjhinmndcmjaaGreatPart18
import Derived.Test.YtkgjhinmndcmjaaGreatPart19
import Derived.Test.YtkgjhinmndcmjaaGreatPart24
import Derived.Test.YtkgjhinmndcmjaaGreatPart32
import Derived.Test.YtkgjhinmndcmjaaGreatPart0
set_option linter.unusedVariables false
set_option linter.unusedSimpArgs false
namespace Go.Proofs
open Go Go.Sx
set_option maxRecDepth 100000
set_option maxHeartbeats 40000000
def exS:Sv:=⟨⟨3,[(1,2),(1,0),(3,0),(1,1)]⟩,exD,exQ.sk,0,[0,7,14]⟩
theorem exS_W:exS.W=[(0,0,1),(0,2,0),(1,1,3)]:=by decide +kernel
theorem exS_n:exS.n=3:=by decide +kernel
section
variable {W:List Ca.Wt}
instance (o:List Nat) (n:Nat):Decidable (Ca.okP W o n):=inferInstanceAs (Decidable (n∉o∧∀i,i<W.length→i∉o→_))
end
def crsD (ok:List Nat→Nat→Prop) [∀o n,Decidable (ok o n)] (N:Nat):Nat→List Nat→List (List Nat)
 |0,o=>[o]
 |m+1,o=>(List.range N).flatMap fun n=>if ok o n then crsD ok N m (o++[n]) else []
theorem crs_dec (ok:List Nat→Nat→Prop) [∀o n,Decidable (ok o n)] (N:Nat):∀(m:Nat) (o:List Nat),Ca.crs ok N m o=crsD ok N m o
 |0,_=>rfl
 |m+1,o=>by
  unfold Ca.crs crsD
  refine Ca.flatMap_same fun n _=>?_
  by_cases h:ok o n
  ·rw[if_pos h,if_pos h,crs_dec ok N m]
  ·rw[if_neg h,if_neg h]
theorem exS_all:Ca.allCrs exS.W=[[0,1,2],[1,0,2]]:=by
 unfold Ca.allCrs
 rw[crs_dec,exS_W]
 decide +kernel
theorem exS_best:exS.best=([0,1,2],150):=by
 unfold Sv.best Sv.c0
 rw[exS_all]
 decide +kernel
theorem exS_most:exS.most 60=([0,1,2],1):=by
 unfold Sv.most Sv.c0
 rw[exS_all]
 decide +kernel
theorem exS_sure:Sv.cntK (exS.endW true [0,1,2]) 100 3=2:=by decide +kernel
theorem exS_may:Sv.cntK (exS.endW false [0,1,2]) 100 3=3:=by decide +kernel
theorem exS_img2:∀b,b<3→Ca.medC exS.W exS.st.M [0,1,2] 2 b=[1,-1,0].getD b 0:=by
 rw[exS_W]
 decide +kernel
theorem exS_img3:∀b,b<3→Ca.medC exS.W exS.st.M [0,1,2] 3 b=[1,3,0].getD b 0:=by
 rw[exS_W]
 decide +kernel
theorem exS_sok:exS.SOk:=by
 refine⟨by decide +kernel,by decide +kernel,by decide +kernel,?_⟩
 refine⟨exD_ok,?_,?_,?_,?_,?_,?_,fun i hi=>?_⟩<;>(try unfold Qu.RqOk)<;>first|decide +kernel|exact absurd hi (by show ¬i+1<0;omega)
theorem exS_ok:exS.Ok:=⟨exD_ok,by refine⟨?_,?_,?_⟩<;>(try unfold Ca.Cache.OkO)<;>decide +kernel,exS_sok,by rw[exS_W];decide⟩
theorem exS_crs:Ca.IsCrs exS.W [0,1,2]:=by
 rw[exS_W]
 exact⟨rfl,by decide,by decide,by decide⟩
end Go.Proofs
namespace Go.Proofs
open Go Go.Sx
set_option maxRecDepth 100000
set_option maxHeartbeats 40000000
def iF (F:Nat→Int) (b:Nat):List V:=[.int .i64 (F b)]
theorem sameInts29 (a b:List Nat) (ha:a.length≤1000000) (_hb:b.length≤1000000):a0g Tryz.prog 15 false [.sl 1 a.length (a0e natC 0 a),.sl 1 b.length (a0e natC 0 b)] (·=.prop (a=b) inferInstance):=by
 refine a0a Tryz.E_ok Tryz.func15 rfl (by kernel_rfl) ?_
 refine x30 (fun hc=>?_) (fun hc=>?_)
 ·refine⟨_,rfl,?_⟩
  refine x2 ?_
  exact⟨fun h=>hc (by rw[h]),trivial⟩
 ·have hl:a.length=b.length:=by omega
  refine⟨Nat,fun i=>i≤a.length∧∀j,j<i→a.getD j 0=b.getD j 0,fun i=>a.length-i,fun i=>[(5,.int .i64 (i:Nat))],fun _=>[],fun _=>[],0,⟨⟨by omega,fun j hj=>by omega⟩,none,?_⟩,?_⟩
  ·exact xc4
  ·rintro i ⟨hi,hall⟩
   have hti:(i:Int).toNat=i:=a0E i
   refine x57 (fun hc hc=>?_) (fun hc hc=>?_) (fun hc=>?_)
   ·rw[hti] at hc
    refine⟨_,rfl,?_⟩
    refine x2 ?_
    exact⟨fun h=>hc (by rw[h]),trivial⟩
   ·rw[hti] at hc
    refine⟨i+1,⟨⟨by omega,fun j hj=>?_⟩,by dsimp only;omega⟩,none,?_⟩
    ·rcases a0I (show j≤i by omega) with g|rfl
     ·exact hall j g
     ·omega
    ·exact xc4
   ·obtain rfl:i=a.length:=by omega
    refine⟨_,rfl,?_⟩
    refine x2 ?_
    refine⟨a2L hl fun j h1 h2=>?_,trivial⟩
    have:=hall j h1
    rwa [a1a h1,a1a h2] at this
theorem sameInts30 (n m:Nat) (hn:n≤1000000) (_hm:m≤1000000) (F G:Nat→Int):a0g Tryz.prog 15 false [.sl 1 n (iF F),.sl 1 m (iF G)] (·=.prop (n=m∧∀b,b<n→F b=G b) (Classical.propDecidable _)):=by
 refine a0a Tryz.E_ok Tryz.func15 rfl (by kernel_rfl) ?_
 refine x30 (fun hc=>?_) (fun hc=>?_)
 ·refine⟨_,rfl,?_⟩
  exact xc4
 ·have hnl:n=m:=by omega
  refine⟨Nat,fun i=>i≤n∧∀b,b<i→F b=G b,fun i=>n-i,fun i=>[(5,.int .i64 (i:Nat))],fun _=>[],fun _=>[],0,⟨⟨by omega,fun b hb=>by omega⟩,none,?_⟩,?_⟩
  ·exact xc4
  ·rintro i ⟨h1,h2⟩
   have hti:(i:Int).toNat=i:=a0E i
   refine x57 (fun hc hc=>?_) (fun hc hc=>?_) (fun hc=>?_)
   ·refine⟨_,rfl,?_⟩
    refine x2 ?_
    refine⟨fun h=>?_,trivial⟩
    rw[hti] at hc
    exact hc (h.2 i (by omega))
   ·rw[hti] at hc
    refine⟨i+1,⟨⟨by omega,fun b hb=>?_⟩,by dsimp only;omega⟩,none,?_⟩
    ·rcases a0I (show b≤i by omega) with h|rfl
     ·exact h2 b h
     ·exact a0O.1 hc
    ·exact xc4
   ·refine⟨_,rfl,?_⟩
    refine x2 ?_
    exact⟨⟨hnl,fun b hb=>h2 b (by omega)⟩,trivial⟩
end Go.Proofs
namespace Go.Proofs
open Go Go.Sx
set_option maxRecDepth 100000
set_option maxHeartbeats 40000000
open Ca (Wt epW IsCrs RS)
def Sv.far (s:Sv):Prop:=(((s.d.far∨40<s.x.l.length)∨100<s.sk.length)∨40<s.sec.length)∨s.err=0∧4<s.W.length
theorem far10 (s:Sv) (hz:s.d.Z.length≤9223372036854775807) (hl:s.x.l.length≤9223372036854775807) (hsk:s.sk.length≤9223372036854775807) (hsec:s.sec.length≤9223372036854775807):a0g Tryz.prog 10 false [.agg s.c] (·=.prop s.far (Classical.propDecidable _)):=by
 have h1:=Far48 s.d hz
 have hzf:¬s.d.far→s.d.Z.length≤1000000:=fun h=>by
  rcases a1N 20 s.d.Z.length with g|g
  ·exact absurd (.inl (by omega)) h
  ·omega
 have h2:=fun h a b c=>rentries34 s (hzf h) a b c
 unfold Sv.c at h2 ⊢
 refine a0a Tryz.E_ok Tryz.func10 rfl (by kernel_rfl) ?_
 refine x1 ?_
 refine a0b h1 rfl ?_
 rintro _ rfl
 refine x3 (fun hc=>?_) (fun hc=>?_)
 ·have hy:s.far:=.inl (by
   rcases hc with((h|h)|h)|h
   ·exact .inl (.inl (.inl h))
   ·exact .inl (.inl (.inr (by omega)))
   ·exact .inl (.inr (by omega))
   ·exact .inr (by omega))
  refine⟨_,rfl,?_⟩
  exact xc0
 ·have hn:¬s.d.far∧s.x.l.length≤40∧s.sk.length≤100∧s.sec.length≤40:=
   ⟨fun h=>hc (.inl (.inl (.inl h))),a2U fun h=>hc (.inl (.inl (.inr (by omega)))),a2U fun h=>hc (.inl (.inr (by omega))),a2U fun h=>hc (.inr (by omega))⟩
  refine a0b (h2 hn.1 (by omega) (by omega) (by omega)) rfl ?_
  have hno:¬(((s.d.far∨40<s.x.l.length)∨100<s.sk.length)∨40<s.sec.length):=by
   rintro(((h|h)|h)|h)
   ·exact hn.1 h
   ·omega
   ·omega
   ·omega
  rintro _ (⟨he,rfl⟩|⟨he,rfl⟩)
  ·refine x1 ?_
   refine⟨_,rfl,?_⟩
   refine x1 ?_
   refine⟨⟨fun h=>.inr ⟨he,by omega⟩,fun h=>?_⟩,trivial⟩
   rcases h with h|h
   ·exact absurd h hno
   ·exact⟨rfl,by omega⟩
  ·have hnf:¬s.far:=by
    rintro(h|h)
    ·exact hno h
    ·exact he h.1
   refine x1 (fun hc=>?_)
   all_goals(first|exact absurd (by assumption) he|skip)
   refine⟨_,rfl,?_⟩
   exact xc0
end Go.Proofs
namespace Go.Proofs
open Go Go.Sx
set_option maxRecDepth 100000
set_option maxHeartbeats 40000000
theorem Example42:a0g Tryz.prog 42 true [] (·=.agg exS.c):=by
 refine a0a Tryz.E_ok Tryz.func42 rfl (by kernel_rfl) ?_
 refine x1 ?_
 refine a0b Example50 rfl ?_
 rintro _ rfl
 refine x1 ?_
 refine a0b Example28 rfl ?_
 rintro _ rfl
 refine x1 ?_
 refine⟨_,rfl,?_⟩
 refine x1 ?_
 refine⟨fun i hi=>?_,.inl rfl,?_⟩
 ·have:i=0∨i=1∨i=2∨i=3:=by omega
  rcases this with rfl|rfl|rfl|rfl<;>rfl
 ·refine x1 ?_
  refine⟨fun i hi=>?_,.inl rfl,?_⟩
  ·have:i=0∨i=1∨i=2:=by omega
   rcases this with rfl|rfl|rfl<;>rfl
  ·exact xc0
theorem exS_err:exS.err=0:=by
 unfold Sv.err
 rw[if_pos exS_ok.d,if_pos exS_ok.x,if_pos exS_ok.so,if_pos exS_ok.few]
theorem exS_cerr:exS.cerr [0,1,2]=0:=by
 have h:CrsI exS.W [0,1,2]:=IsCrs.crsI exS_crs
 unfold Sv.cerr
 rw[if_pos exS_err,if_pos h]
theorem bestX:a0g Tryz.prog 13 true [.agg exS.c] (·=.tup [.sl 1 3 (a0e natC 0 [0,1,2]),.int .i64 150,.int .i64 0]):=
 pureWk (best13 exS (by decide) (by decide) (by decide) (by decide)) fun r h=>by
  rcases h with⟨_,rfl⟩|⟨h,_⟩
  ·rw[exS_best]
   exact⟨_,rfl,fun _ _ _ h=>h⟩
  ·exact absurd exS_err h
theorem mostX:a0g Tryz.prog 18 true [.agg exS.c,.int .i64 60] (·=.tup [.sl 1 3 (a0e natC 0 [0,1,2]),.int .i64 1,.int .i64 0]):=
 pureWk (most18 exS (by decide) (by decide) (by decide) (by decide) 60) fun r h=>by
  rcases h with⟨_,_,rfl⟩|⟨_,h,_⟩|⟨h,_⟩
  ·rw[exS_most]
   exact⟨_,rfl,fun _ _ _ h=>h⟩
  ·exact absurd ⟨by decide,by decide⟩ h
  ·exact absurd exS_err h
theorem heldX:a0g Tryz.prog 16 true [.agg exS.c,.sl 1 3 (a0e intC 0 [0,1,2]),.int .i64 100] (·=.tup [.sl 1 3 (mdC (exS.img [0,1,2] 2)),.sl 1 3 (mdC (exS.img [0,1,2] 3)),.int .i64 0]):=
 pureWk (held16 exS (by decide) (by decide) (by decide) (by decide) [0,1,2] (by decide) 100) fun r h=>by
  rcases h with⟨_,_,rfl⟩|⟨_,h,_⟩|⟨h,_⟩
  ·have e1:([0,1,2]:List Int).map Int.toNat=[0,1,2]:=rfl
   have e2:exS.W.length=3:=by rw[exS_W];rfl
   rw[e1,e2,exS_sure,exS_may,exS_n]
   exact⟨_,rfl,fun _ _ _ h=>h⟩
  ·exact absurd ⟨by decide,by decide⟩ h
  ·exact absurd exS_cerr h
theorem three {f g:Nat→List V} (h0:f 0=g 0) (h1:f 1=g 1) (h2:f 2=g 2):∀i,i<3→f i=g i:=by
 intro i hi
 have:i=0∨i=1∨i=2:=by omega
 rcases this with rfl|rfl|rfl<;>assumption
theorem works11:a0g Tryz.prog 11 false [] (·=.prop True inferInstance):=by
 have hb:=bestX
 have hh:=heldX
 have hm:=mostX
 have hex:=Example42
 have hs0:=sameInts29 [0,1,2] [0,1,2] (by decide) (by decide)
 have hs1:=sameInts30 3 3 (by decide) (by decide) (exS.img [0,1,2] 2) (fun b=>[1,-1,0].getD b 0)
 have hs2:=sameInts30 3 3 (by decide) (by decide) (exS.img [0,1,2] 3) (fun b=>[1,3,0].getD b 0)
 unfold Sv.c at hb hh hm hex
 refine a0a Tryz.E_ok Tryz.func11 rfl (by kernel_rfl) ?_
 refine x1 ?_
 refine a0b hex rfl ?_
 rintro _ rfl
 refine x1 ?_
 refine a0b hb rfl ?_
 rintro _ rfl
 refine x1 ?_
 refine callee_frz (a0g.view hh ?_) rfl ?_ ?_
 ·refine x1 ?_
  refine⟨three rfl rfl rfl,?_⟩
  exact xc0
 ·simp[a2n]
 rintro _ rfl
 refine x1 ?_
 refine a0b hm rfl ?_
 rintro _ rfl
 refine x1 (fun hc=>?_)
 ·refine a0u hs0 ?_
  refine x1 ?_
  refine⟨three rfl rfl rfl,?_⟩
  refine x1 ?_
  rintro _ rfl
  refine x3 (fun hc=>?_) (fun hc=>?_)
  ·refine a0u hs1 ?_
   refine x1 ?_
   refine⟨three rfl rfl rfl,?_⟩
   refine x1 ?_
   rintro _ rfl
   refine x3 (fun hc=>?_) (fun hc=>?_)
   ·refine a0u hs2 ?_
    refine x1 ?_
    refine⟨three rfl rfl rfl,?_⟩
    refine x1 ?_
    rintro _ rfl
    refine x3 (fun hc=>?_) (fun hc=>?_)
    ·refine a0u hs0 ?_
     refine x1 ?_
     refine⟨three rfl rfl rfl,?_⟩
     refine x1 ?_
     rintro _ rfl
     refine x1 ?_
     refine⟨_,rfl,?_⟩
     refine x1 ?_
     exact⟨⟨fun _=>trivial,fun _=>⟨rfl,rfl⟩⟩,trivial⟩
    ·exact absurd (And.intro rfl exS_img3) hc
   ·exact absurd (And.intro rfl exS_img2) hc
  ·exact absurd rfl hc
end Go.Proofs
namespace Go.Sx
open Go
variable {P:Program}
end Go.Sx
namespace Go.Proofs
open Go Go.Sx
set_option maxRecDepth 100000
set_option maxHeartbeats 40000000
theorem Sv.near {s:Sv} (h:¬s.far):s.d.Z.length≤1000000∧s.x.l.length≤40∧s.sk.length≤100∧s.sec.length≤40:=by
 refine⟨?_,a2U fun g=>h (.inl (.inl (.inl (.inr g)))),a2U fun g=>h (.inl (.inl (.inr g))),a2U fun g=>h (.inl (.inr g))⟩
 rcases a1N 20 s.d.Z.length with g|g
 ·exact absurd (.inl (.inl (.inl (.inl (.inl (by omega)))))) h
 ·omega
theorem Sv.few4 {s:Sv} (h:¬s.far) (he:s.err=0):s.W.length≤4:=a2U fun g=>h (.inr ⟨he,g⟩)
theorem den_nil {I:Nat→Prop} {η:Eta} {w:World} {v:Value} {sz:Nat} {f:Nat→List V} (h:Den I η w (.lit (.slice none 0 0)) v):Den I η w (.sl sz 0 f) v:=.inl ⟨rfl,none,0,h⟩
theorem den_tup1 {I:Nat→Prop} {η:Eta} {w:World} {v:Value} {a b:V} {l:List V} (hab:∀v,Den I η w a v→Den I η w b v) (h:Den I η w (.tup (a :: l)) v):Den I η w (.tup (b :: l)) v:=by
 obtain⟨vs,h1,x,r,h2,h3,h4⟩:=h
 exact⟨vs,h1,x,r,h2,hab _ h3,h4⟩
theorem entB (s:Sv) (hz:s.d.Z.length≤1000000) (hl:s.x.l.length≤1000000) (hsk:s.sk.length≤1000000) (hsec:s.sec.length≤1000000):∃U:List Ca.Wt,(s.err=0→U=s.W)∧(s.err≠0→U=[])∧a0g Tryz.prog 24 true [.agg s.c] (·=.tup [.sl 3 U.length (a0e wtC wt0 U),.int .i64 s.err])∧a0g Tryz.prog 34 true [.agg s.c] (·=.tup [.sl 3 U.length (a0e wtC wt0 U),.int .i64 s.err]):=by
 by_cases he:s.err=0
 ·refine⟨s.W,fun _=>rfl,fun h=>absurd he h,pureWk (entriesS s hz hl hsk hsec) fun r h=>?_,pureWk (rentries34 s hz hl hsk hsec) fun r h=>?_⟩
  all_goals
   rcases h with⟨_,rfl⟩|⟨h,_⟩
   ·rw[he]
    exact⟨_,rfl,fun _ _ _ h=>h⟩
   ·exact absurd he h
 ·refine⟨[],fun h=>absurd h he,fun _=>rfl,pureWk (entriesS s hz hl hsk hsec) fun r h=>?_,pureWk (rentries34 s hz hl hsk hsec) fun r h=>?_⟩
  all_goals
   rcases h with⟨h,_⟩|⟨_,rfl⟩
   ·exact absurd h he
   ·exact⟨_,rfl,fun I w v h=>den_tup1 (fun _=>den_nil) h⟩
end Go.Proofs
namespace Go.Proofs
open Go Go.Sx
set_option maxRecDepth 100000
set_option maxHeartbeats 40000000
open Ca (Wt epW IsCrs)
theorem rowNI (o:List Nat):a0e natC 0 o=a0e intC 0 (o.map Int.ofNat):=by
 funext i
 unfold a0e
 show [V.int .i64 ((o.getD i 0:Nat):Int)]=[V.int .i64 ((o.map Int.ofNat).getD i 0)]
 rw[a0A,a0A,a1O]
 cases o[i]?<;>rfl
theorem toNat_ofNat (o:List Nat):(o.map Int.ofNat).map Int.toNat=o:=by
 rw[List.map_map]
 simp[Function.comp_def]
def Sv.rdy (s:Sv) (l:List Int):Prop:=(¬s.far∧l.length≤20)∧s.cerr l=0
theorem Sv.cerr_nat {s:Sv} (he:s.err=0) {o:List Nat} (ho:IsCrs s.W o):s.cerr (o.map Int.ofNat)=0:=by
 have h:CrsI s.W (o.map Int.ofNat):=IsCrs.crsI ho
 unfold Sv.cerr
 rw[if_pos he,if_pos h]
section
variable {s:Sv} (hz:s.d.Z.length≤1000000) (hx:s.x.l.length≤1000000) (hsk:s.sk.length≤1000000) (hsec:s.sec.length≤1000000) (he:s.err=0)
include hz hx hsk hsec he
theorem okHeld {o:List Nat} (ho:IsCrs s.W o) (x:Int) (ht:0≤x∧x≤100000):a0g Tryz.prog 16 true [.agg s.c,.sl 1 o.length (a0e natC 0 o),.int .i64 x] (·=.tup [.sl 1 s.n (mdC (s.img o (Sv.cntK (s.endW true o) x s.W.length))),.sl 1 s.n (mdC (s.img o (Sv.cntK (s.endW false o) x s.W.length))),.int .i64 0]):=by
 have h:=held16 s hz hx hsk hsec (o.map Int.ofNat) (by rw[a1L,ho.len];have:=(Sv.err_ok he).few;omega) x
 rw[←rowNI,a1L] at h
 exact pureWk h fun r h=>by
  rcases h with⟨_,_,rfl⟩|⟨_,h,_⟩|⟨h,_⟩
  ·rw[toNat_ofNat]
   exact⟨_,rfl,fun _ _ _ h=>h⟩
  ·exact absurd ht h
  ·exact absurd (Sv.cerr_nat he ho) h
end
theorem ready20 (s:Sv) (hz:s.d.Z.length≤9223372036854775807) (hl:s.x.l.length≤9223372036854775807) (hsk:s.sk.length≤9223372036854775807) (hsec:s.sec.length≤9223372036854775807) (l:List Int) (hll:l.length≤9223372036854775807):a0g Tryz.prog 20 false [.agg s.c,.sl 1 l.length (a0e intC 0 l)] (·=.prop (s.rdy l) (Classical.propDecidable _)):=by
 have hf:=far10 s hz hl hsk hsec
 have hcc:¬s.far∧l.length≤20→a0g Tryz.prog 21 false [.agg s.c,.sl 1 l.length (a0e intC 0 l)] (·=.int .i64 (s.cerr l)):=fun h=>by
  obtain⟨n1,n2,n3,n4⟩:=Sv.near h.1
  exact checkCourse21 s n1 (by omega) (by omega) (by omega) l (by omega)
 unfold Sv.c at *
 refine a0a Tryz.E_ok Tryz.func20 rfl (by kernel_rfl) ?_
 refine x1 ?_
 refine a0b hf rfl ?_
 rintro _ rfl
 refine x3 (fun hc=>?_) (fun hc=>?_)
 ·have hc2:¬s.far∧l.length≤20:=⟨hc.1,by have:=hc.2;omega⟩
  refine a0b (hcc hc2) rfl ?_
  rintro _ rfl
  refine x1 ?_
  refine⟨_,rfl,?_⟩
  refine x1 ?_
  exact⟨⟨fun h=>⟨hc2,h⟩,fun h=>h.2⟩,trivial⟩
 ·refine⟨_,rfl,?_⟩
  refine x1 ?_
  exact⟨fun h=>hc ⟨h.1.1,by have:=h.1.2;omega⟩,trivial⟩
theorem Sv.rdy_ok {s:Sv} {l:List Int} (h:s.rdy l):(s.d.Z.length≤1000000∧s.x.l.length≤40∧s.sk.length≤100∧s.sec.length≤40)∧s.err=0∧s.Ok∧IsCrs s.W (l.map Int.toNat)∧l.length=s.W.length∧s.W.length≤4∧a0e intC 0 l=a0e natC 0 (l.map Int.toNat):=by
 obtain⟨⟨h1,h2⟩,h3⟩:=h
 obtain⟨he,hi⟩:=Sv.cerr_ok h3
 have hcr:=hi.crs
 exact⟨Sv.near h1,he,Sv.err_ok he,hcr,by rw[←hcr.len,a1L],Sv.few4 h1 he,hi.1.row⟩
theorem readyT {s:Sv} (hz:s.d.Z.length≤9223372036854775807) (hl:s.x.l.length≤9223372036854775807) (hsk:s.sk.length≤9223372036854775807) (hsec:s.sec.length≤9223372036854775807) {l:List Int} (hll:l.length≤9223372036854775807) (h:s.rdy l):a0g Tryz.prog 20 false [.agg s.c,.sl 1 l.length (a0e intC 0 l)] (·=.kb true):=
 pureWk (ready20 s hz hl hsk hsec l hll) fun _ e=>⟨_,rfl,fun I w v hd=>by subst e;simpa [Den,h] using hd⟩
theorem readyF {s:Sv} (hz:s.d.Z.length≤9223372036854775807) (hl:s.x.l.length≤9223372036854775807) (hsk:s.sk.length≤9223372036854775807) (hsec:s.sec.length≤9223372036854775807) {l:List Int} (hll:l.length≤9223372036854775807) (h:¬s.rdy l):a0g Tryz.prog 20 false [.agg s.c,.sl 1 l.length (a0e intC 0 l)] (·=.kb false):=
 pureWk (ready20 s hz hl hsk hsec l hll) fun _ e=>⟨_,rfl,fun I w v hd=>by subst e;simpa [Den,h] using hd⟩
end Go.Proofs
namespace Go.Proofs
open Go Go.Sx
set_option maxRecDepth 100000
set_option maxHeartbeats 40000000
open Ca (Wt epW IsCrs)
theorem pureKb {P:Program} {g:FuncId} {keep:Bool} {args:List V} {p:Prop} {dp:Decidable p} (h:a0g P g keep args (·=.prop p dp)) (hp:p):a0g P g keep args (·=.kb true):=
 pureWk h fun _ e=>⟨_,rfl,fun I w v hd=>by subst e;simpa [Den,hp] using hd⟩
theorem possT {x:Ca.Cache} (hk:x.chk=0) (hx:x.Ok) {l:List Int} (hll:l.length≤1000000) (hi:Ca.IsImg x l) (hp:Ca.IsPos x l):a0g Tryz.prog 39 false [x.v,.sl 1 l.length (a0e Ca.intC 0 l)] (·=.tup [.kb true,.int .i64 0]):=
 pureWk (Ca.Possible21 x (by have:=hx.len;omega) (fun _=>hx) l hll) fun r h=>by
  cases h with
  |chk q=>exact absurd hk q
  |img _ q=>exact absurd hi q
  |pos _ _=>exact⟨_,rfl,fun I w v ⟨vs,e,h1⟩=>⟨vs,e,by
    obtain⟨v0,r0,e0,e1,e2⟩:=h1
    exact⟨v0,r0,e0,by simpa [Den,hp] using e1,e2⟩⟩⟩
theorem imgT {x:Ca.Cache} (hx:x.Ok) {l:List Int} (hll:l.length≤1000000) (hi:Ca.IsImg x l):a0g Tryz.prog 38 false [x.v,.sl 1 l.length (a0e Ca.intC 0 l)] (·=.kb true):=
 pureKb (Ca.IsImage33 x (by have:=hx.len;omega) l hll) hi
theorem ServeBarrier9 (s:Sv) (hz:s.d.Z.length≤9223372036854775807) (hl:s.x.l.length≤9223372036854775807) (hsk:s.sk.length≤9223372036854775807) (hsec:s.sec.length≤9223372036854775807) (l:List Int) (hll:l.length≤9223372036854775807) (x:Int):a0g Tryz.prog 9 false [.agg s.c,.agg [.sl 1 l.length (a0e intC 0 l),.int .i64 x]] (·=.prop True inferInstance):=by
 by_cases hr:s.rdy l
 ·have hrd:=readyT hz hl hsk hsec hll hr
  obtain⟨⟨n1,n2,n3,n4⟩,he,hs,hcr,hle,hW,hrow⟩:=Sv.rdy_ok hr
  have hx:=hs.x
  have hn:=Sv.nIx hx
  have hn6:=hx.n
  have hk:s.x.chk=0:=if_pos hx
  have hlm:(l.map Int.toNat).length=l.length:=a1L ..
  rw[hrow] at hrd ⊢
  have hH:=okHeld n1 (by omega) (by omega) (by omega) he hcr x
  rw[hlm] at hH
  have hA:=okHeld n1 (by omega) (by omega) (by omega) he hcr 100000 (by omega)
  rw[hlm] at hA
  rw[Sv.all_may hs false hcr] at hA
  have hN:=Ca.Newest34 s.x (by omega)
  rw[if_pos hk] at hN
  have h1:Sv.cntK (s.endW true (l.map Int.toNat)) x s.W.length≤s.W.length:=Sv.cntK_le _ _ _
  have h2:Sv.cntK (s.endW false (l.map Int.toNat)) x s.W.length≤s.W.length:=Sv.cntK_le _ _ _
  have h3:Sv.cntK (s.endW true (l.map Int.toNat)) x s.W.length≤Sv.cntK (s.endW false (l.map Int.toNat)) x s.W.length:=Sv.cntK_fun fun i hi=>Sv.endW_le hs hcr hi
  have hup:=Ca.medC_le (Ca.Asc.run (n:=s.n) (l:=s.x.l) (fun o ho=>by
   have:=hx.ord o ho
   unfold Ca.Cache.OkO at this
   omega) s.x.l.length (a0K _)) hcr h3 h2
  change ∀j,j<s.n→s.img (l.map Int.toNat) _ j≤s.img (l.map Int.toNat) _ j at hup
  have hnw:∀b,b<s.n→s.img (l.map Int.toNat) s.W.length b=Ca.newP s.x.l s.x.l.length b:=fun b hb=>Sv.im_new hx hcr hb
  have hS1:=imgT hx (by rw[Sv.imL_len];omega) (Sv.im_img hx hcr h1)
  have hS2:=possT hk hx (by rw[Sv.imL_len];omega) (Sv.im_img hx hcr h1) (Sv.im_pos hx hcr h1)
  have hS3:=kept40 s.x hx s.n hn (s.img (l.map Int.toNat) _) fun i hi h3 b0 hb0 hlt q hq b hb hp=>Sv.im_kept hx hcr h1 hi h3 hb0 hlt hq hb hp
  have hM1:=imgT hx (by rw[Sv.imL_len];omega) (Sv.im_img hx hcr h2)
  have hM2:=possT hk hx (by rw[Sv.imL_len];omega) (Sv.im_img hx hcr h2) (Sv.im_pos hx hcr h2)
  have hM3:=kept40 s.x hx s.n hn (s.img (l.map Int.toNat) _) fun i hi h3 b0 hb0 hlt q hq b hb hp=>Sv.im_kept hx hcr h2 hi h3 hb0 hlt hq hb hp
  have hsm:=pureKb (sameInts30 s.n s.n (by omega) (by omega) (s.img (l.map Int.toNat) s.W.length) (Ca.newP s.x.l s.x.l.length)) ⟨rfl,hnw⟩
  rw[Sv.imL_len] at hS1 hS2 hM1 hM2
  change a0g _ _ _ [_,.sl 1 _ (a0e Ca.intC 0 (s.imL (s.img (l.map Int.toNat) _)))] _ at hS1 hS2 hM1 hM2
  have hgL:∀F b,b<s.n→mdC F b=a0e Ca.intC 0 (s.imL F) b:=fun F b hb=>by
   show [V.int .i64 (F b)]=[V.int .i64 ((s.imL F).getD b 0)]
   rw[Sv.imL_get s F hb]
  clear h1 h2 h3 hnw hr he hcr hrow hW
  generalize l.map Int.toNat=o at *
  generalize s.img o (Sv.cntK (s.endW true o) x s.W.length)=S at *
  generalize s.img o (Sv.cntK (s.endW false o) x s.W.length)=M at *
  generalize s.img o s.W.length=A at *
  unfold Sv.c at *
  refine a0a Tryz.E_ok Tryz.func9 rfl (by kernel_rfl) ?_
  refine x2 ?_
  refine a0b hrd rfl ?_
  rintro _ rfl
  refine x30 (fun hc=>?_) (fun hc=>?_)
  ·refine a0b works11 rfl ?_
   rintro _ rfl
   refine x2 ?_
   refine⟨_,rfl,?_⟩
   exact xc4
  ·have hxt:0≤x∧x≤100000:=by omega
   clear hc
   refine a0b (hH hxt) rfl ?_
   rintro _ rfl
   refine x2 ?_
   refine a0b hA rfl ?_
   rintro _ rfl
   refine x2 ?_
   refine a0b hN rfl ?_
   rintro _ rfl
   refine x2 (fun hc=>?_)
   refine a0b hsm rfl ?_
   rintro _ rfl
   refine x2 ?_
   refine a0u hS1 ?_
   refine x2 ?_
   refine⟨fun i hi=>hgL _ i hi,?_⟩
   refine x2 ?_
   rintro _ rfl
   refine x2 ?_
   refine a0u hM1 ?_
   refine x2 ?_
   refine⟨fun i hi=>hgL _ i hi,?_⟩
   refine x2 ?_
   rintro _ rfl
   refine x2 ?_
   refine a0u hS2 ?_
   refine x2 ?_
   refine⟨fun i hi=>hgL _ i hi,?_⟩
   refine x2 ?_
   rintro _ rfl
   refine x2 ?_
   refine a0u hM2 ?_
   refine x2 ?_
   refine⟨fun i hi=>hgL _ i hi,?_⟩
   refine x2 ?_
   rintro _ rfl
   refine x2 (fun hc=>?_)
   refine⟨Nat,fun k=>k≤s.n,fun k=>s.n-k,fun k=>[(17,.int .i64 (k:Nat))]++anyS 116 15,fun _=>[],fun _=>[],0,⟨a1X _,none,?_⟩,?_⟩
   ·exact xc4
   ·intro k hk
    have hk:k≤s.n:=hk
    have htk:((k:Nat):Int).toNat=k:=a0E k
    by_cases hkl:k<s.n
    ·have hup:=hup k hkl
     refine x30 (fun hc hc=>?_) (fun hc hc=>?_)
     ·rw[htk] at hc
      omega
     ·refine⟨k+1,⟨by omega,by dsimp only;omega⟩,none,?_⟩
      exact xc4
    ·refine x2 (fun hc=>?_)
     refine a0b hS3 rfl ?_
     rintro _ rfl
     refine x2 ?_
     refine a0b hM3 rfl ?_
     rintro _ rfl
     refine x2 ?_
     refine a0b works11 rfl ?_
     rintro _ rfl
     refine x2 ?_
     refine⟨_,rfl,?_⟩
     exact xc4
 ·have hrd:=readyF hz hl hsk hsec hll hr
  unfold Sv.c at *
  refine a0a Tryz.E_ok Tryz.func9 rfl (by kernel_rfl) ?_
  refine x2 ?_
  refine a0b hrd rfl ?_
  rintro _ rfl
  refine x2 ?_
  refine a0b works11 rfl ?_
  rintro _ rfl
  refine x2 ?_
  refine⟨_,rfl,?_⟩
  exact xc4
end Go.Proofs
