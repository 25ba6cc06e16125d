/- Own work: texts of the proof of a law (WtA, WtB, WtC, WtD). No condition. -/
import Derived.Test.YtkgjhinmndcmjaaGreatPart34
import Derived.Test.YtkgjhinmndcmjaaGreatPart13
import Derived.Test.YtkgjhinmndcmjaaGreatPart0
import Derived.Test.YtkgjhinmndcmjaaGreatPart11
set_option linter.unusedVariables false
set_option linter.unusedSimpArgs false
namespace Go.Proofs
open Go Go.Sx
set_option maxRecDepth 100000
set_option maxHeartbeats 40000000
open Ca (Wt epW IsCrs RS)
theorem queue25 (s:Sv) (U:List Wt) (hV:U.length≤1000) (hb:∀w∈U,w.2.1<s.sec.length):a0g Tryz.prog 25 true [.agg s.c,.sl 3 U.length (a0e wtC wt0 U)] (·=.agg (s.qu U).c):=by
 have hlen:∀i,i≤U.length→((U.take i).map s.rqW).length=i:=fun i hi=>by rw[a1L,a0J];omega
 refine a0a Tryz.E_ok Tryz.func25 rfl (by kernel_rfl) ?_
 unfold Sv.c
 refine x70 ?_
 refine⟨Nat,fun i=>i≤U.length,fun i=>U.length-i,fun i=>[(6,.int .i64 (i:Nat))],fun i=>[(2,.cells 62 [.int .i64 s.d.H,.int .i64 s.d.T,.sl 2 s.d.Z.length (a0e zC (0,0) s.d.Z),.int .i64 s.d.hk,.int .i64 s.d.ck,.int .i64 s.d.hs.1,.int .i64 s.d.hs.2,.int .i64 s.d.cs.1,.int .i64 s.d.cs.2,.int .i64 s.cyl,.int .i64 0,.sl 2 s.sk.length (a0e zC (0,0) s.sk),.osl 3 i])],fun i=>[.row 66 5 i (a0e rqC Rq.none ((U.take i).map s.rqW)) true],0,⟨by omega,some [some 0,some 1,some 2,none],?_⟩,?_⟩
 ·exact xc69
 ·intro i hi
  have hi:i≤U.length:=hi
  have hti:(i:Int).toNat=i:=a0E i
  (repeat' ((conv=>whnf);first|(with_reducible first|apply spl|apply spl'|refine iJ ?_)<;>intro hc<;>try(exfalso;omega)|refine vcq ?_|refine dr 13 ?_));all_goals(try conv=>whnf);try exact trivial
  ·have hil:i<U.length:=by omega
   have hw:=hb _ (show U.getD i wt0∈U by rw[getW hil];exact a0N hil)
   have htw:(((U.getD i wt0).2.1:Nat):Int).toNat=(U.getD i wt0).2.1:=a0E _
   have hsc:(U.take (i+1)).map s.rqW=(U.take i).map s.rqW++[s.rqW (U.getD i wt0)]:=by
    rw[a1D hil,List.map_append,getW hil]
    rfl
   rw[hti]
   refine And.intro ⟨by omega,by omega⟩ ?_
   refine x70 ?_
   rw[htw]
   refine⟨i+1,⟨by dsimp only;omega,by dsimp only;omega⟩,some [some 0,some 1,some 2,some 5],?_⟩
   dsimp only
   rw[hsc]
   refine x70 ?_
   refine And.intro (fun k hk=>?_) ?_
   ·have h:=a1q (c:=rqC) (d:=Rq.none) (a:=s.rqW (U.getD i wt0)) (hlen i hi).symm (fun _ _=>rfl) k (by omega)
    rw[rqC_rqW] at h
    exact h
   ·exact xc69
  ·obtain rfl:i=U.length:=by omega
   refine⟨_,rfl,?_⟩
   unfold Qu.c Sv.qu
   dsimp only
   rw[a1L,a2M]
   exact xc69
theorem Sv.sok_iff {s:Sv}:s.SOk↔(s.qu []).Ok∧s.AreS:=
 ⟨fun h=>⟨h.q,fun i hi=>⟨h.rng i hi,h.nd i hi⟩,h.len⟩,fun h=>⟨h.2.2,fun i hi=>(h.2.1 i hi).1,fun i hi=>(h.2.1 i hi).2,h.1⟩⟩
theorem rcheck33 (s:Sv) (hz:s.d.Z.length≤1000000) (hl:s.x.l.length≤1000000) (hsk:s.sk.length≤1000000) (hsec:s.sec.length≤1000000):a0g Tryz.prog 33 false [.agg s.c] (·=.int .i64 s.err):=by
 have hck:=Check37 s.d hz
 have hcx:=Ca.Check37 s.x hl
 unfold Ca.Cache.v at hcx
 have hq:=a0g.view (args:=[.agg s.c,.lit (.slice none 0 0)]) (queue25 s [] (Nat.zero_le _) (by simp)) (by unfold Sv.c;exact xc0)
 have hcq:=Check26 (s.qu []) hz hsk (a1X _)
 unfold Qu.c Sv.qu at hq hcq
 dsimp only[List.map_nil,List.length_nil] at hq hcq
 unfold Sv.c at hq ⊢
 refine a0a Tryz.E_ok Tryz.func33 rfl (by kernel_rfl) ?_
 refine x1 ?_
 refine a0b hck rfl ?_
 rintro _ rfl
 refine x3 (fun hc=>?_) (fun hc=>?_)
 ·have hd:¬s.d.Ok:=fun h=>hc (Dk.chk_of h)
  have he:s.err=10:=by unfold Sv.err;rw[if_neg hd]
  refine⟨_,rfl,?_⟩
  rw[he]
  exact xc0
 ·have hd:s.d.Ok:=Dk.chk_ok (a0O.1 hc)
  refine a0b hcx rfl ?_
  rintro _ rfl
  refine x3 (fun hc=>?_) (fun hc=>?_)
  ·have hx:¬s.x.Ok:=fun h=>hc (by unfold Ca.Cache.chk;rw[if_pos h])
   have he:s.err=80:=by unfold Sv.err;rw[if_pos hd,if_neg hx];unfold Ca.Cache.chk;rw[if_neg hx]
   refine⟨_,rfl,?_⟩
   rw[he]
   exact xc0
  ·have hx:s.x.Ok:=by
    have h:=a0O.1 hc
    unfold Ca.Cache.chk at h
    split at h
    ·assumption
    ·exact absurd h (by decide)
   have hsm:=Sv.at_small hx (a0K _)
   refine a0b hq rfl ?_
   rintro _ rfl
   refine x1 ?_
   refine a0b hcq rfl ?_
   rintro _ rfl
   refine x3 (fun hc=>?_) (fun hc=>?_)
   ·have hqk:(s.qu []).Ok:=Qu.chk_ok (by first|exact hc|exact a0O.1 hc)
    have har:=areSectors73 s hd hx hsec
    have hen:=entries49 s hx
    unfold Sv.c at har hen
    refine a0b har rfl ?_
    rintro _ rfl
    refine x3 (fun hc=>?_) (fun hc=>?_)
    ·have hso:¬s.SOk:=fun h=>hc (Sv.sok_iff.1 h).2
     have he:s.err=150:=by unfold Sv.err;rw[if_pos hd,if_pos hx,if_neg hso]
     refine⟨_,rfl,?_⟩
     rw[he]
     exact xc0
    ·have hso:s.SOk:=Sv.sok_iff.2 ⟨hqk,by first|exact hc|exact a0O.1 hc⟩
     refine a0b hen rfl ?_
     rintro _ rfl
     refine x3 (fun hc=>?_) (fun hc=>?_)
     ·have he:s.err=2:=by unfold Sv.err;rw[if_pos hd,if_pos hx,if_pos hso,if_neg (by omega)]
      refine⟨_,rfl,?_⟩
      rw[he]
      exact xc0
     ·have he:s.err=0:=by unfold Sv.err;rw[if_pos hd,if_pos hx,if_pos hso,if_pos (by omega)]
      refine⟨_,rfl,?_⟩
      rw[he]
      exact xc0
   ·have hso:¬s.SOk:=fun h=>hc (Qu.chk_of h.q)
    have he:s.err=150:=by unfold Sv.err;rw[if_pos hd,if_pos hx,if_neg hso]
    refine⟨_,rfl,?_⟩
    rw[he]
    exact xc0
theorem rentries34 (s:Sv) (hz:s.d.Z.length≤1000000) (hl:s.x.l.length≤1000000) (hsk:s.sk.length≤1000000) (hsec:s.sec.length≤1000000):a0g Tryz.prog 34 true [.agg s.c] (fun v=>(s.err=0∧v=.tup [.sl 3 s.W.length (a0e wtC wt0 s.W),.int .i64 0])∨s.err≠0∧v=.tup [.lit (.slice none 0 0),.int .i64 s.err]):=by
 have hck:=rcheck33 s hz hl hsk hsec
 have hent:=fun h=>entries49 s (Sv.err_ok h).x
 unfold Sv.c at hck hent ⊢
 refine a0a Tryz.E_ok Tryz.func34 rfl (by kernel_rfl) ?_
 refine x41 ?_
 refine a0b hck rfl ?_
 rintro _ rfl
 refine x47 (fun hc=>?_) (fun hc=>?_)
 ·refine⟨_,.inr ⟨hc,rfl⟩,?_⟩
  exact xc21
 ·have he:=a0O.1 hc
  refine a0b (hent he) rfl ?_
  rintro _ rfl
  refine x41 ?_
  refine⟨_,.inl ⟨he,rfl⟩,?_⟩
  exact xc21
theorem within55n (n x y:Int):a0g Tryz.prog 55 false [.int .i64 n,.int .i64 x,.int .i64 y] (·=.prop (x≤n∧n≤y) inferInstance):=by
 refine a0a Tryz.E_ok Tryz.func55 rfl (by kernel_rfl) ?_
 refine x41 ?_
 refine⟨_,rfl,?_⟩
 exact xc21
def CrsR (W:List Wt) (l:List Int):Prop:=(∀i,i<l.length→(0≤l.getD i 0∧l.getD i 0≤(W.length:Int)-1)∧∀k,k<i→l.getD k 0≠l.getD i 0∧epW W (l.getD k 0).toNat≤epW W (l.getD i 0).toNat)∧l.length=W.length
theorem crsR_iff {W:List Wt} {l:List Int}:CrsR W l↔CrsI W l:=by
 constructor
 ·intro h
  exact⟨⟨fun i hi=>(h.1 i hi).1,fun i hi k hk=>((h.1 i hi).2 k hk).1,h.2⟩,fun j hj=>((h.1 (j+1) hj).2 j (by omega)).2⟩
 ·intro h
  have hm:∀j k,j+k<l.length→epW W (l.getD j 0).toNat≤epW W (l.getD (j+k) 0).toNat:=fun j k=>by
   induction k with
   |zero=>intro _;exact a0K _
   |succ k ih=>intro hk;exact a3S (ih (by omega)) (h.2 (j+k) (by omega))
  refine⟨fun i hi=>⟨h.1.rng i hi,fun k hk=>⟨h.1.nd i hi k hk,?_⟩⟩,h.1.len⟩
  have:=hm k (i-k) (by omega)
  rwa [show k+(i-k)=i by omega] at this
theorem isCourse57 (W:List Wt) (_hW:∀w∈W,WtS w) (hWl:W.length≤6) (l:List Int) (hl:l.length≤1000000):a0g Tryz.prog 57 false [.sl 3 W.length (a0e wtC wt0 W),.sl 1 l.length (a0e intC 0 l)] (·=.prop (CrsR W l) (Classical.propDecidable _)):=by
 refine a0a Tryz.E_ok Tryz.func57 rfl (by kernel_rfl) ?_
 refine x41 ?_
 refine⟨Nat,fun i=>i≤l.length∧∀j,j<i→(0≤l.getD j 0∧l.getD j 0≤(W.length:Int)-1)∧∀k,k<j→l.getD k 0≠l.getD j 0∧epW W (l.getD k 0).toNat≤epW W (l.getD j 0).toNat,fun i=>l.length-i,fun i=>[(5,.int .i64 (i:Nat))],fun _=>[],fun _=>[],0,⟨⟨by omega,fun j hj=>by omega⟩,none,?_⟩,?_⟩
 ·exact xc21
 ·rintro i ⟨hi,hall⟩
  have hti:(i:Int).toNat=i:=a0E i
  refine x47 (fun hc=>?_) (fun hc=>?_)
  ·have hil:i<l.length:=by omega
   rw[hti]
   refine a0b (within55n _ _ _) rfl ?_
   rintro _ rfl
   refine x47 (fun hc=>?_) (fun hc=>?_)
   ·have hno:¬CrsR W l:=fun h=>hc (h.1 i hil).1
    refine⟨_,rfl,?_⟩
    exact xc21
   ·have hr:=a0O.1 hc
    refine⟨Nat,fun k=>k≤i∧∀a,a<k→l.getD a 0≠l.getD i 0∧epW W (l.getD a 0).toNat≤epW W (l.getD i 0).toNat,fun k=>i-k,fun k=>[(6,.int .i64 (k:Nat))],fun _=>[],fun _=>[],0,⟨⟨by omega,fun j hj=>by omega⟩,none,?_⟩,?_⟩
    ·exact xc21
    ·rintro k ⟨hk,hka⟩
     have htk:(k:Int).toNat=k:=a0E k
     refine x47 (fun hc=>?_) (fun hc=>?_)
     ·have hki:k<i:=by omega
      have hkr:=(hall k hki).1
      rw[hti,htk]
      refine And.intro (fun _=>⟨by omega,by omega⟩) ?_
      refine x41 ?_
      rw[hti]
      refine And.intro (fun _=>⟨by omega,by omega⟩) ?_
      refine x47 (fun hc=>?_) (fun hc=>?_)
      ·have hno:¬CrsR W l:=fun h=>by
        have h1:=(h.1 i hil).2 k hki
        rcases hc with h2|h2
        ·exact h1.1 h2
        ·have h3:=h1.2
         unfold epW at h3
         have h4:((W.getD (l.getD i 0).toNat wt0).1:Int)<(W.getD (l.getD k 0).toNat wt0).1:=h2
         have h5:(W.getD (l.getD k 0).toNat wt0).1≤(W.getD (l.getD i 0).toNat wt0).1:=h3
         omega
       refine⟨_,rfl,?_⟩
       exact xc21
      ·refine⟨k+1,⟨⟨by omega,fun a ha=>?_⟩,by dsimp only;omega⟩,none,?_⟩
       ·rcases a0I (show a≤k by omega) with g|rfl
        ·exact hka a g
        ·refine⟨fun e=>hc (.inl e),?_⟩
         have h2:¬((W.getD (l.getD i 0).toNat wt0).1:Int)<(W.getD (l.getD a 0).toNat wt0).1:=fun e=>hc (.inr e)
         show(W.getD (l.getD a 0).toNat wt0).1≤(W.getD (l.getD i 0).toNat wt0).1
         omega
       ·exact xc21
     ·obtain rfl:k=i:=by omega
      refine⟨k+1,⟨⟨by omega,fun j hj=>?_⟩,by dsimp only;omega⟩,none,?_⟩
      ·rcases a0I (show j≤k by omega) with g|rfl
       ·exact hall j g
       ·exact⟨hr,hka⟩
      ·exact xc21
  ·obtain rfl:i=l.length:=by omega
   have hiff:CrsR W l↔(l.length:Int)=W.length:=⟨fun h=>by have:=h.2;omega,fun h=>⟨hall,by omega⟩⟩
   refine⟨_,rfl,?_⟩
   refine x41 ?_
   exact⟨hiff.symm,trivial⟩
theorem checkCourse21 (s:Sv) (hz:s.d.Z.length≤1000000) (hx:s.x.l.length≤1000000) (hsk:s.sk.length≤1000000) (hsec:s.sec.length≤1000000) (l:List Int) (hl:l.length≤1000000):a0g Tryz.prog 21 false [.agg s.c,.sl 1 l.length (a0e intC 0 l)] (·=.int .i64 (s.cerr l)):=by
 have hck:=rcheck33 s hz hx hsk hsec
 have hent:=fun h=>entries49 s (Sv.err_ok h).x
 unfold Sv.c at hck hent ⊢
 refine a0a Tryz.E_ok Tryz.func21 rfl (by kernel_rfl) ?_
 refine x41 ?_
 refine a0b hck rfl ?_
 rintro _ rfl
 refine x47 (fun hc=>?_) (fun hc=>?_)
 ·have he:s.cerr l=s.err:=by unfold Sv.cerr;rw[if_neg hc]
  refine⟨_,rfl,?_⟩
  rw[he]
  exact xc21
 ·have he:=a0O.1 hc
  have hok:=Sv.err_ok he
  refine a0b (hent he) rfl ?_
  rintro _ rfl
  refine x41 ?_
  refine a0b (isCourse57 s.W (fun w hw=>(hok.ws w hw).1) hok.few l hl) rfl ?_
  rintro _ rfl
  refine x47 (fun hc=>?_) (fun hc=>?_)
  ·have hne:¬CrsI s.W l:=fun h=>hc (crsR_iff.2 h)
   have he2:s.cerr l=151:=by unfold Sv.cerr;rw[if_pos he,if_neg hne]
   refine⟨_,rfl,?_⟩
   rw[he2]
   exact xc21
  ·have hye:CrsI s.W l:=crsR_iff.1 (by first|exact hc|exact a0O.1 hc)
   have he2:s.cerr l=0:=by unfold Sv.cerr;rw[if_pos he,if_pos hye]
   refine⟨_,rfl,?_⟩
   rw[he2]
   exact xc21
end Go.Proofs
