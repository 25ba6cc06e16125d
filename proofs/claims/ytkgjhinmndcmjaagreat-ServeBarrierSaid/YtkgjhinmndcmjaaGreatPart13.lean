/- Own work: texts of the proof of a law (Wc1, Wr1, SzCfz, Wr2, Wc2, Wr3, Wr4, Wr5, Wc3, WsM). No condition. -/
import Derived.Test.YtkgjhinmndcmjaaGreatPart12
import Derived.Test.YtkgjhinmndcmjaaGreatPart11
import Derived.Test.YtkgjhinmndcmjaaGreatPart0
set_option linter.unusedVariables false
set_option linter.unusedSimpArgs false
namespace Go.Proofs.Ca
open Go Go.Sx
set_option maxRecDepth 100000
set_option maxHeartbeats 4000000
def oC (o:Int×Int):List V:=[.int .i64 o.1,.int .i64 o.2]
def oV (o:Int×Int):V:=.agg [.int .i64 o.1,.int .i64 o.2]
structure Cache where
 n:Int
 l:List (Int×Int)
namespace Cache
def c (x:Cache):List V:=[.int .i64 x.n,.sl 2 x.l.length (a0e oC (0,0) x.l)]
def v (x:Cache):V:=.agg [.int .i64 x.n,.sl 2 x.l.length (a0e oC (0,0) x.l)]
def OkO (n:Int) (o:Int×Int):Prop:=(o.1=1∨o.1=2)∧(0≤o.2∧o.2≤n-1)∨(o.1=3∨o.1=4)∧o.2=0
structure Ok (x:Cache):Prop where
 n:1≤x.n∧x.n≤6
 len:x.l.length≤16
 ord:∀o∈x.l,OkO x.n o
end Cache
open Classical in
noncomputable def Cache.chk (x:Cache):Int:=if x.Ok then 0 else 80
theorem within51 (n x y:Int):a0g Tryz.prog 113 false [.int .i64 n,.int .i64 x,.int .i64 y] (·=.prop (x≤n∧n≤y) inferInstance):=by
 refine a0a Tryz.E_ok Tryz.func113 rfl (by kernel_rfl) ?_
 refine x1 ?_;(all_goals(try(refine⟨_,rfl,?_⟩;exact xc0)))
theorem puts62 (o:Int×Int):a0g Tryz.prog 112 false [oV o] (·=.prop (o.1=1∨o.1=2) inferInstance):=by
 refine a0a Tryz.E_ok Tryz.func112 rfl (by kernel_rfl) ?_
 refine x1 ?_;(all_goals(try(refine⟨_,rfl,?_⟩;exact xc0)))
theorem check64 (n:Int) (hn:-1000≤n∧n≤1000) (m:Nat) (f:Nat→List V) (o:Int×Int):a0g Tryz.prog 111 false [oV o,.iptr [.int .i64 n,.sl 2 m f]] (·=.prop (Cache.OkO n o) (Classical.propDecidable _)):=by
 refine a0a Tryz.E_ok Tryz.func111 rfl (by kernel_rfl) ?_
 refine x1 ?_;(repeat' ((first|(refine a0b (puts62 o) rfl ?_;rintro _ rfl)|(refine a0d (puts62 o) rfl ?_)|(refine a0h (fun _=>puts62 o) rfl ?_)|(refine a0b (within51 _ _ _) rfl ?_;rintro _ rfl)|(refine a0d (within51 _ _ _) rfl ?_)|(refine a0h (fun _=>within51 _ _ _) rfl ?_));(repeat' ((conv=>whnf);first|(with_reducible first|apply spl|apply spl'|refine iJ ?_)<;>intro hc<;>try(exfalso;omega)|refine vcq ?_|fail));all_goals((try conv=>whnf);try exact trivial)));(all_goals(try(refine⟨_,rfl,?_⟩;refine x1 ?_)))
 ·exact⟨by unfold Cache.OkO;omega,trivial⟩
 ·exact⟨by unfold Cache.OkO;omega,trivial⟩
theorem plain_of {g : FuncId} {fn : Func} (hf : Tryz.prog.funcs[g]? = some fn) (h1 : (fn.name == "runtime.NumGoroutine") = false) (h2 : fn.body.isNone = false) : Plain Tryz.prog g := ⟨fn, hf, h1, h2⟩
def TellO (p:Int×Int→Prop):(Nat→Prop)→World→Value→Prop:=
 FnD Tryz.prog (fun o:Int×Int=>[oV o]) (fun o r=>r=.prop (p o) (Classical.propDecidable _))
theorem check66 (p:Int×Int→Prop) (o:Int×Int):a0g Tryz.prog 115 false [oV o,.iptr [.sem (TellO p)]] (·=.prop (¬p o) (Classical.propDecidable _)):=by
 refine a0a Tryz.E_ok Tryz.func115 rfl (by kernel_rfl) ?_
 refine x1 ?_
 refine scall_fn o rfl rfl ?_
 rintro _ rfl
 refine x1 ?_
 refine⟨_,rfl,?_⟩
 exact xc0
theorem index85 (p:Int×Int→Prop) (l:List (Int×Int)) (hl:l.length≤1000000):a0g Tryz.prog 150 false [.sl 2 l.length (a0e oC (0,0) l),.sem (TellO p)] (fun r=>∃k:Int,r=.int .i64 k∧(0≤k↔∃s∈l,p s)):=by
 refine a0a Tryz.E_ok Tryz.func150 rfl (by kernel_rfl) ?_
 refine x1 ?_
 refine⟨Nat,fun i=>i≤l.length∧∀j s,j<i→l[j]? = some s→¬p s,fun i=>l.length-i,fun i=>[(8,.int .i64 i)],fun _=>[],fun _=>[],0,⟨⟨by omega,fun j s h=>by omega⟩,none,?_⟩,?_⟩
 ·exact xc0
 ·rintro i ⟨hi,hp⟩
  refine x3 (fun hc=>?_) (fun hc=>?_)
  ·refine scall_fn (l.getD (i:Int).toNat (0,0)) rfl rfl ?_
   rintro _ rfl
   have hi:i<l.length:=by omega
   have hq:l.getD (i:Int).toNat (0,0)=l[i]:=by simp[a0A,hi]
   refine x3 (fun hc=>?_) (fun hc=>?_)
   ·refine⟨_,⟨i,rfl,⟨fun _=>⟨l[i],a0N hi,by rw[hq] at hc;exact hc⟩,fun _=>by omega⟩⟩,?_⟩
    exact xc0
   ·refine⟨i+1,⟨⟨by omega,fun j s hj hs=>?_⟩,by dsimp only;omega⟩,none,?_⟩
    ·rcases a0I (show j≤i by omega) with h1|rfl
     ·exact hp j s h1 hs
     ·rw[a0C hi] at hs
      cases hs
      rw[hq] at hc
      exact hc
    ·exact xc0
  ·refine⟨_,⟨-1,rfl,⟨fun h=>by omega,fun⟨s,h1,h2⟩=>?_⟩⟩,?_⟩
   ·obtain⟨j,h3,h4⟩:=a1A h1
    exact absurd h2 (hp j s (by omega) (by rw[a0C h3,h4]))
   ·exact xc0
theorem contains65 (p:Int×Int→Prop) (l:List (Int×Int)) (hl:l.length≤1000000):a0g Tryz.prog 114 false [.sl 2 l.length (a0e oC (0,0) l),.sem (TellO p)] (·=.prop (∃s∈l,p s) (Classical.propDecidable _)):=by
 refine a0a Tryz.E_ok Tryz.func114 rfl (by kernel_rfl) ?_
 refine x1 ?_
 refine a0b (index85 p l hl) rfl ?_
 rintro _ ⟨k,rfl,hk⟩
 refine x1 ?_
 refine⟨_,rfl,?_⟩
 exact xc0
theorem check36 (x:Cache) (hl:x.l.length≤1000000):a0g Tryz.prog 75 false [x.v] (·=.int .i64 x.chk):=by
 refine a0a Tryz.E_ok Tryz.func75 rfl (by kernel_rfl) ?_
 refine x1 ?_;(repeat' ((first|(refine a0b (within51 _ _ _) rfl ?_;rintro _ rfl)|(refine a0d (within51 _ _ _) rfl ?_)|(refine a0h (fun _=>within51 _ _ _) rfl ?_));refine x3 (fun hc=>?_) (fun hc=>?_)));(all_goals(try(refine⟨_,rfl,?_⟩;refine x1 ?_)))
 ·refine a0u (contains65 (fun o=>¬Cache.OkO x.n o) x.l hl) ?_
  refine x1 ?_
  refine⟨semOb_fn (a':=[]) (b':=[.iptr [.sem (TellO (Cache.OkO x.n))]]) (fun i=>check66 (Cache.OkO x.n) i) (plain_of Tryz.func115 (by kernel_rfl) (by kernel_rfl)) ?_,?_⟩
  ·refine x1 ?_
   refine⟨semOb_fn (a':=[]) (b':=[.iptr [.int .i64 x.n,.sl 2 x.l.length (a0e oC (0,0) x.l)]]) (fun i=>check64 x.n (by omega) _ _ i) (plain_of Tryz.func111 (by kernel_rfl) (by kernel_rfl)) ?_,?_⟩
   ·exact xc0
   ·exact xc0
  ·rintro _ rfl
   refine x3 (fun hc=>?_) (fun hc=>?_)
   ·refine⟨_,rfl,?_⟩
    refine x1 ?_
    refine⟨?_,trivial⟩
    unfold Cache.chk
    rw[if_neg]
    rintro⟨_,_,h3⟩
    obtain⟨o,h4,h5⟩:=hc
    exact h5 (h3 o h4)
   ·refine⟨_,rfl,?_⟩
    refine x1 ?_
    refine⟨?_,trivial⟩
    unfold Cache.chk
    rw[if_pos]
    exact⟨by omega,by omega,fun o ho=>a0Q fun h=>hc ⟨o,ho,h⟩⟩
 ·refine⟨?_,trivial⟩
  unfold Cache.chk
  rw[if_neg]
  rintro⟨h1,h2,_⟩
  omega
end Go.Proofs.Ca
namespace Go.Proofs.Ca
open Go Go.Sx
set_option maxRecDepth 100000
set_option maxHeartbeats 40000000
def rI (v:Int):Int:=if v=-3 then -1 else v
structure RS where
 M:Nat→Int
 E:List (Nat→Int)
 W:Int
namespace RS
def ep (s:RS) (e:Nat):Nat→Int:=s.E.getD e (fun _=>-1)
def medF (s:RS):Nat→List V:=fun b=>[.int .i64 (s.M b)]
def epF (n:Nat) (s:RS):Nat→List V:=fun e=>[.sl 1 n (fun b=>[.int .i64 (s.ep e b)])]
def c (n:Nat) (s:RS):List V:=[.sl 1 n s.medF,.sl 1 s.E.length (s.epF n),.int .i64 s.W]
def v (n:Nat) (s:RS):V:=.agg (s.c n)
end RS
theorem old45 (x:Cache) (n:Nat) (hn:x.n=n) (hn6:n≤1000000):NewC Tryz.prog 145 [x.v] (fun r H=>r=.osl 0 n∧H=[.row 3 1 n (fun _=>[.int .i64 (-1)]) true]):=by
 refine newC_ent Tryz.E_ok Tryz.func145 rfl (by kernel_rfl) ?_
 rw[show x.v=.agg [.int .i64 n,.sl 2 x.l.length (a0e oC (0,0) x.l)] from by unfold Cache.v;rw[hn]]
 refine x29 ?_
 refine⟨Nat,fun i=>i≤n,fun i=>n-i,fun i=>[(4,.int .i64 (i:Nat)),(3,.osl 1 i)],fun _=>[],fun i=>[.row 3 1 i (fun _=>[.int .i64 (-1)]) true],0,⟨by omega,some [some 0,none],?_⟩,?_⟩
 ·exact xc37
 ·intro i hi
  have hi:i≤n:=hi
  (repeat' ((conv=>whnf);first|(with_reducible first|apply spl|apply spl'|refine iJ ?_)<;>intro hc<;>try(exfalso;omega)|refine vcq ?_|refine dr 6 ?_|refine dr 2008 ?_|refine dr 508040603052006 ?_));all_goals(try conv=>whnf);try exact trivial
  ·refine⟨i+1,⟨by omega,by dsimp only;omega⟩,some [some 0,some 3],?_⟩
   refine x29 ?_
   refine⟨appF_one rfl,?_⟩
   exact xc37
  ·obtain rfl:i=n:=by omega
   refine⟨_,_,⟨rfl,rfl⟩,some [some 1],?_⟩
   exact xc37
theorem old45p (x:Cache) (n:Nat) (hn:x.n=n) (hn6:n≤1000000):a0g Tryz.prog 145 false [x.v] (·=.sl 1 n (fun _=>[.int .i64 (-1)])):=by
 refine(old45 x n hn hn6).pure ?_
 rintro _ _ ⟨rfl,rfl⟩
 refine⟨_,rfl,?_⟩
 exact xc37
def RS.begin:RS:=⟨fun _=>-1,[fun _=>-1],0⟩
theorem begin16 (x:Cache) (n:Nat) (hn:x.n=n) (hn6:n≤1000000):a0g Tryz.prog 105 true [x.v] (·=RS.begin.v n):=by
 refine a0a Tryz.E_ok Tryz.func105 rfl (by kernel_rfl) ?_
 refine x49 ?_
 refine a0d (old45p x n hn hn6) rfl ?_
 refine x49 ?_
 refine a0d (old45p x n hn hn6) rfl ?_
 refine x49 ?_
 refine⟨_,rfl,?_⟩
 refine x29 ?_
 refine⟨fun i hi=>by(obtain rfl:i=0:=by omega);rfl,.inl rfl,?_⟩
 exact xc37
def RS.h (n:Nat) (s:RS) (β:Nat→Option Nat×Nat):List O:=[.row 3 1 n s.medF false,.grid 31 3 1 s.E.length (fun _=>n) (fun e b=>[.int .i64 (s.ep e b)]) β none true]
theorem copied49 (n:Nat) (hn:1≤n∧n≤1000) (s:RS) (hE:s.E.length≤1000):NewC Tryz.prog 146 [s.v n] (fun r H=>∃β,r=.agg [.osl 0 n,.osl 1 s.E.length,.int .i64 s.W]∧H=s.h n β):=by
 refine newC_ent Tryz.E_ok Tryz.func146 rfl (by kernel_rfl) ?_
 (repeat' ((conv=>whnf);first|(with_reducible first|apply spl|apply spl'|refine iJ ?_)<;>intro hc<;>try(exfalso;omega)|refine vcq ?_|refine dr 508040603052006 ?_));all_goals(try conv=>whnf);try exact trivial
 refine⟨Nat×(Nat→Option Nat×Nat),fun q=>q.1≤s.E.length,fun q=>s.E.length-q.1,fun q=>[(4,.int .i64 (q.1:Nat)),(5,.any),(8,.any)],fun q=>[(3,.cells 126 [.osl 4 n,.osl 5 q.1,.int .i64 s.W]),(4,.row 3 1 n s.medF false)],fun q=>[.grid 31 3 1 q.1 (fun _=>n) (fun e b=>[.int .i64 (s.ep e b)]) q.2 none true],(0,fun _=>(none,0)),⟨by dsimp only;omega,some [some 0,some 1,some 2,some 3,some 4,none],?_⟩,?_⟩
 ·exact xc37
 ·rintro⟨i,β⟩ hi
  dsimp only at hi
  (repeat' ((conv=>whnf);first|(with_reducible first|apply spl|apply spl'|refine iJ ?_)<;>intro hc<;>try(exfalso;omega)|refine vcq ?_|refine dr 2008 ?_));all_goals(try conv=>whnf);try exact trivial
  ·intro β1
   (repeat' ((conv=>whnf);first|(with_reducible first|apply spl|apply spl'|refine iJ ?_)<;>intro hc<;>try(exfalso;omega)|refine vcq ?_|refine dr 2008 ?_));all_goals(try conv=>whnf);try exact trivial
   refine⟨⟨rfl,rfl,rfl,rfl,by omega,by dsimp only;omega⟩,fun β2=>?_⟩
   (repeat' ((conv=>whnf);first|(with_reducible first|apply spl|apply spl'|refine iJ ?_)<;>intro hc<;>try(exfalso;omega)|refine vcq ?_|refine dr 2008 ?_));all_goals(try conv=>whnf);try exact trivial
   have hi1:i<s.E.length:=by dsimp only at hc;omega
   refine⟨(i+1,β2),⟨by dsimp only;omega,by dsimp only;omega⟩,some [some 0,some 1,some 2,some 3,some 4,some 9],?_⟩
   refine x29 ?_
   refine⟨fun e he=>⟨?_,rfl,fun j _=>?_⟩,?_⟩
   ·dsimp only
    split
    ·rfl
    ·omega
   ·dsimp only
    split
    ·rfl
    ·rename_i hlt
     have he':e<i+1:=he
     obtain rfl:e=i:=by omega
     unfold appF
     rw[if_neg (by omega)]
     rfl
   exact xc37
  ·have hi:i=s.E.length:=by dsimp only at hc;omega
   subst hi
   refine⟨_,_,⟨β,rfl,rfl⟩,some [some 4,some 5],?_⟩
   refine x29 ?_
   exact⟨fun _ _=>⟨rfl,rfl,fun _ _=>rfl⟩,trivial⟩
namespace RS
def wr (s:RS) (e b:Nat):RS:=if s.ep e b=-1 then s else⟨fun b'=>if b'=b then s.ep e b else s.M b',s.E.set e (fun b'=>if b'=b then -1 else s.ep e b'),s.W+1⟩
theorem wr_pos {s:RS} {e b:Nat} (h:s.ep e b≠-1):s.wr e b=⟨fun b'=>if b'=b then s.ep e b else s.M b',s.E.set e (fun b'=>if b'=b then -1 else s.ep e b'),s.W+1⟩:=if_neg h
theorem wr_neg {s:RS} {e b:Nat} (h:s.ep e b=-1):s.wr e b=s:=if_pos h
theorem ep_set {E:List (Nat→Int)} {e e':Nat} {f:Nat→Int} (he:e<E.length):(E.set e f).getD e' (fun _=>-1)=if e'=e then f else E.getD e' (fun _=>-1):=by
 simp only[a0A,a0G]
 by_cases h:e=e'
 ·subst h;simp[he]
 ·rw[if_neg h,if_neg (fun g=>h g.symm)]
theorem ep_wr {s:RS} {e b:Nat} (he:e<s.E.length) (e' j:Nat):(⟨fun b'=>if b'=b then s.ep e b else s.M b',s.E.set e (fun b'=>if b'=b then -1 else s.ep e b'),s.W+1⟩:RS).ep e' j=if e'=e∧j=b then -1 else s.ep e' j:=by
 show((s.E.set e _).getD e' (fun _=>-1)) j=_
 rw[ep_set he]
 by_cases h:e'=e
 ·subst h
  rw[if_pos rfl]
  by_cases h2:j=b
  ·simp[h2]
  ·simp[h2]
 ·rw[if_neg h,if_neg (fun g=>h g.1)];rfl
end RS
theorem write48 (n:Nat) (hn:1≤n∧n≤1000) (s:RS) (hE:s.E.length≤1000) (hW:0≤s.W∧s.W≤1000000) (e b:Nat) (he:e<s.E.length) (hb:b<n):a0g Tryz.prog 108 true [s.v n,.int .i64 e,.int .i64 b] (·=(s.wr e b).v n):=by
 refine a0a Tryz.E_ok Tryz.func108 rfl (by kernel_rfl) ?_
 refine x29 ?_
 refine a2l (copied49 n hn s hE) rfl ?_
 rintro _ _ ⟨β,rfl,rfl⟩
 refine x29 ?_
 (repeat' ((first|(refine And.intro ⟨by omega,rfl⟩ ?_)|(refine And.intro ⟨by omega,rfl,rfl,by dsimp only;omega⟩ ?_));(repeat' ((conv=>whnf);first|(with_reducible first|apply spl|apply spl'|refine iJ ?_)<;>intro hc<;>try(exfalso;omega)|refine vcq ?_|refine dr 6 ?_|refine dr 2008 ?_|refine dr 508040603052006 ?_));all_goals((try conv=>whnf);try exact trivial)))
 ·rw[a0E,a0E] at hc
  refine⟨_,rfl,?_⟩
  rw[RS.wr_pos hc]
  have hep:=RS.ep_wr (s:=s) (e:=e) (b:=b) he
  unfold RS.v RS.c
  refine x29 ?_
  refine⟨fun i _=>?_,.inl rfl,?_⟩
  ·show a2d (i=b) [V.int .i64 (s.M i)] 0 [V.int .i64 (s.ep e b)]=[V.int .i64 (if i=b then s.ep e b else s.M i)]
   by_cases h:i=b
   ·rw[a0w h,if_pos h];rfl
   ·rw[a0t h,if_neg h]
  refine x29 ?_
  refine⟨by simp,rfl,fun e' he'=>⟨_,rfl,fun j _=>?_⟩,.inl rfl,?_⟩
  ·show a2d (e'=e∧j=b) [V.int .i64 (s.ep e' j)] 0 [V.int .i64 (-1)]=[V.int .i64 (RS.ep _ e' j)]
   rw[hep]
   by_cases h:e'=e∧j=b
   ·rw[a0w h,if_pos h];rfl
   ·rw[a0t h,if_neg h]
  exact xc37
 ·rw[a0E,a0E] at hc
  refine⟨_,rfl,?_⟩
  rw[RS.wr_neg (a0O.1 hc)]
  refine x29 ?_
  refine⟨fun e' _=>⟨_,rfl,fun j _=>rfl⟩,.inl rfl,?_⟩
  exact xc37
end Go.Proofs.Ca
namespace Go.Sx
open Go
variable {P:Program}
theorem callee_frz {g:FuncId} {keep:Bool} {args args':List V} {R0:V→Prop} {H:List O} {K:V→List O→Prop} {ps:List Prop} {ids:List Nat} (h:a0g P g keep args' R0)
  (hf:frzL (frzV 8 H) args=some (ps,ids,args')) (hp:∀p∈ps,p) (hk:∀ret,R0 ret→K ret (goneAt ids H)):Callee P g args H K:=by
 unfold Callee
 refine⟨h.1,fun I η w vals hS hd=>?_⟩
 obtain⟨s1,m1,st1⟩:=hS.freeze ids
 have hd':DenL (frzI I η H ids) [] w args' vals:=
  frzL_sound (C:=fun id=>∀e o b,η[id]? = some e→H[id]? = some o→o.has e b→frzI I η H ids b) (fun v v' ps ids x=>frzV_sound hS.obj (fun b hb=>.inl hb) 8 v v' ps ids x) args args' ps ids vals hf hp
   (fun id hid e o b he ho hb=>.inr ⟨id,hid,e,o,he,ho,hb⟩) hd
 refine(h.2 _ w vals s1.ilt hd').mono ?_
 rintro e w' ⟨ret,v,rfl,hr,hden,hpr⟩
 obtain⟨s2,m2,st2⟩:=s1.pres hpr
 refine⟨grow (frzI I η H ids) w w',η,goneAt ids H,ret,v,rfl,hk ret hr,s2,?_,m1.trans m2,st1.trans st2⟩
 refine Den.mono ⟨fun _ _ he _=>by simp at he,fun b hb=>?_,fun _ _=>rfl⟩ _ _ hden
 rcases hb with hb|hb
 ·exact .inl hb.2
 ·exact .inr hb
end Go.Sx
namespace Go.Proofs.Ca
open Go Go.Sx
set_option maxRecDepth 100000
set_option maxHeartbeats 40000000
namespace RS
def wrB (s:RS) (e:Nat):Nat→RS
 |0=>s
 |b+1=>(s.wrB e b).wr e b
def wrE (n:Nat) (s:RS):Nat→RS
 |0=>s
 |e+1=>(s.wrE n e).wrB e n
theorem wr_len (s:RS) (e b:Nat):(s.wr e b).E.length=s.E.length:=by unfold wr;split<;>simp
theorem wr_W (s:RS) (e b:Nat):s.W≤(s.wr e b).W∧(s.wr e b).W≤s.W+1:=by
 unfold wr
 split
 ·omega
 ·exact⟨by show s.W≤s.W+1;omega,a1Q _⟩
theorem wrB_len (s:RS) (e:Nat):∀b,(s.wrB e b).E.length=s.E.length
 |0=>rfl
 |b+1=>by simp only[wrB];rw[wr_len,wrB_len s e b]
theorem wrB_W (s:RS) (e:Nat):∀b:Nat,s.W≤(s.wrB e b).W∧(s.wrB e b).W≤s.W+b
 |0=>by simp[wrB]
 |b+1=>by have:=wrB_W s e b;have:=wr_W (s.wrB e b) e b;simp only[wrB];omega
theorem wrE_len (n:Nat) (s:RS):∀e,(s.wrE n e).E.length=s.E.length
 |0=>rfl
 |e+1=>by simp only[wrE];rw[wrB_len,wrE_len n s e]
theorem wrE_W (n:Nat) (s:RS):∀e:Nat,s.W≤(s.wrE n e).W∧(s.wrE n e).W≤s.W+e*n
 |0=>by simp[wrE]
 |e+1=>by
  have:=wrE_W n s e;have:=wrB_W (s.wrE n e) e n
  simp only[wrE]
  have:((e+1:Nat):Int)*n=e*n+n:=by rw[Int.natCast_add,Int.add_mul];simp
  omega
end RS
theorem writeAll50 (n:Nat) (hn:1≤n∧n≤1000) (s:RS) (hE:s.E.length≤100) (hW:0≤s.W∧s.W≤10000) (e:Nat) (he:e≤s.E.length):a0g Tryz.prog 147 true [s.v n,.int .i64 e] (·=(s.wrE n e).v n):=by
 refine a0a Tryz.E_ok Tryz.func147 rfl (by kernel_rfl) ?_
 refine x7 ?_
 refine⟨Nat,fun i=>i≤e,fun i=>e-i,fun i=>[(5,.int .i64 (i:Nat))],fun i=>[(0,.cells 126 ((s.wrE n i).c n))],fun _=>[],0,⟨by omega,some [some 0,some 1],?_⟩,?_⟩
 ·exact xc18
 ·intro i hi
  have hi:i≤e:=hi
  have hwl:=RS.wrE_len n s i
  have hww:=RS.wrE_W n s i
  have hin:(i:Int)*n≤100*1000:=by
   have:i*n≤100*1000:=a2I (by omega) hn.2
   exact_mod_cast this
  refine x78 (fun hc=>?_) (fun hc=>?_)
  ·have hi1:i<e:=by omega
   refine⟨Nat,fun b=>b≤n,fun b=>n-b,fun b=>[(6,.int .i64 (b:Nat))],fun b=>[(0,.cells 126 (((s.wrE n i).wrB i b).c n))],fun _=>[],0,⟨by omega,some [some 0,some 1],?_⟩,?_⟩
   ·exact xc18
   ·intro b hb
    have hb:b≤n:=hb
    have hbl:=RS.wrB_len (s.wrE n i) i b
    have hbw:=RS.wrB_W (s.wrE n i) i b
    refine x78 (fun hc=>?_) (fun hc=>?_)
    ·refine a0b (write48 n hn ((s.wrE n i).wrB i b) (by omega) (by omega) i b (by omega) (by omega)) rfl ?_
     rintro _ rfl
     refine x7 ?_
     refine⟨b+1,⟨by omega,by dsimp only;omega⟩,some [some 0,some 1],?_⟩
     exact xc18
    ·obtain rfl:b=n:=by omega
     refine⟨i+1,⟨by omega,by dsimp only;omega⟩,some [some 0,some 1],?_⟩
     exact xc18
  ·obtain rfl:i=e:=by omega
   refine⟨_,rfl,?_⟩
   exact xc18
namespace RS
def setE (s:RS) (e b:Nat) (v:Int):RS:=⟨s.M,s.E.set e (fun b'=>if b'=b then v else s.ep e b'),s.W⟩
def order (n:Nat) (s:RS) (k:Int) (o:Int×Int):RS:=
 if o.1=1 then s.setE (s.E.length-1) o.2.toNat k
 else if o.1=2 then((s.setE (s.E.length-1) o.2.toNat k).wrE n (s.E.length-1)).wr (s.E.length-1) o.2.toNat
 else if o.1=3 then⟨s.M,s.E++[fun _=>-1],s.W⟩
 else if o.1=4 then s.wrE n s.E.length
 else s
theorem ep_setE {s:RS} {e b:Nat} {v:Int} (he:e<s.E.length) (e' j:Nat):(s.setE e b v).ep e' j=if e'=e∧j=b then v else s.ep e' j:=by
 show((s.E.set e _).getD e' (fun _=>-1)) j=_
 rw[ep_set he]
 by_cases h:e'=e
 ·subst h
  rw[if_pos rfl]
  by_cases h2:j=b
  ·simp[h2]
  ·simp[h2]
 ·rw[if_neg h,if_neg (fun g=>h g.1)];rfl
theorem ep_snoc {s:RS} {e j:Nat}:(⟨s.M,s.E++[fun _=>-1],s.W⟩:RS).ep e j=if e<s.E.length then s.ep e j else -1:=by
 show((s.E++[fun _=>-1]).getD e (fun _=>-1)) j=_
 split
 ·rename_i h
  simp only[a0A,a0F h]
  rfl
 ·rename_i h
  simp only[a0A,a0S (a2U h)]
  cases e-s.E.length<;>simp
end RS
theorem do18 (n:Nat) (hn:1≤n∧n≤1000) (s:RS) (hE:0<s.E.length∧s.E.length≤100) (hW:0≤s.W∧s.W≤10000) (k:Int) (o:Int×Int) (ho:o.1=1∨o.1=2→0≤o.2∧o.2<n):a0g Tryz.prog 106 true [s.v n,oV o,.int .i64 k] (·=(s.order n k o).v n):=by
 have hn1:((s.E.length:Int)-1).toNat=s.E.length-1:=by omega
 refine a0a Tryz.E_ok Tryz.func106 rfl (by kernel_rfl) ?_
 by_cases c1:o.1=1
 ·obtain⟨b,hb,e⟩:∃b:Nat,b<n∧o.2=b:=⟨o.2.toNat,by have:=ho (.inl c1);omega,by have:=ho (.inl c1);omega⟩
  obtain⟨o1,o2⟩:=o
  dsimp only at c1 e
  subst c1 e
  have ho':s.order n k (1,(b:Int))=s.setE (s.E.length-1) b k:=rfl
  rw[ho']
  have hep:=RS.ep_setE (s:=s) (e:=s.E.length-1) (b:=b) (v:=k) (by omega)
  refine x7 ?_
  refine a2l (copied49 n hn s (by omega)) rfl ?_
  rintro _ _ ⟨β,rfl,rfl⟩
  refine x2 (fun hc=>?_)
  (repeat' ((first|(refine And.intro ⟨by omega,rfl⟩ ?_)|(refine And.intro ⟨by omega,rfl,rfl,by dsimp only;omega⟩ ?_));refine x2 ?_))
  refine⟨_,rfl,?_⟩
  refine x7 ?_
  refine⟨by simp[RS.setE],rfl,fun e' he'=>⟨_,rfl,fun j _=>?_⟩,.inl rfl,?_⟩
  ·show a2d (e'=((s.E.length:Int)-1).toNat∧j=b) [V.int .i64 (s.ep e' j)] 0 [V.int .i64 k]=[V.int .i64 (RS.ep _ e' j)]
   rw[hep,hn1]
   by_cases h:e'=s.E.length-1∧j=b
   ·rw[a0w h,if_pos h];rfl
   ·rw[a0t h,if_neg h]
  exact xc18
 by_cases c2:o.1=2
 ·obtain⟨b,hb,e⟩:∃b:Nat,b<n∧o.2=b:=⟨o.2.toNat,by have:=ho (.inr c2);omega,by have:=ho (.inr c2);omega⟩
  obtain⟨o1,o2⟩:=o
  dsimp only at c1 c2 e
  subst c2 e
  have ho':s.order n k (2,(b:Int))=((s.setE (s.E.length-1) b k).wrE n (s.E.length-1)).wr (s.E.length-1) b:=rfl
  rw[ho']
  have hep:=RS.ep_setE (s:=s) (e:=s.E.length-1) (b:=b) (v:=k) (by omega)
  have hl2:(s.setE (s.E.length-1) b k).E.length=s.E.length:=by simp[RS.setE]
  have hwa:=writeAll50 n hn (s.setE (s.E.length-1) b k) (by omega) hW (s.E.length-1) (by omega)
  have hwl:=RS.wrE_len n (s.setE (s.E.length-1) b k) (s.E.length-1)
  have hww:=RS.wrE_W n (s.setE (s.E.length-1) b k) (s.E.length-1)
  have hin:((s.E.length-1:Nat):Int)*n≤100*1000:=by
   have:(s.E.length-1)*n≤100*1000:=a2I (by omega) hn.2
   exact_mod_cast this
  have hW2:(s.setE (s.E.length-1) b k).W=s.W:=rfl
  have hw:=write48 n hn ((s.setE (s.E.length-1) b k).wrE n (s.E.length-1)) (by omega) (by omega) (s.E.length-1) b (by omega) hb
  have hc1:((s.E.length:Int)-1)=((s.E.length-1:Nat):Int):=by omega
  rw[←hc1] at hwa hw
  refine x7 ?_
  refine a2l (copied49 n hn s (by omega)) rfl ?_
  rintro _ _ ⟨β,rfl,rfl⟩
  refine x68 (fun hc hc=>?_)
  (repeat' ((first|(refine And.intro ⟨by omega,rfl⟩ ?_)|(refine And.intro ⟨by omega,rfl,rfl,by dsimp only;omega⟩ ?_));refine x68 ?_))
  ·refine callee_frz (a0g.view hwa ?_) rfl ?_ ?_
   ·refine x7 ?_
    refine⟨fun e' he'=>?_,?_⟩
    ·show [V.sl 1 n fun j=>a2d (e'=((s.E.length:Int)-1).toNat∧j=b) [V.int .i64 (s.ep e' j)] 0 [V.int .i64 k]]=[V.sl 1 n fun j=>[V.int .i64 (RS.ep _ e' j)]]
     congr 2
     funext j
     rw[hep,hn1]
     by_cases h:e'=s.E.length-1∧j=b
     ·rw[a0w h,if_pos h];rfl
     ·rw[a0t h,if_neg h]
    exact xc18
   ·simp[app]
   ·rintro _ rfl
    refine x68 ?_
    refine a0b hw rfl ?_
    rintro _ rfl
    refine x68 ?_
    refine⟨_,rfl,?_⟩
    exact xc18
 by_cases c3:o.1=3
 ·have ho':s.order n k o=⟨s.M,s.E++[fun _=>-1],s.W⟩:=by unfold RS.order;rw[if_neg c1,if_neg c2,if_pos c3]
  rw[ho']
  have hep:=fun e j=>RS.ep_snoc (s:=s) (e:=e) (j:=j)
  refine x7 ?_
  refine a2l (copied49 n hn s (by omega)) rfl ?_
  rintro _ _ ⟨β,rfl,rfl⟩
  refine x7 (fun hc hc hc=>?_)
  refine⟨Nat,fun i=>i≤n,fun i=>n-i,fun i=>[(9,.int .i64 (i:Nat)),(8,.osl 5 i)],fun _=>[],fun i=>[.row 3 1 i (fun _=>[.int .i64 (-1)]) true],0,⟨by omega,some [some 0,some 1,some 2,some 3,some 4,none],?_⟩,?_⟩
  ·refine x7 ?_
   refine⟨fun _ _=>⟨rfl,rfl,fun _ _=>rfl⟩,?_⟩
   exact xc18
  ·intro i hi
   have hi:i≤n:=hi
   refine x78 (fun hc=>?_) (fun hc=>?_)
   ·refine⟨i+1,⟨by omega,by dsimp only;omega⟩,some [some 0,some 1,some 2,some 3,some 4,some 7],?_⟩
    refine x7 ?_
    refine⟨fun _ _=>⟨rfl,rfl,fun _ _=>rfl⟩,?_⟩
    refine x7 ?_
    refine⟨appF_one rfl,?_⟩
    exact xc18
   ·have hin:i=n:=by omega
    subst hin
    intro β1
    refine x7 ?_
    refine⟨⟨rfl,rfl,rfl,rfl,by omega,by omega⟩,fun β2=>?_⟩
    refine x7 ?_
    refine⟨_,rfl,?_⟩
    refine x7 ?_
    refine⟨by simp,rfl,fun e' _=>⟨fun j=>[.int .i64 ((⟨s.M,s.E++[fun _=>-1],s.W⟩:RS).ep e' j)],?_,fun j _=>?_⟩,.inl rfl,?_⟩
    ·show [V.sl 1 i _]=[V.sl 1 (if e'<s.E.length then i else i) _]
     rw[ite_self]
    ·dsimp only
     rw[hep]
     by_cases h:e'<s.E.length
     ·rw[if_pos h,if_pos h]
     ·rw[if_neg h,if_neg h]
    exact xc18
 by_cases c4:o.1=4
 ·have ho':s.order n k o=s.wrE n s.E.length:=by unfold RS.order;rw[if_neg c1,if_neg c2,if_neg c3,if_pos c4]
  rw[ho']
  have hwa:=writeAll50 n hn s (by omega) hW s.E.length (by omega)
  have hc1:((s.E.length:Int)-1)+1=(s.E.length:Int):=by omega
  rw[←hc1] at hwa
  refine x7 ?_
  refine a2l (copied49 n hn s (by omega)) rfl ?_
  rintro _ _ ⟨β,rfl,rfl⟩
  refine x7 (fun hc hc hc hc=>?_)
  refine callee_frz (a0g.view hwa ?_) rfl ?_ ?_
  ·exact xc18
  ·simp[app]
  ·rintro _ rfl
   refine x7 ?_
   refine⟨_,rfl,?_⟩
   exact xc18
 ·have ho':s.order n k o=s:=by unfold RS.order;rw[if_neg c1,if_neg c2,if_neg c3,if_neg c4]
  rw[ho']
  refine x7 ?_
  refine a2l (copied49 n hn s (by omega)) rfl ?_
  rintro _ _ ⟨β,rfl,rfl⟩
  refine x7 (fun hc hc hc hc=>?_)
  refine⟨_,rfl,?_⟩
  refine x7 ?_
  refine⟨fun e' _=>⟨_,rfl,fun j _=>rfl⟩,.inl rfl,?_⟩
  exact xc18
end Go.Proofs.Ca
namespace Go.Proofs.Ca
open Go Go.Sx
set_option maxRecDepth 100000
set_option maxHeartbeats 40000000
theorem within47 (n x y:Int):a0g Tryz.prog 77 false [.int .i64 n,.int .i64 x,.int .i64 y] (·=.prop (x≤n∧n≤y) inferInstance):=by
 refine a0a Tryz.E_ok Tryz.func77 rfl (by kernel_rfl) ?_
 refine x1 ?_;(all_goals(try(refine⟨_,rfl,?_⟩;exact xc0)))
theorem puts35 (o:Int×Int):a0g Tryz.prog 78 false [oV o] (·=.prop (o.1=1∨o.1=2) inferInstance):=by
 refine a0a Tryz.E_ok Tryz.func78 rfl (by kernel_rfl) ?_
 refine x1 ?_;(all_goals(try(refine⟨_,rfl,?_⟩;exact xc0)))
end Go.Proofs.Ca
namespace Go.Proofs.Ca
open Go Go.Sx
set_option maxRecDepth 100000
set_option maxHeartbeats 40000000
def noRow (n:Nat) (f:Nat→Int):Prop:=∀b,b<n→f b=-1
def RS.IsFirst (n:Nat) (s:RS) (e:Nat):Prop:=e<s.E.length∧¬noRow n (s.ep e)∧∀i,i<e→noRow n (s.ep i)
def cntF (f:Nat→Int):Nat→Int
 |0=>0
 |b+1=>cntF f b+if f b=-1 then 0 else 1
end Go.Proofs.Ca
namespace Go.Proofs.Ca
open Go Go.Sx
set_option maxRecDepth 100000
set_option maxHeartbeats 40000000
inductive DrR (n:Nat) (s:RS) (z:Int):V→Prop
 |yes (e:Nat):0≤z→z<n→s.IsFirst n e→s.ep e z.toNat≠-1→DrR n s z (.tup [(s.wr e z.toNat).v n,.prop True inferInstance])
 |no:(0≤z→z<n→∀e,s.IsFirst n e→s.ep e z.toNat=-1)→DrR n s z (.tup [s.v n,.prop False inferInstance])
theorem IsFirst.uniq {n:Nat} {s:RS} {e e':Nat} (h:s.IsFirst n e) (h':s.IsFirst n e'):e=e':=by
 rcases a3G e e' with g|g|g
 ·exact absurd (h'.2.2 e g) h.2.1
 ·exact g
 ·exact absurd (h.2.2 e' g) h'.2.1
end Go.Proofs.Ca
namespace Go.Proofs.Ca
open Go Go.Sx
set_option maxRecDepth 100000
set_option maxHeartbeats 40000000
def canR (n:Nat) (s:RS) (z:Int):Prop:=0≤z∧z<n∧∃e,s.IsFirst n e∧s.ep e z.toNat≠-1
open Classical in
noncomputable def drS (n:Nat) (s:RS) (z:Int):RS:=if h:canR n s z then s.wr (Classical.choose h.2.2) z.toNat else s
theorem drS_yes {n:Nat} {s:RS} {z:Int} {e:Nat} (h:0≤z∧z<n) (he:s.IsFirst n e) (hne:s.ep e z.toNat≠-1):drS n s z=s.wr e z.toNat∧canR n s z:=by
 have hc:canR n s z:=⟨h.1,h.2,e,he,hne⟩
 unfold drS
 rw[dif_pos hc,IsFirst.uniq (Classical.choose_spec hc.2.2).1 he]
 exact⟨rfl,hc⟩
theorem drS_no {n:Nat} {s:RS} {z:Int} (h:¬canR n s z):drS n s z=s:=dif_neg h
end Go.Proofs.Ca
namespace Go.Proofs.Ca
open Go Go.Sx
set_option maxRecDepth 100000
set_option maxHeartbeats 40000000
theorem Cache.at {x:Cache} {i:Nat} (h:i<x.l.length):x.l.getD i (0,0)∈x.l:=by
 have e:x.l.getD i (0,0)=x.l[i]:=by simp[a0A,h]
 rw[e]
 exact a0N h
theorem Check37 (x:Cache) (hl:x.l.length≤1000000):a0g Tryz.prog 71 false [x.v] (·=.int .i64 x.chk):=by
 refine a0a Tryz.E_ok Tryz.func71 rfl (by kernel_rfl) ?_
 unfold Cache.chk
 refine x1 ?_;(repeat' ((first|(refine a0b (within47 _ _ _) rfl ?_;rintro _ rfl)|(refine a0d (within47 _ _ _) rfl ?_)|(refine a0h (fun _=>within47 _ _ _) rfl ?_));refine x3 (fun hc=>?_) (fun hc=>?_)))
 ·rw[if_neg (fun h=>by have:=h.n;have:=h.len;omega)]
  refine⟨_,rfl,?_⟩
  exact xc0
 ·have hn:(1≤x.n∧x.n≤6)∧(x.l.length:Int)≤16:=by omega
  refine⟨Nat,fun i=>i≤x.l.length∧∀j,j<i→Cache.OkO x.n (x.l.getD j (0,0)),fun i=>x.l.length-i,fun i=>[(3,.int .i64 (i:Nat)),(10,.any)],fun _=>[],fun _=>[],0,⟨⟨by omega,fun j hj=>by omega⟩,some [some 0],?_⟩,?_⟩
  ·exact xc0
  ·rintro i ⟨h1,h2⟩
   have hti:(i:Int).toNat=i:=a0E i
   have hbad:∀(hi:i<x.l.length),¬Cache.OkO x.n (x.l.getD i (0,0))→¬x.Ok:=fun hi h g=>h (g.ord _ (Cache.at hi))
   (repeat' ((conv=>whnf);first|(with_reducible first|apply spl|apply spl'|refine iJ ?_)<;>intro hc<;>try(exfalso;omega)|refine vcq ?_|fail));all_goals((try conv=>whnf);try exact trivial);(repeat' ((first|(refine a0b (within47 _ _ _) rfl ?_;rintro _ rfl)|(refine a0d (within47 _ _ _) rfl ?_)|(refine a0h (fun _=>within47 _ _ _) rfl ?_)|(refine a0b (puts35 _) rfl ?_;rintro _ rfl)|(refine a0d (puts35 _) rfl ?_)|(refine a0h (fun _=>puts35 _) rfl ?_));refine x3 (fun hc=>?_) (fun hc=>?_)))
   ·have hi:i<x.l.length:=by omega
    rw[hti] at *
    rw[if_neg (hbad hi (fun g=>by unfold Cache.OkO at g;omega))]
    refine⟨_,rfl,?_⟩
    exact xc0
   ·have hi:i<x.l.length:=by omega
    rw[hti] at *
    refine⟨i+1,⟨⟨by omega,fun j hj=>?_⟩,by dsimp only;omega⟩,some [some 0],?_⟩
    ·rcases a0I (show j≤i by omega) with g|rfl
     ·exact h2 j g
     ·unfold Cache.OkO
      omega
    ·exact xc0
   ·have hi:i<x.l.length:=by omega
    rw[hti] at *
    rw[if_neg (hbad hi (fun g=>by unfold Cache.OkO at g;omega))]
    refine⟨_,rfl,?_⟩
    exact xc0
   ·have hi:i<x.l.length:=by omega
    rw[hti] at *
    rw[if_neg (hbad hi (fun g=>by unfold Cache.OkO at g;omega))]
    refine⟨_,rfl,?_⟩
    exact xc0
   ·have hii:i=x.l.length:=by omega
    subst hii
    have hok:x.Ok:=by
     refine⟨hn.1,by omega,fun o ho=>?_⟩
     obtain⟨q,hq,rfl⟩:=a1A ho
     have e:x.l.getD q (0,0)=x.l[q]:=by simp[a0A,hq]
     rw[←e]
     exact h2 q hq
    rw[if_pos hok]
    refine⟨_,rfl,?_⟩
    exact xc0
end Go.Proofs.Ca
namespace Go.Proofs.Ca
open Go Go.Sx
set_option maxRecDepth 100000
set_option maxHeartbeats 4000000
abbrev Wt:=Nat×Nat×Int
def entB (f:Nat→Int) (e:Nat):Nat→List Wt
 |0=>[]
 |b+1=>entB f e b++(if f b=-1 then [] else [(e,b,f b)])
def entE (n:Nat) (F:Nat→Nat→Int):Nat→List Wt
 |0=>[]
 |e+1=>entE n F e++entB (F e) e n
def RS.ents (n:Nat) (s:RS):List Wt:=entE n s.ep s.E.length
def ltK (w w':Wt):Prop:=w.1<w'.1∨w.1=w'.1∧w.2.1<w'.2.1
theorem ltK_irrefl (w:Wt):¬ltK w w:=by unfold ltK;omega
theorem ltK_trans {a b c:Wt} (h:ltK a b) (k:ltK b c):ltK a c:=by unfold ltK at *;omega
theorem ltK_asymm {a b:Wt} (h:ltK a b):¬ltK b a:=fun k=>ltK_irrefl a (ltK_trans h k)
theorem mem_entB {f:Nat→Int} {e:Nat} {w:Wt}:∀{k:Nat},w∈entB f e k↔w.1=e∧w.2.1<k∧f w.2.1≠-1∧w.2.2=f w.2.1
 |0=>by simp[entB]
 |k+1=>by
  unfold entB
  rw[a0U,mem_entB]
  by_cases h:f k=-1
  ·rw[if_pos h]
   simp only[List.not_mem_nil,or_false]
   constructor
   ·rintro⟨h1,h2,h3,h4⟩;exact⟨h1,by omega,h3,h4⟩
   ·rintro⟨h1,h2,h3,h4⟩
    refine⟨h1,?_,h3,h4⟩
    rcases a0I (a2C h2) with g|g
    ·exact g
    ·rw[g] at h3;exact absurd h h3
  ·rw[if_neg h,a1B]
   constructor
   ·rintro(⟨h1,h2,h3,h4⟩|rfl)
    ·exact⟨h1,by omega,h3,h4⟩
    ·exact⟨rfl,Nat.lt_succ_self k,h,rfl⟩
   ·rintro⟨h1,h2,h3,h4⟩
    rcases a0I (a2C h2) with g|g
    ·exact .inl ⟨h1,g,h3,h4⟩
    ·right
     obtain⟨a,b,c⟩:=w
     simp only at h1 g h4
     subst h1 g
     rw[h4]
theorem mem_entE {n:Nat} {F:Nat→Nat→Int} {w:Wt}:∀{m:Nat},w∈entE n F m↔w.1<m∧w.2.1<n∧F w.1 w.2.1≠-1∧w.2.2=F w.1 w.2.1
 |0=>by simp[entE]
 |m+1=>by
  unfold entE
  rw[a0U,mem_entE,mem_entB]
  constructor
  ·rintro(⟨h1,h2⟩|⟨h1,h2⟩)
   ·exact⟨by omega,h2⟩
   ·rw[h1];exact⟨by omega,h2⟩
  ·rintro⟨h1,h2⟩
   rcases a0I (a2C h1) with g|g
   ·exact .inl ⟨g,h2⟩
   ·rw[g] at h2;exact .inr ⟨g,h2⟩
theorem entB_sorted {f:Nat→Int} {e:Nat}:∀(k:Nat),(entB f e k).Pairwise ltK
 |0=>.nil
 |k+1=>by
  unfold entB
  rw[a2E]
  refine⟨entB_sorted k,by split<;>simp,fun w hw w' hw'=>?_⟩
  split at hw'
  ·simp at hw'
  ·rw[a1B] at hw'
   subst hw'
   have:=mem_entB.1 hw
   unfold ltK
   dsimp only
   omega
theorem entE_sorted {n:Nat} {F:Nat→Nat→Int}:∀(m:Nat),(entE n F m).Pairwise ltK
 |0=>.nil
 |m+1=>by
  unfold entE
  rw[a2E]
  refine⟨entE_sorted m,entB_sorted n,fun w hw w' hw'=>?_⟩
  have:=mem_entE.1 hw
  have:=mem_entB.1 hw'
  unfold ltK
  omega
theorem sorted_ext:∀{l m:List Wt},l.Pairwise ltK→m.Pairwise ltK→(∀w,w∈l↔w∈m)→l=m
 |[],[],_,_,_=>rfl
 |[],y :: m,_,_,h=>absurd ((h y).2 a1V) List.not_mem_nil
 |x :: l,[],_,_,h=>absurd ((h x).1 a1V) List.not_mem_nil
 |x :: l,y :: m,hl,hm,h=>by
  have p1:=a3D.1 hl
  have p2:=a3D.1 hm
  have e:x=y:=by
   rcases a0Z.1 ((h x).1 a1V) with g|g
   ·exact g
   ·rcases a0Z.1 ((h y).2 a1V) with g2|g2
    ·exact g2.symm
    ·exact absurd (p2.1 x g) (ltK_asymm (p1.1 y g2))
  subst e
  rw[sorted_ext p1.2 p2.2 fun w=>?_]
  constructor
  ·intro hw
   rcases a0Z.1 ((h w).1 (a2K _ hw)) with g|g
   ·subst g;exact absurd (p1.1 w hw) (ltK_irrefl w)
   ·exact g
  ·intro hw
   rcases a0Z.1 ((h w).2 (a2K _ hw)) with g|g
   ·subst g;exact absurd (p2.1 w hw) (ltK_irrefl w)
   ·exact g
def putM (M:Nat→Int) (w:Wt):Nat→Int:=fun b=>if b=w.2.1 then w.2.2 else M b
namespace RS
theorem ents_sorted (n:Nat) (s:RS):(s.ents n).Pairwise ltK:=entE_sorted _
theorem mem_ents {n:Nat} {s:RS} {w:Wt}:w∈s.ents n↔w.1<s.E.length∧w.2.1<n∧s.ep w.1 w.2.1≠-1∧w.2.2=s.ep w.1 w.2.1:=mem_entE
theorem ents_len (n:Nat) (s:RS):(s.ents n).length≤s.E.length*n:=by
 have hB:∀(f:Nat→Int) e k,(entB f e k).length≤k:=fun f e k=>by
  induction k with
  |zero=>exact a0K _
  |succ k ih=>
   unfold entB
   rw[a0M]
   split
   ·exact Nat.le_succ_of_le ih
   ·exact Nat.succ_le_succ ih
 have hE:∀m,(entE n s.ep m).length≤m*n:=fun m=>by
  induction m with
  |zero=>simp[entE]
  |succ m ih=>
   unfold entE
   rw[a0M,a0W]
   have:=hB (s.ep m) m n
   omega
 exact hE _
theorem wrB_at (s:RS) (e:Nat) (he:e<s.E.length):∀k,(∀e' j,(s.wrB e k).ep e' j=if e'=e∧j<k then -1 else s.ep e' j)∧(s.wrB e k).M=(entB (s.ep e) e k).foldl putM s.M
 |0=>⟨fun e' j=>by rw[if_neg (by omega)];rfl,rfl⟩
 |k+1=>by
  obtain⟨h1,h2⟩:=wrB_at s e he k
  have hl:=wrB_len s e k
  have hk:(s.wrB e k).ep e k=s.ep e k:=by rw[h1,if_neg (by omega)]
  unfold wrB entB
  by_cases h:s.ep e k=-1
  ·rw[wr_neg (hk.trans h),if_pos h,a3V]
   refine⟨fun e' j=>?_,h2⟩
   rw[h1]
   by_cases g:e'=e∧j<k
   ·rw[if_pos g,if_pos ⟨g.1,by omega⟩]
   ·rw[if_neg g]
    by_cases g2:e'=e∧j<k+1
    ·have ej:j=k:=by omega
     rw[if_pos g2,g2.1,ej,h]
    ·rw[if_neg g2]
  ·have hne:(s.wrB e k).ep e k≠-1:=by rw[hk];exact h
   rw[wr_pos hne,if_neg h,a3A]
   refine⟨fun e' j=>?_,?_⟩
   ·rw[ep_wr (by omega),h1]
    by_cases g:e'=e∧j=k
    ·rw[if_pos g,if_pos ⟨g.1,by omega⟩]
    ·rw[if_neg g]
     by_cases g2:e'=e∧j<k
     ·rw[if_pos g2,if_pos ⟨g2.1,by omega⟩]
     ·rw[if_neg g2,if_neg (by omega)]
   ·show(fun b'=>if b'=k then(s.wrB e k).ep e k else(s.wrB e k).M b')=putM _ _
    rw[hk,h2]
    rfl
theorem wrE_at (n:Nat) (s:RS):∀e,e≤s.E.length→(∀e' j,(s.wrE n e).ep e' j=if e'<e∧j<n then -1 else s.ep e' j)∧(s.wrE n e).M=(entE n s.ep e).foldl putM s.M
 |0,_=>⟨fun e' j=>by rw[if_neg (by omega)];rfl,rfl⟩
 |e+1,he=>by
  obtain⟨h1,h2⟩:=wrE_at n s e (by omega)
  have hl:=wrE_len n s e
  obtain⟨g1,g2⟩:=wrB_at (s.wrE n e) e (by omega) n
  unfold wrE entE
  have hee:(s.wrE n e).ep e=s.ep e:=funext fun j=>by rw[h1,if_neg (by omega)]
  refine⟨fun e' j=>?_,?_⟩
  ·rw[g1,h1]
   by_cases g:e'=e∧j<n
   ·rw[if_pos g,if_pos (by omega)]
   ·rw[if_neg g]
    by_cases g2:e'<e∧j<n
    ·rw[if_pos g2,if_pos (by omega)]
    ·rw[if_neg g2,if_neg (by omega)]
  ·rw[g2,hee,h2,a3A]
theorem ents_wrE {n:Nat} {s:RS} {e:Nat} (he:e≤s.E.length):(s.wrE n e).ents n=(s.ents n).filter (fun w=>!decide (w.1<e))∧(s.wrE n e).M=((s.ents n).filter (fun w=>decide (w.1<e))).foldl putM s.M:=by
 obtain⟨h1,h2⟩:=wrE_at n s e he
 have hl:=wrE_len n s e
 refine⟨sorted_ext (ents_sorted _ _) ((ents_sorted _ _).filter _) fun w=>?_,?_⟩
 ·rw[a3J,mem_ents,mem_ents,hl,h1]
  by_cases g:w.1<e∧w.2.1<n
  ·rw[if_pos g]
   simp[g.1]
  ·rw[if_neg g]
   simp only[a3P,decide_eq_false_iff_not]
   constructor
   ·rintro⟨k1,k2,k3⟩;exact⟨⟨k1,k2,k3⟩,by omega⟩
   ·rintro⟨⟨k1,k2,k3⟩,_⟩;exact⟨k1,k2,k3⟩
 ·rw[h2]
  congr 1
  refine sorted_ext (entE_sorted _) ((ents_sorted _ _).filter _) fun w=>?_
  rw[a3J,mem_ents,mem_entE]
  simp only[decide_eq_true_eq]
  constructor
  ·rintro⟨k1,k2⟩;exact⟨⟨by omega,k2⟩,k1⟩
  ·rintro⟨⟨_,k2⟩,k1⟩;exact⟨k1,k2⟩
theorem ents_put {n:Nat} {s:RS} {e b:Nat} {k:Int} (he:e<s.E.length) (hb:b<n) (hk:k≠-1) {w:Wt}:w∈(s.setE e b k).ents n↔(w∈s.ents n∧¬(w.1=e∧w.2.1=b))∨w=(e,b,k):=by
 have hl:(s.setE e b k).E.length=s.E.length:=by simp[setE]
 rw[mem_ents,mem_ents,hl,ep_setE he]
 by_cases g:w.1=e∧w.2.1=b
 ·rw[if_pos g]
  obtain⟨a,c,d⟩:=w
  simp only at g
  obtain⟨rfl,rfl⟩:=g
  simp only[Prod.mk.injEq,true_and]
  constructor
  ·rintro⟨_,_,_,k4⟩;exact .inr k4
  ·rintro(⟨_,k4⟩|rfl)
   ·exact absurd trivial k4
   ·exact⟨he,hb,hk,rfl⟩
 ·rw[if_neg g]
  constructor
  ·intro k1;exact .inl ⟨k1,g⟩
  ·rintro(⟨k1,_⟩|rfl)
   ·exact k1
   ·exact absurd ⟨rfl,rfl⟩ g
theorem ents_snoc {n:Nat} {s:RS}:(⟨s.M,s.E++[fun _=>-1],s.W⟩:RS).ents n=s.ents n:=by
 refine sorted_ext (ents_sorted _ _) (ents_sorted _ _) fun w=>?_
 rw[mem_ents,mem_ents,ep_snoc]
 have hl:(⟨s.M,s.E++[fun _=>-1],s.W⟩:RS).E.length=s.E.length+1:=by simp
 rw[hl]
 by_cases g:w.1<s.E.length
 ·rw[if_pos g]
  constructor
  ·rintro⟨_,k⟩;exact⟨g,k⟩
  ·rintro⟨_,k⟩;exact⟨by omega,k⟩
 ·rw[if_neg g]
  constructor
  ·rintro⟨_,_,k,_⟩;exact absurd rfl k
  ·rintro⟨k,_⟩;exact absurd k g
theorem ents_force {n:Nat} {s:RS} {b:Nat} (he:0<s.E.length) (hb:b<n) (hk:s.ep (s.E.length-1) b≠-1) :
  ((s.wrE n (s.E.length-1)).wr (s.E.length-1) b).ents n=(s.ents n).filter (fun w=>!decide (w.1<s.E.length-1∨w.2.1=b))∧
  ((s.wrE n (s.E.length-1)).wr (s.E.length-1) b).M=((s.ents n).filter (fun w=>decide (w.1<s.E.length-1∨w.2.1=b))).foldl putM s.M:=by
 obtain⟨h1,h2⟩:=wrE_at n s (s.E.length-1) (by omega)
 have hl:=wrE_len n s (s.E.length-1)
 have hne:(s.wrE n (s.E.length-1)).ep (s.E.length-1) b=s.ep (s.E.length-1) b:=by rw[h1,if_neg (by omega)]
 have hlw:((s.wrE n (s.E.length-1)).wr (s.E.length-1) b).E.length=s.E.length:=by rw[wr_len,hl]
 have hwp:=wr_pos (s:=s.wrE n (s.E.length-1)) (e:=s.E.length-1) (b:=b) (by rw[hne];exact hk)
 have hep:∀e' j,((s.wrE n (s.E.length-1)).wr (s.E.length-1) b).ep e' j=if e'=s.E.length-1∧j=b then -1 else if e'<s.E.length-1∧j<n then -1 else s.ep e' j:=fun e' j=>by
  rw[hwp,ep_wr (by omega),h1]
 refine⟨sorted_ext (ents_sorted _ _) ((ents_sorted _ _).filter _) fun w=>?_,?_⟩
 ·rw[a3J,mem_ents,mem_ents,hlw,hep]
  simp only[a3P,decide_eq_false_iff_not]
  by_cases g:w.1=s.E.length-1∧w.2.1=b
  ·rw[if_pos g]
   constructor
   ·rintro⟨_,_,k,_⟩;exact absurd rfl k
   ·rintro⟨_,k⟩;exact absurd (.inr g.2) k
  ·rw[if_neg g]
   by_cases g2:w.1<s.E.length-1∧w.2.1<n
   ·rw[if_pos g2]
    constructor
    ·rintro⟨_,_,k,_⟩;exact absurd rfl k
    ·rintro⟨_,k⟩;exact absurd (.inl g2.1) k
   ·rw[if_neg g2]
    constructor
    ·rintro⟨k1,k2,k3⟩
     refine⟨⟨k1,k2,k3⟩,fun k4=>?_⟩
     rcases k4 with k4|k4
     ·exact g2 ⟨k4,k2⟩
     ·by_cases k5:w.1<s.E.length-1
      ·exact g2 ⟨k5,k2⟩
      ·exact g ⟨by omega,k4⟩
    ·rintro⟨⟨k1,k2,k3⟩,_⟩;exact⟨k1,k2,k3⟩
 ·rw[hwp]
  show(fun b'=>if b'=b then(s.wrE n (s.E.length-1)).ep (s.E.length-1) b else(s.wrE n (s.E.length-1)).M b')=_
  rw[hne,h2]
  have e:(s.ents n).filter (fun w=>decide (w.1<s.E.length-1∨w.2.1=b))=entE n s.ep (s.E.length-1)++[(s.E.length-1,b,s.ep (s.E.length-1) b)]:=by
   refine sorted_ext ((ents_sorted _ _).filter _) ?_ fun w=>?_
   ·rw[a2E]
    refine⟨entE_sorted _,by simp,fun w hw w' hw'=>?_⟩
    rw[a1B] at hw'
    subst hw'
    exact .inl (mem_entE.1 hw).1
   ·rw[a3J,a0U,a1B,mem_ents,mem_entE]
    simp only[decide_eq_true_eq]
    constructor
    ·rintro⟨⟨k1,k2,k3,k4⟩,k5⟩
     by_cases k6:w.1<s.E.length-1
     ·exact .inl ⟨k6,k2,k3,k4⟩
     ·right
      have k7:w.1=s.E.length-1:=by omega
      have k8:w.2.1=b:=k5.resolve_left k6
      obtain⟨x,y,z⟩:=w
      simp only at k4 k7 k8
      subst k7 k8
      rw[k4]
    ·rintro(⟨k1,k2,k3,k4⟩|rfl)
     ·exact⟨⟨by omega,k2,k3,k4⟩,.inl k1⟩
     ·exact⟨⟨by dsimp only;omega,hb,hk,rfl⟩,.inr rfl⟩
  rw[e,a3A]
  rfl
def run (n:Nat) (l:List (Int×Int)):Nat→RS
 |0=>RS.begin
 |k+1=>(run n l k).order n k (l.getD k (0,0))
theorem order_len (n:Nat) (s:RS) (k:Int) (o:Int×Int):s.E.length≤(s.order n k o).E.length∧(s.order n k o).E.length≤s.E.length+1:=by
 unfold order
 split
 ·simp[setE]
 ·split
  ·rw[wr_len,wrE_len];simp[setE]
  ·split
   ·simp
   ·split
    ·rw[wrE_len];omega
    ·omega
theorem run_len (n:Nat) (l:List (Int×Int)):∀k,0<(run n l k).E.length∧(run n l k).E.length≤k+1
 |0=>⟨by show 0<1;omega,by show 1≤1;omega⟩
 |k+1=>by
  have h:=run_len n l k
  have g:=order_len n (run n l k) k (l.getD k (0,0))
  show 0<((run n l k).order n k (l.getD k (0,0))).E.length∧((run n l k).order n k (l.getD k (0,0))).E.length≤_
  omega
theorem order_ents {n:Nat} {s:RS} (he:0<s.E.length) {k:Nat} {o:Int×Int} (ho:o.1=1∨o.1=2→0≤o.2∧o.2<n) :
  (o.1=1→(s.order n k o)=s.setE (s.E.length-1) o.2.toNat k)∧
  (o.1=2→(s.order n k o).ents n=((s.setE (s.E.length-1) o.2.toNat k).ents n).filter (fun w=>!decide (w.1<s.E.length-1∨w.2.1=o.2.toNat))∧(s.order n k o).M=(((s.setE (s.E.length-1) o.2.toNat k).ents n).filter (fun w=>decide (w.1<s.E.length-1∨w.2.1=o.2.toNat))).foldl putM s.M∧(s.order n k o).E.length=s.E.length)∧
  (o.1=3→(s.order n k o).ents n=s.ents n∧(s.order n k o).M=s.M∧(s.order n k o).E.length=s.E.length+1)∧
  (o.1=4→(s.order n k o).ents n=[]∧(s.order n k o).M=(s.ents n).foldl putM s.M∧(s.order n k o).E.length=s.E.length):=by
 refine⟨fun h=>?_,fun h=>?_,fun h=>?_,fun h=>?_⟩
 ·unfold order;rw[if_pos h]
 ·have hb:=ho (.inr h)
  have hl:(s.setE (s.E.length-1) o.2.toNat k).E.length=s.E.length:=by simp[setE]
  have h2:¬o.1=1:=by omega
  have hf:=ents_force (n:=n) (s:=s.setE (s.E.length-1) o.2.toNat k) (b:=o.2.toNat) (by omega) (by omega) (by rw[hl,ep_setE (by omega),if_pos ⟨rfl,rfl⟩];omega)
  rw[hl] at hf
  unfold order
  rw[if_neg h2,if_pos h]
  exact⟨hf.1,hf.2,by rw[wr_len,wrE_len,hl]⟩
 ·unfold order
  rw[if_neg (by omega),if_neg (by omega),if_pos h]
  exact⟨ents_snoc,rfl,by simp⟩
 ·unfold order
  rw[if_neg (by omega),if_neg (by omega),if_neg (by omega),if_pos h]
  obtain⟨h1,h2⟩:=ents_wrE (n:=n) (s:=s) (a0K _)
  have hall:∀w∈s.ents n,w.1<s.E.length:=fun w hw=>(mem_ents.1 hw).1
  refine⟨?_,?_,wrE_len _ _ _⟩
  ·rw[h1,a3O]
   intro w hw
   simp[hall w hw]
  ·rw[h2,a4B.2 fun w hw=>by simp[hall w hw]]
end RS
theorem put_list {n:Nat} {s:RS} {b:Nat} {k:Int} (he:0<s.E.length) (hb:b<n) (hk:k≠-1) {a c:List Wt} {m:List Wt} (hW:s.ents n=a++m++c) (ha:∀w∈a,ltK w (s.E.length-1,b,k)) (hm:∀w∈m,w.1=s.E.length-1∧w.2.1=b) (hc:∀w∈c,ltK (s.E.length-1,b,k) w) :
  (s.setE (s.E.length-1) b k).ents n=a++(s.E.length-1,b,k) :: c:=by
 have hs:=RS.ents_sorted n s
 rw[hW,a2E,a2E] at hs
 obtain⟨⟨s1,s2,s3⟩,s4,s5⟩:=hs
 refine sorted_ext (RS.ents_sorted _ _) ?_ fun w=>?_
 ·rw[a2E,a3D]
  refine⟨s1,⟨hc,s4⟩,fun x hx y hy=>?_⟩
  rcases a0Z.1 hy with g|g
  ·subst g;exact ha x hx
  ·exact s5 x (a2D _ hx) y g
 ·rw[RS.ents_put (by omega) hb hk,hW,a0U,a0U,a0U,a0Z]
  constructor
  ·rintro(⟨(h1|h1)|h1,h2⟩|h1)
   ·exact .inl h1
   ·exact absurd (hm w h1) h2
   ·exact .inr (.inr h1)
   ·exact .inr (.inl h1)
  ·rintro(h1|h1|h1)
   ·exact .inl ⟨.inl (.inl h1),fun g=>by have:=ha w h1;unfold ltK at this;dsimp only at this;omega⟩
   ·exact .inr h1
   ·exact .inl ⟨.inr h1,fun g=>by have:=hc w h1;unfold ltK at this;dsimp only at this;omega⟩
end Go.Proofs.Ca
