/- Own work: texts of the proof of a law (HrA, Gr1, Gc1, Gr2, Gc7, Gr3, Gr4, Gr5, Gc2, SyCfz, Gc3, Gc4, Gc5, Gc6). No condition. -/
import Derived.Test.YtbdcjkcmpcdipaaGreatPart30
set_option linter.unusedVariables false
set_option linter.unusedSimpArgs false
namespace Go.Proofs
open Go Go.Sx
set_option maxRecDepth 100000
set_option maxHeartbeats 4000000
namespace Ho
def iL (l:List Nat):List Int:=l.map Int.ofNat
structure RT where
 d:List Nat
 O:List Nat
 K:List Int
def RT.c (h:Hist) (r:RT):List V:=[.sl 1 r.d.length (a0u intC 0 (iL r.d)),.int .i64 h.n,.sl 2 (h.cache r.O).l.length (a0u oC (0,0) (h.cache r.O).l),.sl 1 r.O.length (a0u intC 0 (iL r.O)),.sl 1 r.K.length (a0u intC 0 r.K)]
def RT.v (h:Hist) (r:RT):V:=.agg (r.c h)
def bitsL (d:List Nat):Nat:=d.foldl (fun D i=>D ||| 1 <<< i) 0
theorem bitsF (d:List Nat) (j:Nat):∀D:Nat,(d.foldl (fun D i=>D ||| 1 <<< i) D).testBit j=(D.testBit j || decide (j∈d)):=by
 induction d with
 |nil=>intro D;simp
 |cons a d ih=>
  intro D
  rw[List.foldl_cons,ih,Hist.bit_or]
  by_cases e:j=a
  ·subst e;simp
  ·have e':a≠j:=fun q=>e q.symm
   simp[e,e']
theorem bitsL_bit (d:List Nat) (j:Nat):(bitsL d).testBit j=decide (j∈d):=by
 unfold bitsL
 rw[bitsF]
 simp
theorem bitsL_yes {d:List Nat} {j:Nat}:(bitsL d).testBit j=true↔j∈d:=by rw[bitsL_bit];simp
theorem bitsL_no {d:List Nat} {j:Nat}:(bitsL d).testBit j=false↔j∉d:=by rw[bitsL_bit];simp
theorem bitsL_snoc (d:List Nat) (n:Nat):bitsL (d++[n])=bitsL d ||| 1 <<< n:=by
 unfold bitsL
 rw[List.foldl_append]
 rfl
namespace RT
def st (r:RT):St:=⟨bitsL r.d,r.O,r.K⟩
def begin (h:Hist):RT:=⟨[],[],List.replicate h.nn 0⟩
def doO (h:Hist) (r:RT) (n:Nat):RT:=⟨r.d++[n],if(h.at' n).isO then r.O++[n] else r.O,r.K⟩
def kf (h:Hist) (r:RT) (f:Nat→Int) (b:Nat):Int:=if f b=-2 then -1 else if 0≤f b then(h.at' (r.O.getD (f b).toNat 0)).v else r.K.getD b 0
def fall (h:Hist) (r:RT) (n:Nat) (f:Nat→Int):RT:=⟨r.d++[n],[],(List.range h.nn).map (r.kf h f)⟩
end RT
def MayD (h:Hist) (d:List Nat) (n:Nat):Prop:=n∉d∧∀j,j<h.l.length→(j∉d→(h.at' j).t≠-1→¬(h.at' j).t<(h.at' n).f)∧(j∈d→(h.at' j).k=9→¬(h.at' n).f<(h.at' j).f)
def WholeD (h:Hist) (d:List Nat):Prop:=∀i,i<h.l.length→(h.at' i).t≠-1→i∈d
variable {h:Hist}
theorem mayD_iff {d:List Nat} {n:Nat}:MayD h d n↔h.May (bitsL d) n:=by
 unfold MayD Hist.May
 rw[bitsL_no]
 refine and_congr a1R ⟨fun q j hj=>?_,fun q j hj=>?_⟩
 ·rw[bitsL_no,bitsL_yes];exact q j hj
 ·have:=q j hj;rwa [bitsL_no,bitsL_yes] at this
theorem do_st (r:RT) (n:Nat):(r.doO h n).st=h.doO r.st n:=by
 unfold RT.doO RT.st Hist.doO
 rw[bitsL_snoc]
theorem kf_keep (r:RT) {f:Nat→Int} {b:Nat} (hf:-2≤f b):r.kf h f b=h.keep1 (r.K.getD b 0) (num r.O (f b)):=by
 unfold RT.kf Hist.keep1 num
 by_cases e1:f b=-2
 ·rw[if_pos e1,e1];rfl
 ·rw[if_neg e1]
  by_cases e2:f b=-1
  ·rw[e2];rfl
  ·rw[if_pos (by omega),if_neg (show ¬f b<0 by omega),if_neg (by omega),if_neg (by omega)]
   rfl
theorem fall_st (r:RT) (n:Nat) {f:Nat→Int} (hf:∀b,b<h.nn→-2≤f b):(r.fall h n f).st=h.fall r.st n ((List.range h.nn).map fun b=>num r.O (f b)):=by
 unfold RT.fall RT.st Hist.fall Hist.keep
 rw[bitsL_snoc]
 congr 1
 apply List.map_congr_left
 intro b hb
 rw[a1D] at hb
 rw[kf_keep r (hf b hb)]
 congr 1
 simp[a0A,hb]
structure RG (h:Hist) (r:RT):Prop where
 rea:h.Rea r.st
 nd:r.d.Nodup
 lt:∀i∈r.d,i<h.l.length
namespace RG
theorem begin (h:Hist):RG h (RT.begin h):=⟨.begin,List.nodup_nil,fun _ hi=>by cases hi⟩
theorem step {r r':RT} (g:RG h r) {i:Nat} (hi:i<h.l.length) (hs:StepI h r.st i r'.st) (hd:r'.d=r.d++[i]):RG h r':=by
 refine⟨.step g.rea (step_iff.2 ⟨i,hi,hs⟩),?_,fun j hj=>?_⟩
 ·rw[hd,a2N]
  refine⟨g.nd,by simp,?_⟩
  rintro x hx y hy rfl
  rw[a0L] at hy
  subst hy
  exact(mayD_iff.2 hs.1).1 hx
 ·rw[hd,a0M,a0L] at hj
  rcases hj with hj|rfl
  ·exact g.lt j hj
  ·exact hi
end RG
theorem Hist.Rea.sr (g:h.Ok) {s:St} (r:h.Rea s):∃x:SR,x.Good h∧x.st h=s:=by
 induction r with
 |begin=>exact⟨.root,trivial,rfl⟩
 |step r hs ih=>
  obtain⟨x,hx,rfl⟩:=ih
  have hI:=Hist.Rea.inv g r
  cases hs with
  |cmd hi hm hk hf=>exact⟨.node _ x _ none,⟨hx,hi,hm,.inl ⟨hk,rfl,hf,rfl⟩⟩,rfl⟩
  |fall hi hm hk him=>
   obtain⟨c,hc,rfl⟩:=(img_iff (g.cache hI) _).1 him
   exact⟨.node _ x _ (some c),⟨hx,hi,hm,.inr ⟨hk,c,rfl,hc,rfl⟩⟩,rfl⟩
open Classical in
noncomputable def RT.sr (h:Hist) (r:RT):SR:=if e:∃x:SR,x.Good h∧x.st h=r.st then e.choose else .root
theorem RG.sr (gh:h.Ok) {r:RT} (g:RG h r):(r.sr h).Good h∧(r.sr h).st h=r.st:=by
 have e:=Hist.Rea.sr gh g.rea
 unfold RT.sr
 rw[dif_pos e]
 exact e.choose_spec
def RT.same (a b:RT):Prop:=(a.O=b.O∧a.K=b.K)∧(∀x∈a.d,x∈b.d)∧a.d.length=b.d.length
theorem RG.same {a b:RT} (ga:RG h a) (gb:RG h b):a.same b↔a.st=b.st:=by
 constructor
 ·rintro⟨⟨h1,h2⟩,h3,h4⟩
  refine St.ext' ?_ h1 h2
  apply Nat.eq_of_testBit_eq
  intro j
  change (bitsL a.d).testBit j=(bitsL b.d).testBit j
  rw[bitsL_bit,bitsL_bit]
  congr 1
  refine propext ⟨h3 j,fun hj=>a1E fun hn=>?_⟩
  have:=a1O (l₁:=j :: a.d) (l₂:=b.d) (a2B.2 ⟨hn,ga.nd⟩) (fun x hx=>by
   rcases a0O.1 hx with rfl|hx
   ·exact hj
   ·exact h3 x hx)
  rw[a0I] at this
  omega
 ·intro e
  have h1:a.O=b.O:=congrArg St.O e
  have h2:a.K=b.K:=congrArg St.K e
  have h3:bitsL a.d=bitsL b.d:=congrArg St.D e
  have h4:∀x,x∈a.d↔x∈b.d:=fun x=>by rw[←bitsL_yes,←bitsL_yes,h3]
  refine⟨⟨h1,h2⟩,fun x hx=>(h4 x).1 hx,Nat.le_antisymm ?_ ?_⟩
  ·exact a1O ga.nd fun x hx=>(h4 x).1 hx
  ·exact a1O gb.nd fun x hx=>(h4 x).2 hx
structure NextR (h:Hist) (r:RT) (k:Nat) (L:List RT):Prop where
 good:∀x∈L,RG h x
 all:∀i,i<k→∀t,StepI h r.st i t→∃x∈L,x.st=t
 len:L.length≤600001*k
namespace NextR
theorem nil (h:Hist) (r:RT):NextR h r 0 []:=⟨fun _ hx=>(List.not_mem_nil hx).elim,fun i hi=>(Nat.not_lt_zero i hi).elim,a2A _⟩
theorem skip {r:RT} {k:Nat} {L:List RT} (hn:NextR h r k L) (hs:∀t,¬StepI h r.st k t):NextR h r (k+1) L:=
 ⟨hn.good,fun i hi t ht=>by
  rcases a0J (show i≤k by omega) with q|rfl
  ·exact hn.all i q t ht
  ·exact absurd ht (hs t),by have:=hn.len;omega⟩
end NextR
structure SI (h:Hist) (l:List RT) (i:Nat):Prop where
 good:∀r∈l,RG h r
 inv:SInv h (l.map (RT.sr h)) i
structure SJ (h:Hist) (l:List RT) (i:Nat) (N:List RT) (k:Nat):Prop where
 good:∀r∈l,RG h r
 inn:SInn h (l.map (RT.sr h)) i (N.map (RT.sr h)) k
theorem getD_sr {l:List RT} {i:Nat} (hi:i<l.length):(l.map (RT.sr h)).getD i .root=(l.getD i (RT.begin h)).sr h:=by
 simp[a0A,hi]
theorem getD_memR {l:List RT} {i:Nat} (hi:i<l.length):l.getD i (RT.begin h)∈l:=by
 simp[a0A,hi]
theorem known_iff (gh:h.Ok) {l:List RT} (hl:∀r∈l,RG h r) {x:RT} (gx:RG h x):stK ((x.sr h).st h)∈((l.map (RT.sr h)).map fun r=>stK (r.st h))↔∃r∈l,r.same x:=by
 rw[List.map_map,a1C]
 constructor
 ·rintro⟨r,hr,e⟩
  refine⟨r,hr,((hl r hr).same gx).2 ?_⟩
  change stK ((r.sr h).st h)=_ at e
  rw[((hl r hr).sr gh).2,(gx.sr gh).2] at e
  exact stK_inj (Hist.Rea.inv gh (hl r hr).rea) (Hist.Rea.inv gh gx.rea) gh e
 ·rintro⟨r,hr,e⟩
  refine⟨r,hr,?_⟩
  change stK ((r.sr h).st h)=_
  rw[((hl r hr).sr gh).2,(gx.sr gh).2,((hl r hr).same gx).1 e]
theorem SJ.begin {l:List RT} {i:Nat} (s:SI h l i) (N:List RT):SJ h l i N 0:=⟨s.good,.begin s.inv _⟩
theorem SJ.old (gh:h.Ok) {l N:List RT} {i k:Nat} (s:SJ h l i N k) (hk:k<N.length) (hg:∀x∈N,RG h x) (e:∃r∈l,r.same (N.getD k (RT.begin h))):SJ h l i N (k+1):=
 ⟨s.good,s.inn.old (by rwa [a2M]) (by rw[getD_sr hk];exact(known_iff gh s.good (hg _ (getD_memR hk))).2 e)⟩
theorem SJ.new (gh:h.Ok) {l N:List RT} {i k:Nat} (s:SJ h l i N k) (hk:k<N.length) (hg:∀x∈N,RG h x) (e:¬∃r∈l,r.same (N.getD k (RT.begin h))):SJ h (l++[N.getD k (RT.begin h)]) i N (k+1):=by
 have hgk:=hg _ (getD_memR (h:=h) hk)
 refine⟨fun r hr=>(a0M.1 hr).elim (s.good r) (fun q=>by rw[a0L] at q;subst q;exact hgk),?_⟩
 have:=s.inn.new (by rwa [a2M]) (fun x hx=>by
  obtain⟨y,hy,rfl⟩:=a1C.1 hx
  exact((hg y hy).sr gh).1) (by rw[getD_sr hk];exact fun q=>e ((known_iff gh s.good hgk).1 q))
 rw[getD_sr hk] at this
 rw[a1L]
 exact this
structure EndR (h:Hist) (L:List RT):Prop where
 good:∀r∈L,RG h r
 ends : ∀ s, h.End s ↔ ∃ r ∈ L, r.st = s
 len:L.length≤481890304
end Ho
end Go.Proofs
namespace Go.Proofs
open Go Go.Sx
set_option maxRecDepth 100000
set_option maxHeartbeats 40000000
namespace Ho
end Ho
theorem nnew_intro {P:Program} {g:FuncId} {args:List V} {R:V→List O→Prop} {F:V→List O→Prop} {G G2:Prop} (h:NewC P g args R) (hfo:foL args=true) (hf:∀v obs,R v obs→F v obs):G∨(∃R,NNew P g args R∧∀v obs,R v obs→F v obs)∨G2:=by
 refine .inr (.inl ⟨R,?_,hf⟩)
 unfold NNew
 exact⟨hfo,h⟩
namespace Ho
end Ho
def RS.h (n:Nat) (s:RS) (β:Nat→Option Nat×Nat):List O:=[.row 3 1 n s.medF false,.grid 38 3 1 s.E.length (fun _=>n) (fun e b=>[.int .i64 (s.ep e b)]) β none true]
end Go.Proofs
namespace Go.Sx
open Go
variable {P:Program}
end Go.Sx
namespace Go.Proofs
open Go Go.Sx
set_option maxRecDepth 100000
set_option maxHeartbeats 40000000
def DistL (n:Nat) (L:List (Nat→Int)):Prop:=L.Pairwise fun f g=>¬∀b,b<n→f b=g b
theorem DistL.add {n:Nat} {L:List (Nat→Int)} (h:DistL n L) (f:Nat→Int):DistL n (addM n L f):=by
 unfold addM
 split
 ·exact h
 ·rename_i hn
  unfold DistL
  rw[List.pairwise_append]
  refine⟨h,List.pairwise_singleton ..,fun g hg k hk he=>?_⟩
  rw[a0L] at hk
  subst hk
  exact hn ⟨g,hg,he⟩
theorem DistL.len {n:Nat} (hn:n≤2) {L:List (Nat→Int)} (h:DistL n L) (hr:∀f∈L,∀b,b<n→-2≤f b∧f b<7):L.length≤81:=by
 have key:(L.map fun f=>(if 0<n then(f 0+2).toNat else 0)+9*(if 1<n then(f 1+2).toNat else 0)).Nodup:=by
  unfold List.Nodup
  rw[a1P]
  refine(List.Pairwise.and_mem.1 h).imp ?_
  rintro f g ⟨hf,hg,hne⟩ e
  refine hne fun b hb=>?_
  have f0:=hr f hf 0
  have f1:=hr f hf 1
  have g0:=hr g hg 0
  have g1:=hr g hg 1
  rcases(show b=0∨b=1 by omega) with rfl|rfl
  ·rw[if_pos hb,if_pos hb] at e
   by_cases h2:1<n
   ·rw[if_pos h2,if_pos h2] at e;omega
   ·rw[if_neg h2,if_neg h2] at e;omega
  ·rw[if_pos hb,if_pos hb,if_pos (by omega),if_pos (by omega)] at e
   omega
 have:=a1p (m:=List.range 81) key (fun c hc=>by
  obtain⟨f,hf,rfl⟩:=a1C.1 hc
  have h0:=hr f hf 0
  have h1:=hr f hf 1
  rw[a1D]
  split<;>split<;>omega)
 simpa using this
end Go.Proofs
