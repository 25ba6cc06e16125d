/- Own work: texts of the proof of a law (HrA, Gr1, Gc1, Gr2, Gc7, Gr3, Gr4, Gr5, Gc2, SyCfz, Gc3, Gc4, Gc5, Gc6). No condition. -/
import Derived.Test.YtbdcjkcmpcdipaaGreatPart30
set_option linter.unusedVariables false
set_option linter.unusedSimpArgs false
namespace Go.Proofs
open Go Go.Sx
set_option maxRecDepth 100000
set_option maxHeartbeats 4000000
namespace Ho
def iL (l:List Nat):List Int:=l.map Int.ofNat
theorem iL_len (l:List Nat):(iL l).length=l.length:=a2M ..
theorem mem_iL {l:List Nat} {n:Nat}:(n:Int)∈iL l↔n∈l:=by
 unfold iL
 rw[a1C]
 constructor
 ·rintro⟨x,hx,e⟩
  have:x=n:=by have e':(x:Int)=n:=e;omega
  exact this▸hx
 ·exact fun hn=>⟨n,hn,rfl⟩
theorem iL_get (l:List Nat) {i:Nat} (hi:i<l.length):(iL l).getD i 0=(l.getD i 0:Nat):=by
 unfold iL
 simp[a0A,hi]
theorem iL_inj {a b:List Nat}:iL a=iL b↔a=b:=by
 constructor
 ·intro e
  have:=congrArg (List.map Int.toNat) e
  unfold iL at this
  rw[List.map_map,List.map_map] at this
  have id':∀l:List Nat,l.map (Int.toNat ∘ Int.ofNat)=l:=fun l=>by
   conv=>rhs;rw[←List.map_id l]
   rfl
  rwa [id',id'] at this
 ·rintro rfl;rfl
structure RT where
 d:List Nat
 O:List Nat
 K:List Int
def RT.c (h:Hist) (r:RT):List V:=[.sl 1 r.d.length (a0u intC 0 (iL r.d)),.int .i64 h.n,.sl 2 (h.cache r.O).l.length (a0u oC (0,0) (h.cache r.O).l),.sl 1 r.O.length (a0u intC 0 (iL r.O)),.sl 1 r.K.length (a0u intC 0 r.K)]
def RT.v (h:Hist) (r:RT):V:=.agg (r.c h)
def bitsL (d:List Nat):Nat:=d.foldl (fun D i=>D ||| 1 <<< i) 0
theorem bitsF (d:List Nat) (j:Nat):∀D:Nat,(d.foldl (fun D i=>D ||| 1 <<< i) D).testBit j=(D.testBit j || decide (j∈d)):=by
 induction d with
 |nil=>intro D;simp
 |cons a d ih=>
  intro D
  rw[List.foldl_cons,ih,Hist.bit_or]
  by_cases e:j=a
  ·subst e;simp
  ·have e':a≠j:=fun q=>e q.symm
   simp[e,e']
theorem bitsL_bit (d:List Nat) (j:Nat):(bitsL d).testBit j=decide (j∈d):=by
 unfold bitsL
 rw[bitsF]
 simp
theorem bitsL_yes {d:List Nat} {j:Nat}:(bitsL d).testBit j=true↔j∈d:=by rw[bitsL_bit];simp
theorem bitsL_no {d:List Nat} {j:Nat}:(bitsL d).testBit j=false↔j∉d:=by rw[bitsL_bit];simp
theorem bitsL_snoc (d:List Nat) (n:Nat):bitsL (d++[n])=bitsL d ||| 1 <<< n:=by
 unfold bitsL
 rw[List.foldl_append]
 rfl
namespace RT
def st (r:RT):St:=⟨bitsL r.d,r.O,r.K⟩
def begin (h:Hist):RT:=⟨[],[],List.replicate h.nn 0⟩
def doO (h:Hist) (r:RT) (n:Nat):RT:=⟨r.d++[n],if(h.at' n).isO then r.O++[n] else r.O,r.K⟩
def kf (h:Hist) (r:RT) (f:Nat→Int) (b:Nat):Int:=if f b=-2 then -1 else if 0≤f b then(h.at' (r.O.getD (f b).toNat 0)).v else r.K.getD b 0
def fall (h:Hist) (r:RT) (n:Nat) (f:Nat→Int):RT:=⟨r.d++[n],[],(List.range h.nn).map (r.kf h f)⟩
end RT
def MayD (h:Hist) (d:List Nat) (n:Nat):Prop:=n∉d∧∀j,j<h.l.length→(j∉d→(h.at' j).t≠-1→¬(h.at' j).t<(h.at' n).f)∧(j∈d→(h.at' j).k=9→¬(h.at' n).f<(h.at' j).f)
def WholeD (h:Hist) (d:List Nat):Prop:=∀i,i<h.l.length→(h.at' i).t≠-1→i∈d
variable {h:Hist}
theorem mayD_iff {d:List Nat} {n:Nat}:MayD h d n↔h.May (bitsL d) n:=by
 unfold MayD Hist.May
 rw[bitsL_no]
 refine and_congr a1R ⟨fun q j hj=>?_,fun q j hj=>?_⟩
 ·rw[bitsL_no,bitsL_yes];exact q j hj
 ·have:=q j hj;rwa [bitsL_no,bitsL_yes] at this
theorem wholeD_iff {r:RT}:WholeD h r.d↔h.Whole r.st:=by
 unfold WholeD Hist.Whole
 refine⟨fun q i hi ht=>bitsL_yes.2 (q i hi ht),fun q i hi ht=>bitsL_yes.1 (q i hi ht)⟩
theorem do_st (r:RT) (n:Nat):(r.doO h n).st=h.doO r.st n:=by
 unfold RT.doO RT.st Hist.doO
 rw[bitsL_snoc]
theorem kf_keep (r:RT) {f:Nat→Int} {b:Nat} (hf:-2≤f b):r.kf h f b=h.keep1 (r.K.getD b 0) (num r.O (f b)):=by
 unfold RT.kf Hist.keep1 num
 by_cases e1:f b=-2
 ·rw[if_pos e1,e1];rfl
 ·rw[if_neg e1]
  by_cases e2:f b=-1
  ·rw[e2];rfl
  ·rw[if_pos (by omega),if_neg (show ¬f b<0 by omega),if_neg (by omega),if_neg (by omega)]
   rfl
theorem fall_st (r:RT) (n:Nat) {f:Nat→Int} (hf:∀b,b<h.nn→-2≤f b):(r.fall h n f).st=h.fall r.st n ((List.range h.nn).map fun b=>num r.O (f b)):=by
 unfold RT.fall RT.st Hist.fall Hist.keep
 rw[bitsL_snoc]
 congr 1
 apply List.map_congr_left
 intro b hb
 rw[a1D] at hb
 rw[kf_keep r (hf b hb)]
 congr 1
 simp[a0A,hb]
structure RG (h:Hist) (r:RT):Prop where
 rea:h.Rea r.st
 nd:r.d.Nodup
 lt:∀i∈r.d,i<h.l.length
namespace RG
theorem begin (h:Hist):RG h (RT.begin h):=⟨.begin,List.nodup_nil,fun _ hi=>by cases hi⟩
theorem dlen {r:RT} (g:RG h r):r.d.length≤h.l.length:=by
 have:=a1O g.nd (l₂:=List.range h.l.length) (fun i hi=>a1D.2 (g.lt i hi))
 rwa [List.length_range] at this
theorem olen (gh:h.Ok) {r:RT} (g:RG h r):r.O.length≤h.l.length:=by
 have hi:=Hist.Rea.inv gh g.rea
 have:=a1O hi.nd (l₂:=List.range h.l.length) (fun i hi'=>a1D.2 (hi.O i hi').1)
 rwa [List.length_range] at this
theorem klen (gh:h.Ok) {r:RT} (g:RG h r):r.K.length=h.nn:=(Hist.Rea.inv gh g.rea).len
theorem olt (gh:h.Ok) {r:RT} (g:RG h r):∀i∈r.O,i<h.l.length:=fun i hi=>((Hist.Rea.inv gh g.rea).O i hi).1
theorem step {r r':RT} (g:RG h r) {i:Nat} (hi:i<h.l.length) (hs:StepI h r.st i r'.st) (hd:r'.d=r.d++[i]):RG h r':=by
 refine⟨.step g.rea (step_iff.2 ⟨i,hi,hs⟩),?_,fun j hj=>?_⟩
 ·rw[hd,a2N]
  refine⟨g.nd,by simp,?_⟩
  rintro x hx y hy rfl
  rw[a0L] at hy
  subst hy
  exact(mayD_iff.2 hs.1).1 hx
 ·rw[hd,a0M,a0L] at hj
  rcases hj with hj|rfl
  ·exact g.lt j hj
  ·exact hi
end RG
theorem Hist.Rea.sr (g:h.Ok) {s:St} (r:h.Rea s):∃x:SR,x.Good h∧x.st h=s:=by
 induction r with
 |begin=>exact⟨.root,trivial,rfl⟩
 |step r hs ih=>
  obtain⟨x,hx,rfl⟩:=ih
  have hI:=Hist.Rea.inv g r
  cases hs with
  |cmd hi hm hk hf=>exact⟨.node _ x _ none,⟨hx,hi,hm,.inl ⟨hk,rfl,hf,rfl⟩⟩,rfl⟩
  |fall hi hm hk him=>
   obtain⟨c,hc,rfl⟩:=(img_iff (g.cache hI) _).1 him
   exact⟨.node _ x _ (some c),⟨hx,hi,hm,.inr ⟨hk,c,rfl,hc,rfl⟩⟩,rfl⟩
open Classical in
noncomputable def RT.sr (h:Hist) (r:RT):SR:=if e:∃x:SR,x.Good h∧x.st h=r.st then e.choose else .root
theorem RG.sr (gh:h.Ok) {r:RT} (g:RG h r):(r.sr h).Good h∧(r.sr h).st h=r.st:=by
 have e:=Hist.Rea.sr gh g.rea
 unfold RT.sr
 rw[dif_pos e]
 exact e.choose_spec
def RT.same (a b:RT):Prop:=(a.O=b.O∧a.K=b.K)∧(∀x∈a.d,x∈b.d)∧a.d.length=b.d.length
theorem RG.same {a b:RT} (ga:RG h a) (gb:RG h b):a.same b↔a.st=b.st:=by
 constructor
 ·rintro⟨⟨h1,h2⟩,h3,h4⟩
  refine St.ext' ?_ h1 h2
  apply Nat.eq_of_testBit_eq
  intro j
  change (bitsL a.d).testBit j=(bitsL b.d).testBit j
  rw[bitsL_bit,bitsL_bit]
  congr 1
  refine propext ⟨h3 j,fun hj=>a1E fun hn=>?_⟩
  have:=a1O (l₁:=j :: a.d) (l₂:=b.d) (a2B.2 ⟨hn,ga.nd⟩) (fun x hx=>by
   rcases a0O.1 hx with rfl|hx
   ·exact hj
   ·exact h3 x hx)
  rw[a0I] at this
  omega
 ·intro e
  have h1:a.O=b.O:=congrArg St.O e
  have h2:a.K=b.K:=congrArg St.K e
  have h3:bitsL a.d=bitsL b.d:=congrArg St.D e
  have h4:∀x,x∈a.d↔x∈b.d:=fun x=>by rw[←bitsL_yes,←bitsL_yes,h3]
  refine⟨⟨h1,h2⟩,fun x hx=>(h4 x).1 hx,Nat.le_antisymm ?_ ?_⟩
  ·exact a1O ga.nd fun x hx=>(h4 x).1 hx
  ·exact a1O gb.nd fun x hx=>(h4 x).2 hx
structure NextR (h:Hist) (r:RT) (k:Nat) (L:List RT):Prop where
 good:∀x∈L,RG h x
 all:∀i,i<k→∀t,StepI h r.st i t→∃x∈L,x.st=t
 len:L.length≤600001*k
namespace NextR
theorem nil (h:Hist) (r:RT):NextR h r 0 []:=⟨fun _ hx=>(List.not_mem_nil hx).elim,fun i hi=>(Nat.not_lt_zero i hi).elim,a2A _⟩
theorem skip {r:RT} {k:Nat} {L:List RT} (hn:NextR h r k L) (hs:∀t,¬StepI h r.st k t):NextR h r (k+1) L:=
 ⟨hn.good,fun i hi t ht=>by
  rcases a0J (show i≤k by omega) with q|rfl
  ·exact hn.all i q t ht
  ·exact absurd ht (hs t),by have:=hn.len;omega⟩
theorem more {r:RT} {k:Nat} {L M:List RT} (hn:NextR h r k L) (hg:∀x∈M,RG h x) (hs:∀t,StepI h r.st k t→∃x∈M,x.st=t) (hl:M.length≤600001):NextR h r (k+1) (L++M):=
 ⟨fun x hx=>(a0M.1 hx).elim (hn.good x) (hg x),fun i hi t ht=>by
  rcases a0J (show i≤k by omega) with q|rfl
  ·obtain⟨x,hx,e⟩:=hn.all i q t ht
   exact⟨x,a1I _ hx,e⟩
  ·obtain⟨x,hx,e⟩:=hs t ht
   exact⟨x,List.mem_append_right _ hx,e⟩,by have:=hn.len;rw[a0F];omega⟩
theorem nl (gh:h.Ok) {r:RT} (gr:RG h r) {k:Nat} {L:List RT} (hn:NextR h r k L):NextL h (r.sr h) k (L.map (RT.sr h)):=by
 refine⟨fun x hx=>?_,fun i hi t ht=>?_,by rw[a2M];exact hn.len⟩
 ·obtain⟨y,hy,rfl⟩:=a1C.1 hx
  exact((hn.good y hy).sr gh).1
 ·rw[(gr.sr gh).2] at ht
  obtain⟨x,hx,e⟩:=hn.all i hi t ht
  exact⟨_,a1C.2 ⟨x,hx,rfl⟩,by rw[((hn.good x hx).sr gh).2,e]⟩
end NextR
structure SI (h:Hist) (l:List RT) (i:Nat):Prop where
 good:∀r∈l,RG h r
 inv:SInv h (l.map (RT.sr h)) i
structure SJ (h:Hist) (l:List RT) (i:Nat) (N:List RT) (k:Nat):Prop where
 good:∀r∈l,RG h r
 inn:SInn h (l.map (RT.sr h)) i (N.map (RT.sr h)) k
theorem getD_sr {l:List RT} {i:Nat} (hi:i<l.length):(l.map (RT.sr h)).getD i .root=(l.getD i (RT.begin h)).sr h:=by
 simp[a0A,hi]
theorem getD_memR {l:List RT} {i:Nat} (hi:i<l.length):l.getD i (RT.begin h)∈l:=by
 simp[a0A,hi]
theorem known_iff (gh:h.Ok) {l:List RT} (hl:∀r∈l,RG h r) {x:RT} (gx:RG h x):stK ((x.sr h).st h)∈((l.map (RT.sr h)).map fun r=>stK (r.st h))↔∃r∈l,r.same x:=by
 rw[List.map_map,a1C]
 constructor
 ·rintro⟨r,hr,e⟩
  refine⟨r,hr,((hl r hr).same gx).2 ?_⟩
  change stK ((r.sr h).st h)=_ at e
  rw[((hl r hr).sr gh).2,(gx.sr gh).2] at e
  exact stK_inj (Hist.Rea.inv gh (hl r hr).rea) (Hist.Rea.inv gh gx.rea) gh e
 ·rintro⟨r,hr,e⟩
  refine⟨r,hr,?_⟩
  change stK ((r.sr h).st h)=_
  rw[((hl r hr).sr gh).2,(gx.sr gh).2,((hl r hr).same gx).1 e]
theorem SI.one (gh:h.Ok):SI h [RT.begin h] 0:=by
 have g0:=RG.begin h
 have e:stK (((RT.begin h).sr h).st h)=stK h.st0:=by rw[(g0.sr gh).2];rfl
 refine⟨fun r hr=>by rw[a0L] at hr;subst hr;exact g0,⟨fun r hr=>?_,by simp,?_,by simp,fun j hj=>by omega⟩⟩
 ·rw[List.map_singleton,a0L] at hr
  subst hr
  exact(g0.sr gh).1
 ·simp[e]
theorem SI.cap (gh:h.Ok) (hn:h.n≤2) (hl:h.l.length≤6) {l:List RT} {i:Nat} (s:SI h l i):l.length≤CAP:=by
 have:=SInv.cap gh hn hl s.inv.good s.inv.nd
 rwa [a2M] at this
theorem SJ.si {l N:List RT} {i k:Nat} (s:SJ h l i N k):SI h l i:=⟨s.good,s.inn.inv⟩
theorem SJ.begin {l:List RT} {i:Nat} (s:SI h l i) (N:List RT):SJ h l i N 0:=⟨s.good,.begin s.inv _⟩
theorem SJ.old (gh:h.Ok) {l N:List RT} {i k:Nat} (s:SJ h l i N k) (hk:k<N.length) (hg:∀x∈N,RG h x) (e:∃r∈l,r.same (N.getD k (RT.begin h))):SJ h l i N (k+1):=
 ⟨s.good,s.inn.old (by rwa [a2M]) (by rw[getD_sr hk];exact(known_iff gh s.good (hg _ (getD_memR hk))).2 e)⟩
theorem SJ.new (gh:h.Ok) {l N:List RT} {i k:Nat} (s:SJ h l i N k) (hk:k<N.length) (hg:∀x∈N,RG h x) (e:¬∃r∈l,r.same (N.getD k (RT.begin h))):SJ h (l++[N.getD k (RT.begin h)]) i N (k+1):=by
 have hgk:=hg _ (getD_memR (h:=h) hk)
 refine⟨fun r hr=>(a0M.1 hr).elim (s.good r) (fun q=>by rw[a0L] at q;subst q;exact hgk),?_⟩
 have:=s.inn.new (by rwa [a2M]) (fun x hx=>by
  obtain⟨y,hy,rfl⟩:=a1C.1 hx
  exact((hg y hy).sr gh).1) (by rw[getD_sr hk];exact fun q=>e ((known_iff gh s.good hgk).1 q))
 rw[getD_sr hk] at this
 rw[a1L]
 exact this
theorem SJ.done (gh:h.Ok) {l N:List RT} {i:Nat} (hil:i<l.length) (hN:NextR h (l.getD i (RT.begin h)) h.l.length N) (s:SJ h l i N N.length):SI h l (i+1):=by
 refine⟨s.good,SInn.done (by rwa [a2M]) (N:=N.map (RT.sr h)) ?_ (by rw[a2M];exact s.inn)⟩
 rw[getD_sr hil]
 exact hN.nl gh (s.good _ (getD_memR hil))
noncomputable def outR (h:Hist) (L:List RT):List RT:=L.filter fun r=>@decide (WholeD h r.d) (Classical.propDecidable _)
theorem outR_yes {L:List RT} {r:RT} (hw:WholeD h r.d):outR h (L++[r])=outR h L++[r]:=by
 unfold outR;rw[List.filter_append];simp[hw]
theorem outR_no {L:List RT} {r:RT} (hw:¬WholeD h r.d):outR h (L++[r])=outR h L:=by
 unfold outR;rw[List.filter_append];simp[hw]
theorem outR_len (L:List RT):(outR h L).length≤L.length:=List.length_filter_le ..
structure EndR (h:Hist) (L:List RT):Prop where
 good:∀r∈L,RG h r
 ends : ∀ s, h.End s ↔ ∃ r ∈ L, r.st = s
 len:L.length≤481890304
theorem SI.out (gh:h.Ok) (hn:h.n≤2) (hl:h.l.length≤6) {l:List RT} (s:SI h l l.length):EndR h (outR h l):=by
 have hs:SInv h (l.map (RT.sr h)) (l.map (RT.sr h)).length:=by rw[a2M];exact s.inv
 refine⟨fun r hr=>s.good r (a3R.1 hr).1,fun t=>?_,a2X (outR_len l) (s.cap gh hn hl)⟩
 constructor
 ·rintro⟨h1,h2⟩
  obtain⟨x,hx,rfl⟩:=SInv.all gh hs h1
  obtain⟨r,hr,rfl⟩:=a1C.1 hx
  rw[((s.good r hr).sr gh).2] at h2 ⊢
  exact⟨r,List.mem_filter.2 ⟨hr,by simpa using wholeD_iff.2 h2⟩,rfl⟩
 ·rintro⟨r,hr,rfl⟩
  obtain⟨h1,h2⟩:=a3R.1 hr
  exact⟨(s.good r h1).rea,wholeD_iff.1 (by simpa using h2)⟩
theorem EndR.legal {L:List RT} (e:EndR h L):h.Legal↔0<L.length:=by
 constructor
 ·rintro⟨s,hs⟩
  obtain⟨r,hr,_⟩:=(e.ends s).1 hs
  exact a3P hr
 ·intro hl
  exact⟨_,(e.ends _).2 ⟨L[0],a1F hl,rfl⟩⟩
theorem falls_step (gh:h.Ok) {r:RT} (g:RG h r) {i:Nat} (hm:MayD h r.d i) (hk:(h.at' i).k=9) {Ms:List (Nat→Int)} (hM:ImgsR (h.cache r.O) h.nn Ms) :
  (∀f∈Ms,StepI h r.st i (r.fall h i f).st)∧∀t,StepI h r.st i t→∃f∈Ms,(r.fall h i f).st=t:=by
 have hI:=Hist.Rea.inv gh g.rea
 have hc:=gh.cache hI
 have h6:=gh.nn
 have lo:∀{f:Nat→Int} {c:C6},PosI (h.cache r.O) c→Fits h.nn f c→∀b,b<h.nn→-2≤f b:=by
  intro f c hp hf b hb
  rw[hf b hb]
  rcases hp.holds hc (show b<6 by omega) with q|q|⟨q,_,q,_⟩<;>omega
 constructor
 ·intro f hf
  obtain⟨c,hp,hfit⟩:=hM.sound f hf
  refine⟨mayD_iff.1 hm,.inr ⟨hk,_,⟨by simp,c,hp,fun b hb=>?_⟩,fall_st r i (lo hp hfit)⟩⟩
  simp[a0A,hb,hfit b hb]
  rfl
 ·rintro t ⟨_,⟨q,_⟩|⟨_,im,⟨hl,c,hp,hall⟩,rfl⟩⟩
  ·exact absurd hk q
  ·obtain⟨f,hf,hfit⟩:=hM.cov c hp
   refine⟨f,hf,?_⟩
   rw[fall_st r i (lo hp hfit)]
   congr 1
   apply a1U
   ·simp[hl]
   ·intro b h1 h2
    have hb:b<h.nn:=by simpa using h1
    have:=hall b hb
    rw[a0A,a0D h2,a2Z] at this
    rw[this]
    simp[hfit b hb]
    rfl
theorem falls_fit (gh:h.Ok) {r:RT} (g:RG h r) {Ms:List (Nat→Int)} (hM:ImgsR (h.cache r.O) h.nn Ms) {f:Nat→Int} (hf:f∈Ms) {b:Nat} (hb:b<h.nn):-2≤f b∧(0≤f b→(f b).toNat<r.O.length):=by
 have hI:=Hist.Rea.inv gh g.rea
 have hc:=gh.cache hI
 have h6:=gh.nn
 have hl:(h.cache r.st.O).l.length=r.O.length:=a2M ..
 obtain⟨c,hp,hfit⟩:=hM.sound f hf
 rw[hfit b hb]
 rcases hp.holds hc (show b<6 by omega) with q|q|⟨q,h1,q,_⟩<;>omega
end Ho
end Go.Proofs
namespace Go.Proofs
open Go Go.Sx
set_option maxRecDepth 100000
set_option maxHeartbeats 40000000
namespace Ho
theorem in75i (L:List Int) (n:Int) (hL:L.length≤100000000000):a0q Tryz.prog 75 false [.sl 1 L.length (a0u intC 0 L),.int .i64 n] (·=.prop (n∈L) inferInstance):=by
 refine a0c Tryz.E_ok Tryz.func75 rfl (by kernel_rfl) ?_
 refine x14 ?_
 refine⟨Nat,fun i=>i≤L.length∧∀j,j<i→L.getD j 0≠n,fun i=>L.length-i,fun i=>[(5,.int .i64 (i:Nat))],fun _=>[],fun _=>[],0,⟨⟨by omega,fun j hj=>by omega⟩,none,?_⟩,?_⟩
 ·exact xc6
 ·rintro i ⟨hi,hI⟩
  have hi0:((i:Nat):Int).toNat=i:=by omega
  (repeat' ((conv=>whnf);first|(with_reducible first|apply spl|apply spl'|refine iJ ?_)<;>intro hc<;>try(exfalso;omega)|refine vcq ?_|refine dr 7 ?_));all_goals(try conv=>whnf);try exact trivial
  ·have hil:i<L.length:=by omega
   rw[hi0] at hc
   refine⟨_,rfl,?_⟩
   refine⟨?_,trivial⟩
   rw[←hc,a0A,a0D hil]
   exact a1F hil
  ·rw[hi0] at hc
   refine⟨i+1,⟨⟨by omega,fun j hj=>?_⟩,by dsimp only;omega⟩,none,?_⟩
   ·rcases a0J (show j≤i by omega) with q|rfl
    ·exact hI j q
    ·exact hc
   ·exact xc6
  ·refine⟨_,rfl,?_⟩
   refine⟨fun q=>?_,trivial⟩
   obtain⟨j,hj,e⟩:=a1G q
   refine absurd ?_ (hI j (by omega))
   rw[a0A,a0D hj]
   exact e
theorem in75 (l:List Nat) (n:Int) (hl:l.length≤1000000):a0q Tryz.prog 75 false [.sl 1 l.length (a0u intC 0 (iL l)),.int .i64 n] (·=.prop (n∈iL l) inferInstance):=by
 have:=in75i (iL l) n (by rw[iL_len];omega)
 rwa [iL_len] at this
theorem begin49 (h:Hist) (hn:1≤h.n∧h.n≤6):a0q Tryz.prog 49 false [h.w] (·=(RT.begin h).v h):=by
 refine a0c Tryz.E_ok Tryz.func49 rfl (by kernel_rfl) ?_
 refine x14 ?_
 refine⟨_,rfl,?_⟩
 unfold RT.v RT.c RT.begin
 dsimp only
 rw[List.length_replicate]
 refine x14 ?_
 refine⟨fun i hi=>?_,.inr fun i hi=>rfl,?_⟩
 ·have hi':i<h.nn:=hi
  unfold a0u
  simp[a0A,hi']
  rfl
 exact xc6
theorem whole55 (h:Hist) (hl:h.l.length≤1000000) (d:List Nat) (hd:d.length≤1000000):a0q Tryz.prog 55 false [h.w,.sl 1 d.length (a0u intC 0 (iL d))] (·=.prop (WholeD h d) (Classical.propDecidable _)):=by
 refine a0c Tryz.E_ok Tryz.func55 rfl (by kernel_rfl) ?_
 refine x14 ?_
 refine⟨Nat,fun i=>i≤h.l.length∧∀j,j<i→(h.at' j).t≠-1→j∈d,fun i=>h.l.length-i,fun i=>[(5,.int .i64 (i:Nat))],fun _=>[],fun _=>[],0,⟨⟨by omega,fun j hj=>by omega⟩,some [some 0],?_⟩,?_⟩
 ·exact xc6
 ·rintro i ⟨hi,hI⟩
  have hi0:((i:Nat):Int).toNat=i:=by omega
  have e1:h.l.getD ((i:Nat):Int).toNat c0=h.at' i:=by rw[hi0];rfl
  have hin:=in75 d i hd
  have hm:((i:Nat):Int)∈iL d↔i∈d:=mem_iL
  (repeat' ((conv=>whnf);first|(with_reducible first|apply spl|apply spl'|refine iJ ?_)<;>intro hc<;>try(exfalso;omega)|refine vcq ?_|refine dr 7 ?_));all_goals((try conv=>whnf);try exact trivial);(repeat' ((first|(refine a0d (ropen (h.l.getD ((i:Nat):Int).toNat c0)) rfl ?_;rintro _ rfl)|(refine a0f (ropen (h.l.getD ((i:Nat):Int).toNat c0)) rfl ?_)|(refine a0l (fun _=>ropen (h.l.getD ((i:Nat):Int).toNat c0)) rfl ?_)|(refine a0d (hin) rfl ?_;rintro _ rfl)|(refine a0f (hin) rfl ?_)|(refine a0l (fun _=>hin) rfl ?_));refine x15 (fun hc=>?_) (fun hc=>?_)))
  all_goals try rw[e1] at *
  all_goals try rw[hm] at *
  ·refine⟨_,rfl,?_⟩
   refine⟨fun q=>?_,trivial⟩
   exact absurd (q i (by omega) (by assumption)) (by assumption)
  ·refine⟨i+1,⟨⟨by omega,fun j hj ht=>?_⟩,by dsimp only;omega⟩,some [some 0],?_⟩
   ·rcases a0J (show j≤i by omega) with q|rfl
    ·exact hI j q ht
    ·exact a0T.1 (by assumption)
   ·exact xc6
  ·refine⟨i+1,⟨⟨by omega,fun j hj ht=>?_⟩,by dsimp only;omega⟩,some [some 0],?_⟩
   ·rcases a0J (show j≤i by omega) with q|rfl
    ·exact hI j q ht
    ·exact absurd ht (by assumption)
   ·exact xc6
  ·refine⟨_,rfl,?_⟩
   refine⟨fun j hj ht=>hI j (by omega) ht,trivial⟩
end Ho
theorem within47 (n x y:Int):a0q Tryz.prog 114 false [.int .i64 n,.int .i64 x,.int .i64 y] (·=.prop (x≤n∧n≤y) inferInstance):=by
 refine a0c Tryz.E_ok Tryz.func114 rfl (by kernel_rfl) ?_
 refine x1 ?_;(all_goals(try(refine⟨_,rfl,?_⟩;exact xc3)))
theorem puts35 (o:Int×Int):a0q Tryz.prog 115 false [oV o] (·=.prop (o.1=1∨o.1=2) inferInstance):=by
 refine a0c Tryz.E_ok Tryz.func115 rfl (by kernel_rfl) ?_
 refine x1 ?_;(all_goals(try(refine⟨_,rfl,?_⟩;exact xc3)))
theorem Check37 (x:Cache) (hl:x.l.length≤1000000):a0q Tryz.prog 78 false [x.v] (·=.int .i64 x.chk):=by
 refine a0c Tryz.E_ok Tryz.func78 rfl (by kernel_rfl) ?_
 unfold Cache.chk
 refine x1 ?_;(repeat' ((first|(refine a0d (within47 _ _ _) rfl ?_;rintro _ rfl)|(refine a0f (within47 _ _ _) rfl ?_)|(refine a0l (fun _=>within47 _ _ _) rfl ?_));refine x7 (fun hc=>?_) (fun hc=>?_)))
 ·rw[if_neg (fun h=>by have:=h.n;have:=h.len;omega)]
  refine⟨_,rfl,?_⟩
  exact xc3
 ·have hn:(1≤x.n∧x.n≤6)∧(x.l.length:Int)≤16:=by omega
  refine⟨Nat,fun i=>i≤x.l.length∧∀j,j<i→Cache.OkO x.n (x.l.getD j (0,0)),fun i=>x.l.length-i,fun i=>[(3,.int .i64 (i:Nat)),(10,.any)],fun _=>[],fun _=>[],0,⟨⟨by omega,fun j hj=>by omega⟩,some [some 0],?_⟩,?_⟩
  ·exact xc3
  ·rintro i ⟨h1,h2⟩
   have hti:(i:Int).toNat=i:=a1N i
   have hbad:∀(hi:i<x.l.length),¬Cache.OkO x.n (x.l.getD i (0,0))→¬x.Ok:=fun hi h g=>h (g.ord _ (Cache.at hi))
   (repeat' ((conv=>whnf);first|(with_reducible first|apply spl|apply spl'|refine iJ ?_)<;>intro hc<;>try(exfalso;omega)|refine vcq ?_|fail));all_goals((try conv=>whnf);try exact trivial);(repeat' ((first|(refine a0d (within47 _ _ _) rfl ?_;rintro _ rfl)|(refine a0f (within47 _ _ _) rfl ?_)|(refine a0l (fun _=>within47 _ _ _) rfl ?_)|(refine a0d (puts35 _) rfl ?_;rintro _ rfl)|(refine a0f (puts35 _) rfl ?_)|(refine a0l (fun _=>puts35 _) rfl ?_));refine x7 (fun hc=>?_) (fun hc=>?_)))
   ·have hi:i<x.l.length:=by omega
    rw[hti] at *
    rw[if_neg (hbad hi (fun g=>by unfold Cache.OkO at g;omega))]
    refine⟨_,rfl,?_⟩
    exact xc3
   ·have hi:i<x.l.length:=by omega
    rw[hti] at *
    refine⟨i+1,⟨⟨by omega,fun j hj=>?_⟩,by dsimp only;omega⟩,some [some 0],?_⟩
    ·rcases a0J (show j≤i by omega) with g|rfl
     ·exact h2 j g
     ·unfold Cache.OkO
      omega
    ·exact xc3
   ·have hi:i<x.l.length:=by omega
    rw[hti] at *
    rw[if_neg (hbad hi (fun g=>by unfold Cache.OkO at g;omega))]
    refine⟨_,rfl,?_⟩
    exact xc3
   ·have hi:i<x.l.length:=by omega
    rw[hti] at *
    rw[if_neg (hbad hi (fun g=>by unfold Cache.OkO at g;omega))]
    refine⟨_,rfl,?_⟩
    exact xc3
   ·have hii:i=x.l.length:=by omega
    subst hii
    have hok:x.Ok:=by
     refine⟨hn.1,by omega,fun o ho=>?_⟩
     obtain⟨q,hq,rfl⟩:=a1G ho
     have e:x.l.getD q (0,0)=x.l[q]:=by simp[a0A,hq]
     rw[←e]
     exact h2 q hq
    rw[if_pos hok]
    refine⟨_,rfl,?_⟩
    exact xc3
theorem IsImage33 (x:Cache) (hx:x.l.length≤1000000) (l:List Int) (hl:l.length≤1000000):a0q Tryz.prog 79 false [x.v,.sl 1 l.length (a0u intC 0 l)] (·=.prop (IsImg x l) (Classical.propDecidable _)):=by
 refine a0c Tryz.E_ok Tryz.func79 rfl (by kernel_rfl) ?_
 refine x1 ?_
 refine⟨Nat,fun i=>i≤l.length∧(i:Int)≤max x.n 0∧∀b,b<i→okAt x b (l.getD b 0),fun i=>l.length-i,fun i=>[(5,.int .i64 (i:Nat))],fun _=>[],fun _=>[],0,⟨⟨by omega,by omega,fun b hb=>by omega⟩,some [some 0],?_⟩,?_⟩
 ·exact xc3
 ·rintro i ⟨h1,h1',h2⟩
  have hti:(i:Int).toNat=i:=a1N i
  have hbad:i<l.length→¬okAt x i (l.getD i 0)→¬IsImg x l:=fun hi h g=>h (g.2 i hi)
  (repeat' ((conv=>whnf);first|(with_reducible first|apply spl|apply spl'|refine iJ ?_)<;>intro hc<;>try(exfalso;omega)|refine vcq ?_|fail));all_goals((try conv=>whnf);try exact trivial);(repeat' ((first|(refine a0d (within47 _ _ _) rfl ?_;rintro _ rfl)|(refine a0f (within47 _ _ _) rfl ?_)|(refine a0l (fun _=>within47 _ _ _) rfl ?_)|(refine a0d (puts35 _) rfl ?_;rintro _ rfl)|(refine a0f (puts35 _) rfl ?_)|(refine a0l (fun _=>puts35 _) rfl ?_));refine x7 (fun hc=>?_) (fun hc=>?_)))
  ·have hi:i<l.length:=by omega
   rw[hti] at *
   refine⟨_,rfl,?_⟩
   refine x1 ?_
   refine⟨hbad hi (fun g=>?_),trivial⟩
   unfold okAt at g
   omega
  ·have hi:i<l.length:=by omega
   rw[hti] at *
   refine⟨i+1,⟨⟨by omega,by omega,fun b hb=>?_⟩,by dsimp only;omega⟩,some [some 0],?_⟩
   ·rcases a0J (show b≤i by omega) with g|rfl
    ·exact h2 b g
    ·unfold okAt
     omega
   ·exact xc3
  ·have hi:i<l.length:=by omega
   rw[hti] at *
   refine⟨_,rfl,?_⟩
   refine x1 ?_
   refine⟨hbad hi (fun g=>?_),trivial⟩
   unfold okAt at g
   omega
  ·have hi:i<l.length:=by omega
   rw[hti] at *
   refine⟨i+1,⟨⟨by omega,by omega,fun b hb=>?_⟩,by dsimp only;omega⟩,some [some 0],?_⟩
   ·rcases a0J (show b≤i by omega) with g|rfl
    ·exact h2 b g
    ·unfold okAt
     omega
   ·exact xc3
  ·refine⟨_,rfl,?_⟩
   refine x1 ?_
   refine⟨⟨fun g=>⟨g,fun b hb=>h2 b (by omega)⟩,fun g=>g.1⟩,trivial⟩
namespace Ho
theorem may50 (h:Hist) (hl:h.l.length≤1000000) (r:RT) (hd:r.d.length≤1000000) (n:Nat) (hn:n<h.l.length):a0q Tryz.prog 50 false [h.w,r.v h,.int .i64 n] (·=.prop (MayD h r.d n) (Classical.propDecidable _)):=by
 have hn0:((n:Nat):Int).toNat=n:=by omega
 have e0:h.l.getD ((n:Nat):Int).toNat c0=h.at' n:=by rw[hn0];rfl
 have hmn:((n:Nat):Int)∈iL r.d↔n∈r.d:=mem_iL
 refine a0c Tryz.E_ok Tryz.func50 rfl (by kernel_rfl) ?_
 refine x25 ?_
 refine a0d (in75 r.d n hd) rfl ?_
 rintro _ rfl
 (repeat' ((conv=>whnf);first|(with_reducible first|apply spl|apply spl'|refine iJ ?_)<;>intro hc<;>try(exfalso;omega)|refine vcq ?_|refine dr 10 ?_));all_goals(try conv=>whnf);try exact trivial
 ·refine⟨_,rfl,?_⟩
  refine⟨fun q=>?_,trivial⟩
  exact absurd (hmn.1 hc) q.1
 ·rw[hmn] at hc
  have hnd:=hc
  clear hc
  refine⟨Nat,fun i=>i≤h.l.length∧∀j,j<i→(j∉r.d→(h.at' j).t≠-1→¬(h.at' j).t<(h.at' n).f)∧(j∈r.d→(h.at' j).k=9→¬(h.at' n).f<(h.at' j).f),fun i=>h.l.length-i,fun i=>[(8,.int .i64 (i:Nat)),(9,.any)],fun _=>[],fun _=>[],0,⟨⟨by omega,fun j hj=>by omega⟩,some [some 0,some 1,some 2],?_⟩,?_⟩
  ·exact xc20
  ·rintro i ⟨hi,hI⟩
   have hi0:((i:Nat):Int).toNat=i:=by omega
   have e1:h.l.getD ((i:Nat):Int).toNat c0=h.at' i:=by rw[hi0];rfl
   have hm:((i:Nat):Int)∈iL r.d↔i∈r.d:=mem_iL
   have hin:=in75 r.d i hd
   (repeat' ((conv=>whnf);first|(with_reducible first|apply spl|apply spl'|refine iJ ?_)<;>intro hc<;>try(exfalso;omega)|refine vcq ?_|refine dr 10 ?_));all_goals((try conv=>whnf);try exact trivial);(repeat' ((first|(refine a0d (ropen (h.l.getD ((i:Nat):Int).toNat c0)) rfl ?_;rintro _ rfl)|(refine a0f (ropen (h.l.getD ((i:Nat):Int).toNat c0)) rfl ?_)|(refine a0l (fun _=>ropen (h.l.getD ((i:Nat):Int).toNat c0)) rfl ?_)|(refine a0d (hin) rfl ?_;rintro _ rfl)|(refine a0f (hin) rfl ?_)|(refine a0l (fun _=>hin) rfl ?_));(repeat' ((conv=>whnf);first|(with_reducible first|apply spl|apply spl'|refine iJ ?_)<;>intro hc<;>try(exfalso;omega)|refine vcq ?_|refine dr 10 ?_));all_goals((try conv=>whnf);try exact trivial)))
   all_goals try rw[e1,e0] at *
   all_goals try rw[hm] at *
   all_goals try(refine⟨_,rfl,?_⟩;refine⟨fun q=>?_,trivial⟩;have q2:=q.2 i (by omega);clear q hin hI;simp_all;done)
   ·rename_i x1 x2 x3
    refine⟨i+1,⟨⟨by omega,fun j hj=>?_⟩,by dsimp only;omega⟩,some [some 0,some 1,some 2],?_⟩
    ·rcases a0J (show j≤i by omega) with q|rfl
     ·exact hI j q
     ·exact⟨fun _ u w=>x3 ⟨u,w⟩,fun t u w=>hc ⟨⟨t,u⟩,w⟩⟩
    ·exact xc20
   ·rename_i x1 x2
    refine⟨i+1,⟨⟨by omega,fun j hj=>?_⟩,by dsimp only;omega⟩,some [some 0,some 1,some 2],?_⟩
    ·rcases a0J (show j≤i by omega) with q|rfl
     ·exact hI j q
     ·exact⟨fun t _ _=>absurd t x2,fun t u w=>hc ⟨⟨t,u⟩,w⟩⟩
    ·exact xc20
   ·refine⟨_,rfl,?_⟩
    exact⟨⟨hnd,fun j hj=>hI j (by omega)⟩,trivial⟩
theorem resO_take1 (h:Hist) (b z:Int) (O:List Nat) {i:Nat} (hi:i<O.length):h.resO b z (O.take (i+1))=if(h.at' (O.getD i 0)).Puts∧(h.at' (O.getD i 0)).b=b then(h.at' (O.getD i 0)).v else h.resO b z (O.take i):=by
 have e:O.take (i+1)=O.take i++[O.getD i 0]:=by
  rw[List.take_add_one,a0D hi,a0A,a0D hi]
  rfl
 rw[e,Hist.resO_snoc]
theorem result51 (h:Hist) (hl:h.l.length≤1000000) (r:RT) (hO:∀i∈r.O,i<h.l.length) (hlen:r.O.length≤1000000) (b:Nat) (hb:b<r.K.length) (hb6:b≤1000000):a0q Tryz.prog 51 false [h.w,r.v h,.int .i64 b] (·=.int .i64 (h.resO b (r.K.getD b 0) r.O)):=by
 refine a0c Tryz.E_ok Tryz.func51 rfl (by kernel_rfl) ?_
 refine x25 ?_
 refine⟨Nat,fun i=>i≤r.O.length∧h.resO b (r.K.getD b 0) r.O=h.resO b (r.K.getD b 0) (r.O.take i),fun i=>i,fun i=>[(7,.int .i64 ((i:Nat)-1)),(8,.any)],fun _=>[],fun _=>[],r.O.length,⟨⟨a0U _,by rw[a3B]⟩,some [some 0,some 1],?_⟩,?_⟩
 ·exact xc20
 ·rintro i ⟨hi,hI⟩
  have hil:0<i→((iL r.O).getD (((i:Nat):Int)-1).toNat 0=(r.O.getD (i-1) 0:Nat))∧r.O.getD (i-1) 0<h.l.length:=by
   intro h0
   rw[show(((i:Nat):Int)-1).toNat=i-1 by omega,iL_get _ (by omega)]
   refine⟨rfl,hO _ ?_⟩
   rw[a0A,a0D (by omega)]
   exact a1F _
  (repeat' ((conv=>whnf);first|(with_reducible first|apply spl|apply spl'|refine iJ ?_)<;>intro hc<;>try(exfalso;omega)|refine vcq ?_|refine dr 10 ?_));all_goals(try conv=>whnf);try exact trivial
  ·have h0:0<i:=by omega
   obtain⟨e1,e2⟩:=hil h0
   have hi1:((i:Nat):Int)-1=((i-1:Nat):Int):=by omega
   have ha:h.l.getD ((iL r.O).getD (((i:Nat):Int)-1).toNat 0).toNat c0=h.at' (r.O.getD (i-1) 0):=by rw[e1,a1N];rfl
   have hst:=resO_take1 h b (r.K.getD b 0) r.O (i:=i-1) (by omega)
   rw[show i-1+1=i by omega] at hst
   refine a0d (rputs (h.l.getD ((iL r.O).getD (((i:Nat):Int)-1).toNat 0).toNat c0)) rfl ?_
   rintro _ rfl
   rw[ha]
   (repeat' ((conv=>whnf);first|(with_reducible first|apply spl|apply spl'|refine iJ ?_)<;>intro hc<;>try(exfalso;omega)|refine vcq ?_|refine dr 10 ?_));all_goals(try conv=>whnf);try exact trivial
   ·rw[if_pos (by assumption),←hI] at hst
    refine⟨_,rfl,?_⟩
    exact⟨hst.symm,trivial⟩
   ·rw[if_neg (by assumption)] at hst
    refine⟨i-1,⟨⟨by omega,by rw[hI,hst]⟩,by dsimp only;omega⟩,some [some 0,some 1],?_⟩
    exact xc20
  ·obtain rfl:i=0:=by omega
   rw[List.take_zero] at hI
   refine⟨_,rfl,?_⟩
   refine⟨?_,trivial⟩
   rw[hI]
   rfl
end Ho
theorem nnew_intro {P:Program} {g:FuncId} {args:List V} {R:V→List O→Prop} {F:V→List O→Prop} {G G2:Prop} (h:NewC P g args R) (hfo:foL args=true) (hf:∀v obs,R v obs→F v obs):G∨(∃R,NNew P g args R∧∀v obs,R v obs→F v obs)∨G2:=by
 refine .inr (.inl ⟨R,?_,hf⟩)
 unfold NNew
 exact⟨hfo,h⟩
theorem Copy24 (x:Cache) (hl:x.l.length≤1000000):NewC Tryz.prog 77 [x.v] (fun r H=>r=.agg [.int .i64 x.n,.osl 0 x.l.length]∧H=[.row 100 2 x.l.length (a0u oC (0,0) x.l) false]):=by
 refine newC_ent Tryz.E_ok Tryz.func77 rfl (by kernel_rfl) ?_
 refine x5 ?_
 refine⟨_,_,⟨rfl,rfl⟩,some [some 3],?_⟩
 exact xc19
namespace Ho
theorem iL_snoc (l:List Nat) (n:Nat):iL (l++[n])=iL l++[(n:Int)]:=by unfold iL;rw[List.map_append];rfl
theorem app0 {g f:Nat→List V} {m:Nat}:∀i,i<m→appF 0 g f i=f i:=fun i _=>by unfold appF;rw[if_neg (Nat.not_lt_zero i)];rfl
theorem snocI {l:List Nat} {n m:Nat} {f:Nat→List V} (hm:m=l.length) (hf:∀i,i<m→f i=a0u intC 0 (iL l) i):∀i,i<m+1→appF m f (fun _=>[.int .i64 (n:Int)]) i=a0u intC 0 (iL (l++[n])) i:=by
 rw[iL_snoc]
 exact a2d (c:=intC) (a:=(n:Int)) (l:=iL l) (by rw[iL_len];exact hm) hf
theorem cache_snoc (h:Hist) (O:List Nat) (n:Nat):(h.cache (O++[n])).l=(h.cache O).l++[(h.at' n).o]:=by
 change List.map _ _=List.map _ _++_
 rw[a1L]
 rfl
theorem rdo52 (h:Hist) (hl:h.l.length≤1000000) (r:RT) (hO:r.O.length≤1000000) (hd:r.d.length≤1000000) (n:Nat) (hn:n<h.l.length):a0q Tryz.prog 52 true [h.w,r.v h,.int .i64 n] (·=(r.doO h n).v h):=by
 have hn0:((n:Nat):Int).toNat=n:=by omega
 have e0:h.l.getD ((n:Nat):Int).toNat c0=h.at' n:=by rw[hn0];rfl
 refine a0c Tryz.E_ok Tryz.func52 rfl (by kernel_rfl) ?_
 have hcl:(h.cache r.O).l.length=r.O.length:=a2M ..
 (repeat' ((conv=>whnf);first|(with_reducible first|apply spl|apply spl'|refine iJ ?_)<;>intro hc<;>try(exfalso;omega)|refine vcq ?_|refine dr 12181116101509130812071106090508040603052013 ?_));all_goals(try conv=>whnf);try exact trivial
 refine nnew_intro (Copy24 (h.cache r.O) (by omega)) rfl ?_
 rintro _ _ ⟨rfl,rfl⟩
 (repeat' ((conv=>whnf);first|(with_reducible first|apply spl|apply spl'|refine iJ ?_)<;>intro hc<;>try(exfalso;omega)|refine vcq ?_|refine dr 12181116101509130812071106090508040603052013 ?_));all_goals(try conv=>whnf);try exact trivial
 dsimp only
 rw[e0]
 generalize hc0:h.at' n=c at *
 (repeat' ((conv=>whnf);first|(with_reducible first|apply spl|apply spl'|refine iJ ?_)<;>intro hc<;>try(exfalso;omega)|refine vcq ?_|refine dr 12181116101509130812071106090508040603052013 ?_));all_goals((try conv=>whnf);try exact trivial);(repeat' ((first|(refine a0d (ropen c) rfl ?_;rintro _ rfl)|(refine a0f (ropen c) rfl ?_)|(refine a0l (fun _=>ropen c) rfl ?_));(repeat' ((conv=>whnf);first|(with_reducible first|apply spl|apply spl'|refine iJ ?_)<;>intro hc<;>try(exfalso;omega)|refine vcq ?_|refine dr 12181116101509130812071106090508040603052013 ?_));all_goals((try conv=>whnf);try exact trivial)))
 ·have e:c.isO=false:=by unfold Cmd.isO;rcases hc with q|q<;>simp[q]
  refine⟨_,rfl,?_⟩
  unfold RT.v RT.c RT.doO
  rw[hc0,e]
  simp only[a2T,if_false]
  (repeat' ((conv=>whnf);first|(with_reducible first|apply spl|apply spl'|refine iJ ?_)<;>intro hc<;>try(exfalso;omega)|refine vcq ?_|refine dr 12181116101509130812071106090508040603052013 ?_));all_goals(try conv=>whnf);try exact trivial
  refine⟨by simp,snocI (by omega) app0,.inl rfl,?_⟩
  (repeat' ((conv=>whnf);first|(with_reducible first|apply spl|apply spl'|refine iJ ?_)<;>intro hc<;>try(exfalso;omega)|refine vcq ?_|refine dr 12181116101509130812071106090508040603052013 ?_));all_goals(try conv=>whnf);try exact trivial
 ·have e:c.isO=true:=by unfold Cmd.isO;by_cases q:c.k=4<;>simp_all
  have ho:c.o=(1,c.b):=by unfold Cmd.o;rw[if_pos ⟨by assumption,by assumption⟩]
  refine⟨_,rfl,?_⟩
  unfold RT.v RT.c RT.doO
  rw[hc0,e]
  simp only[if_true]
  (repeat' ((conv=>whnf);first|(with_reducible first|apply spl|apply spl'|refine iJ ?_)<;>intro hc<;>try(exfalso;omega)|refine vcq ?_|refine dr 12181116101509130812071106090508040603052013 ?_));all_goals(try conv=>whnf);try exact trivial
  refine⟨by simp,snocI (by omega) app0,.inl rfl,?_⟩
  (repeat' ((conv=>whnf);first|(with_reducible first|apply spl|apply spl'|refine iJ ?_)<;>intro hc<;>try(exfalso;omega)|refine vcq ?_|refine dr 12181116101509130812071106090508040603052013 ?_));all_goals(try conv=>whnf);try exact trivial
  refine⟨by rw[cache_snoc];simp,by rw[cache_snoc,hc0,ho];exact a2d (c:=oC) (a:=(1,c.b)) rfl (fun _ _=>rfl),.inl rfl,?_⟩
  (repeat' ((conv=>whnf);first|(with_reducible first|apply spl|apply spl'|refine iJ ?_)<;>intro hc<;>try(exfalso;omega)|refine vcq ?_|refine dr 12181116101509130812071106090508040603052013 ?_));all_goals(try conv=>whnf);try exact trivial
  refine⟨by simp,snocI (by omega) app0,.inl rfl,?_⟩
  (repeat' ((conv=>whnf);first|(with_reducible first|apply spl|apply spl'|refine iJ ?_)<;>intro hc<;>try(exfalso;omega)|refine vcq ?_|refine dr 12181116101509130812071106090508040603052013 ?_));all_goals(try conv=>whnf);try exact trivial
 all_goals
  have e:c.isO=true:=by unfold Cmd.isO;by_cases q:c.k=4<;>simp_all
  have ho:c.o=(c.k,c.b):=by unfold Cmd.o;rw[if_neg (fun q=>by simp_all)]
  refine⟨_,rfl,?_⟩
  unfold RT.v RT.c RT.doO
  rw[hc0,e]
  simp only[if_true]
  (repeat' ((conv=>whnf);first|(with_reducible first|apply spl|apply spl'|refine iJ ?_)<;>intro hc<;>try(exfalso;omega)|refine vcq ?_|refine dr 12181116101509130812071106090508040603052013 ?_));all_goals(try conv=>whnf);try exact trivial
  refine⟨by simp,snocI (by omega) app0,.inl rfl,?_⟩
  (repeat' ((conv=>whnf);first|(with_reducible first|apply spl|apply spl'|refine iJ ?_)<;>intro hc<;>try(exfalso;omega)|refine vcq ?_|refine dr 12181116101509130812071106090508040603052013 ?_));all_goals(try conv=>whnf);try exact trivial
  refine⟨by rw[cache_snoc];simp,by rw[cache_snoc,hc0,ho];exact a2d (c:=oC) (a:=(c.k,c.b)) rfl (fun _ _=>rfl),.inl rfl,?_⟩
  (repeat' ((conv=>whnf);first|(with_reducible first|apply spl|apply spl'|refine iJ ?_)<;>intro hc<;>try(exfalso;omega)|refine vcq ?_|refine dr 12181116101509130812071106090508040603052013 ?_));all_goals(try conv=>whnf);try exact trivial
  refine⟨by simp,snocI (by omega) app0,.inl rfl,?_⟩
  (repeat' ((conv=>whnf);first|(with_reducible first|apply spl|apply spl'|refine iJ ?_)<;>intro hc<;>try(exfalso;omega)|refine vcq ?_|refine dr 12181116101509130812071106090508040603052013 ?_));all_goals(try conv=>whnf);try exact trivial
theorem rfall54 (h:Hist) (hl:h.l.length≤1000000) (hn:h.n=h.nn) (hn6:h.nn≤6) (r:RT) (hO:∀i∈r.O,i<h.l.length) (hOl:r.O.length≤1000000) (hd:r.d.length≤1000000) (hK:r.K.length=h.nn) (n:Nat) (hn1:n≤1000000) (f:Nat→Int) (hf:∀b,b<h.nn→-2≤f b∧(0≤f b→(f b).toNat<r.O.length)):a0q Tryz.prog 54 false [h.w,r.v h,.int .i64 n,.sl 1 h.nn (iF f)] (·=(r.fall h n f).v h):=by
 have hcl:(h.cache r.O).l.length=r.O.length:=a2M ..
 have hdl:=iL_len r.d
 refine a0c Tryz.E_ok Tryz.func54 rfl (by kernel_rfl) ?_
 (repeat' ((conv=>whnf);first|(with_reducible first|apply spl|apply spl'|refine iJ ?_)<;>intro hc<;>try(exfalso;omega)|refine vcq ?_|refine dr 1116101309120811071006090508040603052012 ?_|refine dr 17 ?_));all_goals(try conv=>whnf);try exact trivial
 dsimp only
 refine⟨Nat,fun b=>b≤h.nn,fun b=>h.nn-b,fun b=>[(10,.int .i64 (b:Nat)),(11,.any),(12,.any),(13,.any),(14,.any),(15,.any),(16,.any),(17,.any),(18,.any),(19,.any),(20,.any),(21,.any),(22,.any),(23,.any),(24,.any),(25,.any)],fun b=>[(9,.row 3 1 h.nn (fun j=>[.int .i64 (if j<b then r.kf h f j else r.K.getD j 0)]) false)],fun _=>[],0,⟨a2A _,some [some 0,some 1,some 2,some 3,some 4,some 5,some 6,some 7,some 8,some 9],?_⟩,?_⟩
 ·(repeat' ((conv=>whnf);first|(with_reducible first|apply spl|apply spl'|refine iJ ?_)<;>intro hc<;>try(exfalso;omega)|refine vcq ?_|refine dr 1116101309120811071006090508040603052012 ?_|refine dr 17 ?_));all_goals(try conv=>whnf);try exact trivial
 ·intro b hb
  have hb:b≤h.nn:=hb
  have hb0:((b:Nat):Int).toNat=b:=by omega
  by_cases hbn:b<h.nn
  ·have hfb:=hf b hbn
   have hkb:r.kf h f b=if f b=-2 then -1 else if 0≤f b then(h.at' (r.O.getD (f b).toNat 0)).v else r.K.getD b 0:=rfl
   have hrow:∀v:Int,v=r.kf h f b→∀j,[V.int .i64 (if j<b+1 then r.kf h f j else r.K.getD j 0)]=if j=b then [V.int .i64 v] else [V.int .i64 (if j<b then r.kf h f j else r.K.getD j 0)]:=by
    rintro v rfl j
    by_cases e:j=b
    ·subst e;simp
    ·rw[if_neg e]
     by_cases e2:j<b
     ·rw[if_pos e2,if_pos (by omega)]
     ·rw[if_neg e2,if_neg (by omega)]
   (repeat' ((conv=>whnf);first|(with_reducible first|apply spl|apply spl'|refine iJ ?_)<;>intro hc<;>try(exfalso;omega)|refine vcq ?_|refine dr 1116101309120811071006090508040603052012 ?_|refine dr 17 ?_));all_goals(try conv=>whnf);try exact trivial
   all_goals rw[hb0] at *
   ·rename_i q1
    rw[if_pos q1] at hkb
    refine⟨b+1,⟨by omega,by dsimp only;omega⟩,some [some 0,some 1,some 2,some 3,some 4,some 5,some 6,some 7,some 8,some 9],?_⟩
    (repeat' ((conv=>whnf);first|(with_reducible first|apply spl|apply spl'|refine iJ ?_)<;>intro hc<;>try(exfalso;omega)|refine vcq ?_|refine dr 1116101309120811071006090508040603052012 ?_|refine dr 17 ?_));all_goals(try conv=>whnf);try exact trivial
    refine⟨fun j _=>?_,?_⟩
    ·dsimp only
     rw[hrow _ hkb.symm j]
     by_cases e:j=b
     ·rw[a2u e,if_pos e];rfl
     ·rw[a2a e,if_neg e]
    ·(repeat' ((conv=>whnf);first|(with_reducible first|apply spl|apply spl'|refine iJ ?_)<;>intro hc<;>try(exfalso;omega)|refine vcq ?_|refine dr 1116101309120811071006090508040603052012 ?_|refine dr 17 ?_));all_goals(try conv=>whnf);try exact trivial
   ·rename_i q1
    have hq:=hfb.2 hc
    have ho:=iL_get r.O hq
    have hol:r.O.getD (f b).toNat 0<h.l.length:=hO _ (by rw[a0A,a0D hq];exact a1F _)
    rw[if_neg q1,if_pos hc] at hkb
    refine⟨⟨hc,by omega⟩,?_⟩
    (repeat' ((conv=>whnf);first|(with_reducible first|apply spl|apply spl'|refine iJ ?_)<;>intro hc<;>try(exfalso;omega)|refine vcq ?_|refine dr 1116101309120811071006090508040603052012 ?_|refine dr 17 ?_));all_goals(try conv=>whnf);try exact trivial
    rw[ho]
    rw[a1N,a1N]
    refine⟨b+1,⟨by omega,by dsimp only;omega⟩,some [some 0,some 1,some 2,some 3,some 4,some 5,some 6,some 7,some 8,some 9],?_⟩
    (repeat' ((conv=>whnf);first|(with_reducible first|apply spl|apply spl'|refine iJ ?_)<;>intro hc<;>try(exfalso;omega)|refine vcq ?_|refine dr 1116101309120811071006090508040603052012 ?_|refine dr 17 ?_));all_goals(try conv=>whnf);try exact trivial
    refine⟨fun j _=>?_,?_⟩
    ·dsimp only
     rw[hrow _ hkb.symm j]
     by_cases e:j=b
     ·rw[a2u e,if_pos e];rfl
     ·rw[a2a e,if_neg e]
    ·(repeat' ((conv=>whnf);first|(with_reducible first|apply spl|apply spl'|refine iJ ?_)<;>intro hc<;>try(exfalso;omega)|refine vcq ?_|refine dr 1116101309120811071006090508040603052012 ?_|refine dr 17 ?_));all_goals(try conv=>whnf);try exact trivial
   ·rename_i q1
    rw[if_neg q1,if_neg hc] at hkb
    refine⟨b+1,⟨by omega,by dsimp only;omega⟩,some [some 0,some 1,some 2,some 3,some 4,some 5,some 6,some 7,some 8,some 9],?_⟩
    (repeat' ((conv=>whnf);first|(with_reducible first|apply spl|apply spl'|refine iJ ?_)<;>intro hc<;>try(exfalso;omega)|refine vcq ?_|refine dr 1116101309120811071006090508040603052012 ?_|refine dr 17 ?_));all_goals(try conv=>whnf);try exact trivial
    refine⟨fun j _=>?_,?_⟩
    ·dsimp only
     rw[hrow _ hkb.symm j]
     by_cases e:j=b
     ·subst e;rw[if_pos rfl,if_neg (Nat.lt_irrefl _)]
     ·rw[if_neg e]
    ·(repeat' ((conv=>whnf);first|(with_reducible first|apply spl|apply spl'|refine iJ ?_)<;>intro hc<;>try(exfalso;omega)|refine vcq ?_|refine dr 1116101309120811071006090508040603052012 ?_|refine dr 17 ?_));all_goals(try conv=>whnf);try exact trivial
  ·obtain rfl:b=h.nn:=by omega
   clear hf
   (repeat' ((conv=>whnf);first|(with_reducible first|apply spl|apply spl'|refine iJ ?_)<;>intro hc<;>try(exfalso;omega)|refine vcq ?_|refine dr 1116101309120811071006090508040603052012 ?_|refine dr 17 ?_));all_goals(try conv=>whnf);try exact trivial
   refine⟨_,rfl,?_⟩
   unfold RT.v RT.c RT.fall
   (repeat' ((conv=>whnf);first|(with_reducible first|apply spl|apply spl'|refine iJ ?_)<;>intro hc<;>try(exfalso;omega)|refine vcq ?_|refine dr 1116101309120811071006090508040603052012 ?_|refine dr 17 ?_));all_goals(try conv=>whnf);try exact trivial
   refine⟨by simp,snocI (by omega) app0,.inr fun _ _=>rfl,?_⟩
   (repeat' ((conv=>whnf);first|(with_reducible first|apply spl|apply spl'|refine iJ ?_)<;>intro hc<;>try(exfalso;omega)|refine vcq ?_|refine dr 1116101309120811071006090508040603052012 ?_|refine dr 17 ?_));all_goals(try conv=>whnf);try exact trivial
   refine⟨by simp[hK],fun j hj=>?_,.inr fun _ _=>rfl,?_⟩
   ·have hj':j<h.nn:=by omega
    dsimp only
    rw[if_pos hj']
    unfold a0u
    simp[a0A,hj']
    rfl
   ·(repeat' ((conv=>whnf);first|(with_reducible first|apply spl|apply spl'|refine iJ ?_)<;>intro hc<;>try(exfalso;omega)|refine vcq ?_|refine dr 1116101309120811071006090508040603052012 ?_|refine dr 17 ?_));all_goals(try conv=>whnf);try exact trivial
theorem list_eq_iff (a b:List Int):a=b↔a.length=b.length∧∀i,i<a.length→a.getD i 0=b.getD i 0:=by
 constructor
 ·rintro rfl;exact⟨rfl,fun _ _=>rfl⟩
 ·rintro⟨h1,h2⟩
  apply a1U h1
  intro i g1 g2
  have:=h2 i g1
  rwa [a0A,a0A,a0D g1,a0D g2] at this
theorem same102 (a b:List Int) (ha:a.length≤1000000) (hb:b.length≤1000000):a0q Tryz.prog 102 false [.sl 1 a.length (a0u intC 0 a),.sl 1 b.length (a0u intC 0 b)] (·=.prop (a=b) (Classical.propDecidable _)):=by
 refine a0c Tryz.E_ok Tryz.func102 rfl (by kernel_rfl) ?_
 (repeat' ((conv=>whnf);first|(with_reducible first|apply spl|apply spl'|refine iJ ?_)<;>intro hc<;>try(exfalso;omega)|refine vcq ?_|refine dr 9 ?_));all_goals(try conv=>whnf);try exact trivial
 refine⟨Nat,fun i=>i≤a.length∧i≤b.length∧∀j,j<i→a.getD j 0=b.getD j 0,fun i=>a.length-i,fun i=>[(5,.int .i64 (i:Nat))],fun _=>[],fun _=>[],0,⟨⟨by omega,by omega,fun b hb=>by omega⟩,none,?_⟩,?_⟩
 ·(repeat' ((conv=>whnf);first|(with_reducible first|apply spl|apply spl'|refine iJ ?_)<;>intro hc<;>try(exfalso;omega)|refine vcq ?_|refine dr 9 ?_));all_goals(try conv=>whnf);try exact trivial
 ·rintro i ⟨h1,h1',h2⟩
  have hti:(i:Int).toNat=i:=a1N i
  (repeat' ((conv=>whnf);first|(with_reducible first|apply spl|apply spl'|refine iJ ?_)<;>intro hc<;>try(exfalso;omega)|refine vcq ?_|refine dr 9 ?_));all_goals(try conv=>whnf);try exact trivial
  ·refine⟨_,rfl,?_⟩
   refine⟨fun h=>?_,trivial⟩
   rw[hti,h] at hc
   exact hc rfl
  ·rw[hti] at hc
   refine⟨i+1,⟨⟨by omega,by omega,fun j hj=>?_⟩,by dsimp only;omega⟩,none,?_⟩
   ·rcases a0J (show j≤i by omega) with h|rfl
    ·exact h2 j h
    ·exact a0T.1 hc
   ·(repeat' ((conv=>whnf);first|(with_reducible first|apply spl|apply spl'|refine iJ ?_)<;>intro hc<;>try(exfalso;omega)|refine vcq ?_|refine dr 9 ?_));all_goals(try conv=>whnf);try exact trivial
  ·refine⟨_,rfl,?_⟩
   refine⟨?_,trivial⟩
   rw[list_eq_iff]
   exact⟨fun h=>⟨by omega,fun j hj=>h2 j (by omega)⟩,fun h=>by omega⟩
theorem set103 (a b:List Nat) (ha:a.length≤1000000) (hb:b.length≤1000000):a0q Tryz.prog 103 false [.sl 1 a.length (a0u intC 0 (iL a)),.sl 1 b.length (a0u intC 0 (iL b))] (·=.prop ((∀x∈a,x∈b)∧a.length=b.length) (Classical.propDecidable _)):=by
 have hla:=iL_len a
 have hlb:=iL_len b
 refine a0c Tryz.E_ok Tryz.func103 rfl (by kernel_rfl) ?_
 (repeat' ((conv=>whnf);first|(with_reducible first|apply spl|apply spl'|refine iJ ?_)<;>intro hc<;>try(exfalso;omega)|refine vcq ?_|refine dr 9 ?_));all_goals(try conv=>whnf);try exact trivial
 refine⟨Nat,fun i=>i≤a.length∧∀j,j<i→a.getD j 0∈b,fun i=>a.length-i,fun i=>[(5,.int .i64 (i:Nat))],fun _=>[],fun _=>[],0,⟨⟨by omega,fun b hb=>by omega⟩,none,?_⟩,?_⟩
 ·(repeat' ((conv=>whnf);first|(with_reducible first|apply spl|apply spl'|refine iJ ?_)<;>intro hc<;>try(exfalso;omega)|refine vcq ?_|refine dr 9 ?_));all_goals(try conv=>whnf);try exact trivial
 ·rintro i ⟨h1,h2⟩
  have hti:(i:Int).toNat=i:=a1N i
  (repeat' ((conv=>whnf);first|(with_reducible first|apply spl|apply spl'|refine iJ ?_)<;>intro hc<;>try(exfalso;omega)|refine vcq ?_|refine dr 9 ?_));all_goals(try conv=>whnf);try exact trivial
  ·have hm:(iL a).getD (i:Int).toNat 0=((a.getD i 0:Nat):Int):=by rw[hti,iL_get _ (by omega)]
   rw[hm]
   refine a0d (in75 b (a.getD i 0) hb) rfl ?_
   rintro _ rfl
   have hmm:((a.getD i 0:Nat):Int)∈iL b↔a.getD i 0∈b:=mem_iL
   (repeat' ((conv=>whnf);first|(with_reducible first|apply spl|apply spl'|refine iJ ?_)<;>intro hc<;>try(exfalso;omega)|refine vcq ?_|refine dr 9 ?_));all_goals(try conv=>whnf);try exact trivial
   all_goals rw[hmm] at hc
   ·refine⟨_,rfl,?_⟩
    refine⟨fun h=>?_,trivial⟩
    refine hc (h.1 _ ?_)
    rw[a0A,a0D (show i<a.length by omega)]
    exact a1F _
   ·refine⟨i+1,⟨⟨by omega,fun j hj=>?_⟩,by dsimp only;omega⟩,none,?_⟩
    ·rcases a0J (show j≤i by omega) with h|rfl
     ·exact h2 j h
     ·exact a0T.1 hc
    ·(repeat' ((conv=>whnf);first|(with_reducible first|apply spl|apply spl'|refine iJ ?_)<;>intro hc<;>try(exfalso;omega)|refine vcq ?_|refine dr 9 ?_));all_goals(try conv=>whnf);try exact trivial
  ·refine⟨_,rfl,?_⟩
   refine⟨?_,trivial⟩
   refine⟨fun h=>⟨fun x hx=>?_,by omega⟩,fun h=>by omega⟩
   obtain⟨j,hj,rfl⟩:=a1G hx
   have:=h2 j (by omega)
   rwa [a0A,a0D hj] at this
theorem same102n (a b:List Nat) (ha:a.length≤1000000) (hb:b.length≤1000000):a0q Tryz.prog 102 false [.sl 1 a.length (a0u intC 0 (iL a)),.sl 1 b.length (a0u intC 0 (iL b))] (·=.prop (a=b) (Classical.propDecidable _)):=by
 have:=same102 (iL a) (iL b) (by rw[iL_len];exact ha) (by rw[iL_len];exact hb)
 rw[iL_len,iL_len,propext (iL_inj (a:=a) (b:=b))] at this
 exact this
theorem exlt1 {p:Nat→Prop} {i:Nat}:(∃q,q<i+1∧p q)↔(∃q,q<i∧p q)∨p i:=by
 constructor
 ·rintro⟨q,h1,h2⟩
  rcases a0J (show q≤i by omega) with g|rfl
  ·exact .inl ⟨q,g,h2⟩
  ·exact .inr h2
 ·rintro(⟨q,h1,h2⟩|h)
  ·exact⟨q,by omega,h2⟩
  ·exact⟨i,by omega,h⟩
end Ho
theorem old45 (x:Cache) (n:Nat) (hn:x.n=n) (hn6:n≤1000000):NewC Tryz.prog 163 [x.v] (fun r H=>r=.osl 0 n∧H=[.row 3 1 n (fun _=>[.int .i64 (-1)]) true]):=by
 refine newC_ent Tryz.E_ok Tryz.func163 rfl (by kernel_rfl) ?_
 rw[show x.v=.agg [.int .i64 n,.sl 2 x.l.length (a0u oC (0,0) x.l)] from by unfold Cache.v;rw[hn]]
 (repeat' ((conv=>whnf);first|(with_reducible first|apply spl|apply spl'|refine iJ ?_)<;>intro hc<;>try(exfalso;omega)|refine vcq ?_|refine dr 6 ?_|refine dr 2008 ?_|refine dr 508040603052006 ?_));all_goals(try conv=>whnf);try exact trivial
 refine⟨Nat,fun i=>i≤n,fun i=>n-i,fun i=>[(4,.int .i64 (i:Nat)),(3,.osl 1 i)],fun _=>[],fun i=>[.row 3 1 i (fun _=>[.int .i64 (-1)]) true],0,⟨by omega,some [some 0,none],?_⟩,?_⟩
 ·(repeat' ((conv=>whnf);first|(with_reducible first|apply spl|apply spl'|refine iJ ?_)<;>intro hc<;>try(exfalso;omega)|refine vcq ?_|refine dr 6 ?_|refine dr 2008 ?_|refine dr 508040603052006 ?_));all_goals(try conv=>whnf);try exact trivial
 ·intro i hi
  have hi:i≤n:=hi
  (repeat' ((conv=>whnf);first|(with_reducible first|apply spl|apply spl'|refine iJ ?_)<;>intro hc<;>try(exfalso;omega)|refine vcq ?_|refine dr 6 ?_|refine dr 2008 ?_|refine dr 508040603052006 ?_));all_goals(try conv=>whnf);try exact trivial
  ·refine⟨i+1,⟨by omega,by dsimp only;omega⟩,some [some 0,some 3],?_⟩
   (repeat' ((conv=>whnf);first|(with_reducible first|apply spl|apply spl'|refine iJ ?_)<;>intro hc<;>try(exfalso;omega)|refine vcq ?_|refine dr 6 ?_|refine dr 2008 ?_|refine dr 508040603052006 ?_));all_goals(try conv=>whnf);try exact trivial
   refine⟨appF_one rfl,?_⟩
   (repeat' ((conv=>whnf);first|(with_reducible first|apply spl|apply spl'|refine iJ ?_)<;>intro hc<;>try(exfalso;omega)|refine vcq ?_|refine dr 6 ?_|refine dr 2008 ?_|refine dr 508040603052006 ?_));all_goals(try conv=>whnf);try exact trivial
  ·obtain rfl:i=n:=by omega
   refine⟨_,_,⟨rfl,rfl⟩,some [some 1],?_⟩
   (repeat' ((conv=>whnf);first|(with_reducible first|apply spl|apply spl'|refine iJ ?_)<;>intro hc<;>try(exfalso;omega)|refine vcq ?_|refine dr 6 ?_|refine dr 2008 ?_|refine dr 508040603052006 ?_));all_goals(try conv=>whnf);try exact trivial
theorem old45p (x:Cache) (n:Nat) (hn:x.n=n) (hn6:n≤1000000):a0q Tryz.prog 163 false [x.v] (·=.sl 1 n (fun _=>[.int .i64 (-1)])):=by
 refine(old45 x n hn hn6).pure ?_
 rintro _ _ ⟨rfl,rfl⟩
 refine⟨_,rfl,?_⟩
 (repeat' ((conv=>whnf);first|(with_reducible first|apply spl|apply spl'|refine iJ ?_)<;>intro hc<;>try(exfalso;omega)|refine vcq ?_|refine dr 6 ?_|refine dr 2008 ?_|refine dr 508040603052006 ?_));all_goals(try conv=>whnf);try exact trivial
theorem begin16 (x:Cache) (n:Nat) (hn:x.n=n) (hn6:n≤1000000):a0q Tryz.prog 123 true [x.v] (·=RS.begin.v n):=by
 refine a0c Tryz.E_ok Tryz.func123 rfl (by kernel_rfl) ?_
 refine x0 ?_
 refine a0f (old45p x n hn hn6) rfl ?_
 refine x0 ?_
 refine a0f (old45p x n hn hn6) rfl ?_
 refine x0 ?_
 refine⟨_,rfl,?_⟩
 (repeat' ((conv=>whnf);first|(with_reducible first|apply spl|apply spl'|refine iJ ?_)<;>intro hc<;>try(exfalso;omega)|refine vcq ?_|refine dr 6 ?_|refine dr 2008 ?_|refine dr 508040603052006 ?_));all_goals(try conv=>whnf);try exact trivial
 refine⟨fun i hi=>by(obtain rfl:i=0:=by omega);rfl,.inl rfl,?_⟩
 (repeat' ((conv=>whnf);first|(with_reducible first|apply spl|apply spl'|refine iJ ?_)<;>intro hc<;>try(exfalso;omega)|refine vcq ?_|refine dr 6 ?_|refine dr 2008 ?_|refine dr 508040603052006 ?_));all_goals(try conv=>whnf);try exact trivial
def RS.h (n:Nat) (s:RS) (β:Nat→Option Nat×Nat):List O:=[.row 3 1 n s.medF false,.grid 38 3 1 s.E.length (fun _=>n) (fun e b=>[.int .i64 (s.ep e b)]) β none true]
theorem copied49 (n:Nat) (hn:1≤n∧n≤1000) (s:RS) (hE:s.E.length≤1000):NewC Tryz.prog 165 [s.v n] (fun r H=>∃β,r=.agg [.osl 0 n,.osl 1 s.E.length,.int .i64 s.W]∧H=s.h n β):=by
 refine newC_ent Tryz.E_ok Tryz.func165 rfl (by kernel_rfl) ?_
 (repeat' ((conv=>whnf);first|(with_reducible first|apply spl|apply spl'|refine iJ ?_)<;>intro hc<;>try(exfalso;omega)|refine vcq ?_|refine dr 508040603052006 ?_));all_goals(try conv=>whnf);try exact trivial
 refine⟨Nat×(Nat→Option Nat×Nat),fun q=>q.1≤s.E.length,fun q=>s.E.length-q.1,fun q=>[(4,.int .i64 (q.1:Nat)),(5,.any),(8,.any)],fun q=>[(3,.cells 142 [.osl 4 n,.osl 5 q.1,.int .i64 s.W]),(4,.row 3 1 n s.medF false)],fun q=>[.grid 38 3 1 q.1 (fun _=>n) (fun e b=>[.int .i64 (s.ep e b)]) q.2 none true],(0,fun _=>(none,0)),⟨by dsimp only;omega,some [some 0,some 1,some 2,some 3,some 4,none],?_⟩,?_⟩
 ·(repeat' ((conv=>whnf);first|(with_reducible first|apply spl|apply spl'|refine iJ ?_)<;>intro hc<;>try(exfalso;omega)|refine vcq ?_|refine dr 6 ?_|refine dr 2008 ?_|refine dr 508040603052006 ?_));all_goals(try conv=>whnf);try exact trivial
 ·rintro⟨i,β⟩ hi
  dsimp only at hi
  (repeat' ((conv=>whnf);first|(with_reducible first|apply spl|apply spl'|refine iJ ?_)<;>intro hc<;>try(exfalso;omega)|refine vcq ?_|refine dr 2008 ?_));all_goals(try conv=>whnf);try exact trivial
  ·intro β1
   (repeat' ((conv=>whnf);first|(with_reducible first|apply spl|apply spl'|refine iJ ?_)<;>intro hc<;>try(exfalso;omega)|refine vcq ?_|refine dr 2008 ?_));all_goals(try conv=>whnf);try exact trivial
   refine⟨⟨rfl,rfl,rfl,rfl,by omega,by dsimp only;omega⟩,fun β2=>?_⟩
   (repeat' ((conv=>whnf);first|(with_reducible first|apply spl|apply spl'|refine iJ ?_)<;>intro hc<;>try(exfalso;omega)|refine vcq ?_|refine dr 2008 ?_));all_goals(try conv=>whnf);try exact trivial
   have hi1:i<s.E.length:=by dsimp only at hc;omega
   refine⟨(i+1,β2),⟨by dsimp only;omega,by dsimp only;omega⟩,some [some 0,some 1,some 2,some 3,some 4,some 9],?_⟩
   (repeat' ((conv=>whnf);first|(with_reducible first|apply spl|apply spl'|refine iJ ?_)<;>intro hc<;>try(exfalso;omega)|refine vcq ?_|refine dr 6 ?_|refine dr 2008 ?_|refine dr 508040603052006 ?_));all_goals(try conv=>whnf);try exact trivial
   refine⟨fun e he=>⟨?_,rfl,fun j _=>?_⟩,?_⟩
   ·dsimp only
    split
    ·rfl
    ·omega
   ·dsimp only
    split
    ·rfl
    ·rename_i hlt
     have he':e<i+1:=he
     obtain rfl:e=i:=by omega
     unfold appF
     rw[if_neg (by omega)]
     rfl
   (repeat' ((conv=>whnf);first|(with_reducible first|apply spl|apply spl'|refine iJ ?_)<;>intro hc<;>try(exfalso;omega)|refine vcq ?_|refine dr 6 ?_|refine dr 2008 ?_|refine dr 508040603052006 ?_));all_goals(try conv=>whnf);try exact trivial
  ·have hi:i=s.E.length:=by dsimp only at hc;omega
   subst hi
   refine⟨_,_,⟨β,rfl,rfl⟩,some [some 4,some 5],?_⟩
   (repeat' ((conv=>whnf);first|(with_reducible first|apply spl|apply spl'|refine iJ ?_)<;>intro hc<;>try(exfalso;omega)|refine vcq ?_|refine dr 6 ?_|refine dr 2008 ?_|refine dr 508040603052006 ?_));all_goals(try conv=>whnf);try exact trivial
   exact⟨fun _ _=>⟨rfl,rfl,fun _ _=>rfl⟩,trivial⟩
theorem write48 (n:Nat) (hn:1≤n∧n≤1000) (s:RS) (hE:s.E.length≤1000) (hW:0≤s.W∧s.W≤1000000) (e b:Nat) (he:e<s.E.length) (hb:b<n):a0q Tryz.prog 127 true [s.v n,.int .i64 e,.int .i64 b] (·=(s.wr e b).v n):=by
 refine a0c Tryz.E_ok Tryz.func127 rfl (by kernel_rfl) ?_
 (repeat' ((conv=>whnf);first|(with_reducible first|apply spl|apply spl'|refine iJ ?_)<;>intro hc<;>try(exfalso;omega)|refine vcq ?_|refine dr 6 ?_|refine dr 2008 ?_|refine dr 508040603052006 ?_));all_goals(try conv=>whnf);try exact trivial
 refine callee_new (copied49 n hn s hE) rfl ?_
 rintro _ _ ⟨β,rfl,rfl⟩
 (repeat' ((conv=>whnf);first|(with_reducible first|apply spl|apply spl'|refine iJ ?_)<;>intro hc<;>try(exfalso;omega)|refine vcq ?_|refine dr 6 ?_|refine dr 2008 ?_|refine dr 508040603052006 ?_));all_goals(try conv=>whnf);try exact trivial
 (repeat' ((first|(refine And.intro ⟨by omega,rfl⟩ ?_)|(refine And.intro ⟨by omega,rfl,rfl,by dsimp only;omega⟩ ?_));(repeat' ((conv=>whnf);first|(with_reducible first|apply spl|apply spl'|refine iJ ?_)<;>intro hc<;>try(exfalso;omega)|refine vcq ?_|refine dr 6 ?_|refine dr 2008 ?_|refine dr 508040603052006 ?_));all_goals((try conv=>whnf);try exact trivial)))
 ·rw[a1N,a1N] at hc
  refine⟨_,rfl,?_⟩
  rw[RS.wr_pos hc]
  have hep:=RS.ep_wr (s:=s) (e:=e) (b:=b) he
  unfold RS.v RS.c
  (repeat' ((conv=>whnf);first|(with_reducible first|apply spl|apply spl'|refine iJ ?_)<;>intro hc<;>try(exfalso;omega)|refine vcq ?_|refine dr 6 ?_|refine dr 2008 ?_|refine dr 508040603052006 ?_));all_goals(try conv=>whnf);try exact trivial
  refine⟨fun i _=>?_,.inl rfl,?_⟩
  ·show spliceP (i=b) [V.int .i64 (s.M i)] 0 [V.int .i64 (s.ep e b)]=[V.int .i64 (if i=b then s.ep e b else s.M i)]
   by_cases h:i=b
   ·rw[a2u h,if_pos h];rfl
   ·rw[a2a h,if_neg h]
  (repeat' ((conv=>whnf);first|(with_reducible first|apply spl|apply spl'|refine iJ ?_)<;>intro hc<;>try(exfalso;omega)|refine vcq ?_|refine dr 6 ?_|refine dr 2008 ?_|refine dr 508040603052006 ?_));all_goals(try conv=>whnf);try exact trivial
  refine⟨by simp,rfl,fun e' he'=>⟨_,rfl,fun j _=>?_⟩,.inl rfl,?_⟩
  ·show spliceP (e'=e∧j=b) [V.int .i64 (s.ep e' j)] 0 [V.int .i64 (-1)]=[V.int .i64 (RS.ep _ e' j)]
   rw[hep]
   by_cases h:e'=e∧j=b
   ·rw[a2u h,if_pos h];rfl
   ·rw[a2a h,if_neg h]
  (repeat' ((conv=>whnf);first|(with_reducible first|apply spl|apply spl'|refine iJ ?_)<;>intro hc<;>try(exfalso;omega)|refine vcq ?_|refine dr 6 ?_|refine dr 2008 ?_|refine dr 508040603052006 ?_));all_goals(try conv=>whnf);try exact trivial
 ·rw[a1N,a1N] at hc
  refine⟨_,rfl,?_⟩
  rw[RS.wr_neg (a0T.1 hc)]
  (repeat' ((conv=>whnf);first|(with_reducible first|apply spl|apply spl'|refine iJ ?_)<;>intro hc<;>try(exfalso;omega)|refine vcq ?_|refine dr 6 ?_|refine dr 2008 ?_|refine dr 508040603052006 ?_));all_goals(try conv=>whnf);try exact trivial
  refine⟨fun e' _=>⟨_,rfl,fun j _=>rfl⟩,.inl rfl,?_⟩
  (repeat' ((conv=>whnf);first|(with_reducible first|apply spl|apply spl'|refine iJ ?_)<;>intro hc<;>try(exfalso;omega)|refine vcq ?_|refine dr 6 ?_|refine dr 2008 ?_|refine dr 508040603052006 ?_));all_goals(try conv=>whnf);try exact trivial
end Go.Proofs
namespace Go.Sx
open Go
variable {P:Program}
theorem callee_frz {g:FuncId} {keep:Bool} {args args':List V} {R0:V→Prop} {H:List O} {K:V→List O→Prop} {ps:List Prop} {ids:List Nat} (h:a0q P g keep args' R0)
  (hf:frzL (frzV 8 H) args=some (ps,ids,args')) (hp:∀p∈ps,p) (hk:∀ret,R0 ret→K ret (goneAt ids H)):Callee P g args H K:=by
 unfold Callee
 refine⟨h.1,fun I η w vals hS hd=>?_⟩
 obtain⟨s1,m1,st1⟩:=hS.freeze ids
 have hd':DenL (frzI I η H ids) [] w args' vals:=
  frzL_sound (C:=fun id=>∀e o b,η[id]? = some e→H[id]? = some o→o.has e b→frzI I η H ids b) (fun v v' ps ids x=>frzV_sound hS.obj (fun b hb=>.inl hb) 8 v v' ps ids x) args args' ps ids vals hf hp
   (fun id hid e o b he ho hb=>.inr ⟨id,hid,e,o,he,ho,hb⟩) hd
 refine(h.2 _ w vals s1.ilt hd').mono ?_
 rintro e w' ⟨ret,v,rfl,hr,hden,hpr⟩
 obtain⟨s2,m2,st2⟩:=s1.pres hpr
 refine⟨grow (frzI I η H ids) w w',η,goneAt ids H,ret,v,rfl,hk ret hr,s2,?_,m1.trans m2,st1.trans st2⟩
 refine Den.mono ⟨fun _ _ he _=>by simp at he,fun b hb=>?_,fun _ _=>rfl⟩ _ _ hden
 rcases hb with hb|hb
 ·exact .inl hb.2
 ·exact .inr hb
end Go.Sx
namespace Go.Proofs
open Go Go.Sx
set_option maxRecDepth 100000
set_option maxHeartbeats 40000000
theorem writeAll50 (n:Nat) (hn:1≤n∧n≤1000) (s:RS) (hE:s.E.length≤100) (hW:0≤s.W∧s.W≤10000) (e:Nat) (he:e≤s.E.length):a0q Tryz.prog 166 true [s.v n,.int .i64 e] (·=(s.wrE n e).v n):=by
 refine a0c Tryz.E_ok Tryz.func166 rfl (by kernel_rfl) ?_
 (repeat' ((conv=>whnf);first|(with_reducible first|apply spl|apply spl'|refine iJ ?_)<;>intro hc<;>try(exfalso;omega)|refine vcq ?_|refine dr 406030502042005 ?_|refine dr 9 ?_));all_goals(try conv=>whnf);try exact trivial
 refine⟨Nat,fun i=>i≤e,fun i=>e-i,fun i=>[(5,.int .i64 (i:Nat))],fun i=>[(0,.cells 142 ((s.wrE n i).c n))],fun _=>[],0,⟨by omega,some [some 0,some 1],?_⟩,?_⟩
 ·(repeat' ((conv=>whnf);first|(with_reducible first|apply spl|apply spl'|refine iJ ?_)<;>intro hc<;>try(exfalso;omega)|refine vcq ?_|refine dr 406030502042005 ?_|refine dr 9 ?_));all_goals(try conv=>whnf);try exact trivial
 ·intro i hi
  have hi:i≤e:=hi
  have hwl:=RS.wrE_len n s i
  have hww:=RS.wrE_W n s i
  have hin:(i:Int)*n≤100*1000:=by
   have:i*n≤100*1000:=Nat.mul_le_mul (by omega) hn.2
   exact_mod_cast this
  (repeat' ((conv=>whnf);first|(with_reducible first|apply spl|apply spl'|refine iJ ?_)<;>intro hc<;>try(exfalso;omega)|refine vcq ?_|refine dr 406030502042005 ?_|refine dr 9 ?_));all_goals(try conv=>whnf);try exact trivial
  ·have hi1:i<e:=by omega
   refine⟨Nat,fun b=>b≤n,fun b=>n-b,fun b=>[(6,.int .i64 (b:Nat))],fun b=>[(0,.cells 142 (((s.wrE n i).wrB i b).c n))],fun _=>[],0,⟨by omega,some [some 0,some 1],?_⟩,?_⟩
   ·(repeat' ((conv=>whnf);first|(with_reducible first|apply spl|apply spl'|refine iJ ?_)<;>intro hc<;>try(exfalso;omega)|refine vcq ?_|refine dr 406030502042005 ?_|refine dr 9 ?_));all_goals(try conv=>whnf);try exact trivial
   ·intro b hb
    have hb:b≤n:=hb
    have hbl:=RS.wrB_len (s.wrE n i) i b
    have hbw:=RS.wrB_W (s.wrE n i) i b
    (repeat' ((conv=>whnf);first|(with_reducible first|apply spl|apply spl'|refine iJ ?_)<;>intro hc<;>try(exfalso;omega)|refine vcq ?_|refine dr 406030502042005 ?_|refine dr 9 ?_));all_goals(try conv=>whnf);try exact trivial
    ·refine a0d (write48 n hn ((s.wrE n i).wrB i b) (by omega) (by omega) i b (by omega) (by omega)) rfl ?_
     rintro _ rfl
     (repeat' ((conv=>whnf);first|(with_reducible first|apply spl|apply spl'|refine iJ ?_)<;>intro hc<;>try(exfalso;omega)|refine vcq ?_|refine dr 406030502042005 ?_|refine dr 9 ?_));all_goals(try conv=>whnf);try exact trivial
     refine⟨b+1,⟨by omega,by dsimp only;omega⟩,some [some 0,some 1],?_⟩
     (repeat' ((conv=>whnf);first|(with_reducible first|apply spl|apply spl'|refine iJ ?_)<;>intro hc<;>try(exfalso;omega)|refine vcq ?_|refine dr 406030502042005 ?_|refine dr 9 ?_));all_goals(try conv=>whnf);try exact trivial
    ·obtain rfl:b=n:=by omega
     refine⟨i+1,⟨by omega,by dsimp only;omega⟩,some [some 0,some 1],?_⟩
     (repeat' ((conv=>whnf);first|(with_reducible first|apply spl|apply spl'|refine iJ ?_)<;>intro hc<;>try(exfalso;omega)|refine vcq ?_|refine dr 406030502042005 ?_|refine dr 9 ?_));all_goals(try conv=>whnf);try exact trivial
  ·obtain rfl:i=e:=by omega
   refine⟨_,rfl,?_⟩
   (repeat' ((conv=>whnf);first|(with_reducible first|apply spl|apply spl'|refine iJ ?_)<;>intro hc<;>try(exfalso;omega)|refine vcq ?_|refine dr 406030502042005 ?_|refine dr 9 ?_));all_goals(try conv=>whnf);try exact trivial
theorem do18 (n:Nat) (hn:1≤n∧n≤1000) (s:RS) (hE:0<s.E.length∧s.E.length≤100) (hW:0≤s.W∧s.W≤10000) (k:Int) (o:Int×Int) (ho:o.1=1∨o.1=2→0≤o.2∧o.2<n):a0q Tryz.prog 125 true [s.v n,oV o,.int .i64 k] (·=(s.order n k o).v n):=by
 have hn1:((s.E.length:Int)-1).toNat=s.E.length-1:=by omega
 refine a0c Tryz.E_ok Tryz.func125 rfl (by kernel_rfl) ?_
 by_cases c1:o.1=1
 ·obtain⟨b,hb,e⟩:∃b:Nat,b<n∧o.2=b:=⟨o.2.toNat,by have:=ho (.inl c1);omega,by have:=ho (.inl c1);omega⟩
  obtain⟨o1,o2⟩:=o
  dsimp only at c1 e
  subst c1 e
  have ho':s.order n k (1,(b:Int))=s.setE (s.E.length-1) b k:=rfl
  rw[ho']
  have hep:=RS.ep_setE (s:=s) (e:=s.E.length-1) (b:=b) (v:=k) (by omega)
  (repeat' ((conv=>whnf);first|(with_reducible first|apply spl|apply spl'|refine iJ ?_)<;>intro hc<;>try(exfalso;omega)|refine vcq ?_|refine dr 406030502042005 ?_|refine dr 9 ?_));all_goals(try conv=>whnf);try exact trivial
  refine callee_new (copied49 n hn s (by omega)) rfl ?_
  rintro _ _ ⟨β,rfl,rfl⟩
  (repeat' ((conv=>whnf);first|(with_reducible first|apply spl|apply spl'|refine iJ ?_)<;>intro hc<;>try(exfalso;omega)|refine vcq ?_|refine dr 9 ?_));all_goals(try conv=>whnf);try exact trivial
  (repeat' ((first|(refine And.intro ⟨by omega,rfl⟩ ?_)|(refine And.intro ⟨by omega,rfl,rfl,by dsimp only;omega⟩ ?_));(repeat' ((conv=>whnf);first|(with_reducible first|apply spl|apply spl'|refine iJ ?_)<;>intro hc<;>try(exfalso;omega)|refine vcq ?_|refine dr 9 ?_));all_goals((try conv=>whnf);try exact trivial)))
  refine⟨_,rfl,?_⟩
  (repeat' ((conv=>whnf);first|(with_reducible first|apply spl|apply spl'|refine iJ ?_)<;>intro hc<;>try(exfalso;omega)|refine vcq ?_|refine dr 406030502042005 ?_|refine dr 9 ?_));all_goals(try conv=>whnf);try exact trivial
  refine⟨by simp[RS.setE],rfl,fun e' he'=>⟨_,rfl,fun j _=>?_⟩,.inl rfl,?_⟩
  ·show spliceP (e'=((s.E.length:Int)-1).toNat∧j=b) [V.int .i64 (s.ep e' j)] 0 [V.int .i64 k]=[V.int .i64 (RS.ep _ e' j)]
   rw[hep,hn1]
   by_cases h:e'=s.E.length-1∧j=b
   ·rw[a2u h,if_pos h];rfl
   ·rw[a2a h,if_neg h]
  (repeat' ((conv=>whnf);first|(with_reducible first|apply spl|apply spl'|refine iJ ?_)<;>intro hc<;>try(exfalso;omega)|refine vcq ?_|refine dr 406030502042005 ?_|refine dr 9 ?_));all_goals(try conv=>whnf);try exact trivial
 by_cases c2:o.1=2
 ·obtain⟨b,hb,e⟩:∃b:Nat,b<n∧o.2=b:=⟨o.2.toNat,by have:=ho (.inr c2);omega,by have:=ho (.inr c2);omega⟩
  obtain⟨o1,o2⟩:=o
  dsimp only at c1 c2 e
  subst c2 e
  have ho':s.order n k (2,(b:Int))=((s.setE (s.E.length-1) b k).wrE n (s.E.length-1)).wr (s.E.length-1) b:=rfl
  rw[ho']
  have hep:=RS.ep_setE (s:=s) (e:=s.E.length-1) (b:=b) (v:=k) (by omega)
  have hl2:(s.setE (s.E.length-1) b k).E.length=s.E.length:=by simp[RS.setE]
  have hwa:=writeAll50 n hn (s.setE (s.E.length-1) b k) (by omega) hW (s.E.length-1) (by omega)
  have hwl:=RS.wrE_len n (s.setE (s.E.length-1) b k) (s.E.length-1)
  have hww:=RS.wrE_W n (s.setE (s.E.length-1) b k) (s.E.length-1)
  have hin:((s.E.length-1:Nat):Int)*n≤100*1000:=by
   have:(s.E.length-1)*n≤100*1000:=Nat.mul_le_mul (by omega) hn.2
   exact_mod_cast this
  have hW2:(s.setE (s.E.length-1) b k).W=s.W:=rfl
  have hw:=write48 n hn ((s.setE (s.E.length-1) b k).wrE n (s.E.length-1)) (by omega) (by omega) (s.E.length-1) b (by omega) hb
  have hc1:((s.E.length:Int)-1)=((s.E.length-1:Nat):Int):=by omega
  rw[←hc1] at hwa hw
  (repeat' ((conv=>whnf);first|(with_reducible first|apply spl|apply spl'|refine iJ ?_)<;>intro hc<;>try(exfalso;omega)|refine vcq ?_|refine dr 406030502042005 ?_|refine dr 9 ?_));all_goals(try conv=>whnf);try exact trivial
  refine callee_new (copied49 n hn s (by omega)) rfl ?_
  rintro _ _ ⟨β,rfl,rfl⟩
  (repeat' ((conv=>whnf);first|(with_reducible first|apply spl|apply spl'|refine iJ ?_)<;>intro hc<;>try(exfalso;omega)|refine vcq ?_|refine dr 9 ?_|refine dr 406030502042005 ?_));all_goals(try conv=>whnf);try exact trivial
  (repeat' ((first|(refine And.intro ⟨by omega,rfl⟩ ?_)|(refine And.intro ⟨by omega,rfl,rfl,by dsimp only;omega⟩ ?_));(repeat' ((conv=>whnf);first|(with_reducible first|apply spl|apply spl'|refine iJ ?_)<;>intro hc<;>try(exfalso;omega)|refine vcq ?_|refine dr 9 ?_|refine dr 406030502042005 ?_));all_goals((try conv=>whnf);try exact trivial)))
  ·refine callee_frz (a0q.view hwa ?_) rfl ?_ ?_
   ·(repeat' ((conv=>whnf);first|(with_reducible first|apply spl|apply spl'|refine iJ ?_)<;>intro hc<;>try(exfalso;omega)|refine vcq ?_|refine dr 406030502042005 ?_|refine dr 9 ?_));all_goals(try conv=>whnf);try exact trivial
    refine⟨fun e' he'=>?_,?_⟩
    ·show [V.sl 1 n fun j=>spliceP (e'=((s.E.length:Int)-1).toNat∧j=b) [V.int .i64 (s.ep e' j)] 0 [V.int .i64 k]]=[V.sl 1 n fun j=>[V.int .i64 (RS.ep _ e' j)]]
     congr 2
     funext j
     rw[hep,hn1]
     by_cases h:e'=s.E.length-1∧j=b
     ·rw[a2u h,if_pos h];rfl
     ·rw[a2a h,if_neg h]
    (repeat' ((conv=>whnf);first|(with_reducible first|apply spl|apply spl'|refine iJ ?_)<;>intro hc<;>try(exfalso;omega)|refine vcq ?_|refine dr 406030502042005 ?_|refine dr 9 ?_));all_goals(try conv=>whnf);try exact trivial
   ·simp[app]
   ·rintro _ rfl
    (repeat' ((conv=>whnf);first|(with_reducible first|apply spl|apply spl'|refine iJ ?_)<;>intro hc<;>try(exfalso;omega)|refine vcq ?_|refine dr 9 ?_|refine dr 406030502042005 ?_));all_goals(try conv=>whnf);try exact trivial
    refine a0d hw rfl ?_
    rintro _ rfl
    (repeat' ((conv=>whnf);first|(with_reducible first|apply spl|apply spl'|refine iJ ?_)<;>intro hc<;>try(exfalso;omega)|refine vcq ?_|refine dr 9 ?_|refine dr 406030502042005 ?_));all_goals(try conv=>whnf);try exact trivial
    refine⟨_,rfl,?_⟩
    (repeat' ((conv=>whnf);first|(with_reducible first|apply spl|apply spl'|refine iJ ?_)<;>intro hc<;>try(exfalso;omega)|refine vcq ?_|refine dr 406030502042005 ?_|refine dr 9 ?_));all_goals(try conv=>whnf);try exact trivial
 by_cases c3:o.1=3
 ·have ho':s.order n k o=⟨s.M,s.E++[fun _=>-1],s.W⟩:=by unfold RS.order;rw[if_neg c1,if_neg c2,if_pos c3]
  rw[ho']
  have hep:=fun e j=>RS.ep_snoc (s:=s) (e:=e) (j:=j)
  (repeat' ((conv=>whnf);first|(with_reducible first|apply spl|apply spl'|refine iJ ?_)<;>intro hc<;>try(exfalso;omega)|refine vcq ?_|refine dr 406030502042005 ?_|refine dr 9 ?_));all_goals(try conv=>whnf);try exact trivial
  refine callee_new (copied49 n hn s (by omega)) rfl ?_
  rintro _ _ ⟨β,rfl,rfl⟩
  (repeat' ((conv=>whnf);first|(with_reducible first|apply spl|apply spl'|refine iJ ?_)<;>intro hc<;>try(exfalso;omega)|refine vcq ?_|refine dr 406030502042005 ?_|refine dr 9 ?_));all_goals(try conv=>whnf);try exact trivial
  refine⟨Nat,fun i=>i≤n,fun i=>n-i,fun i=>[(9,.int .i64 (i:Nat)),(8,.osl 5 i)],fun _=>[],fun i=>[.row 3 1 i (fun _=>[.int .i64 (-1)]) true],0,⟨by omega,some [some 0,some 1,some 2,some 3,some 4,none],?_⟩,?_⟩
  ·(repeat' ((conv=>whnf);first|(with_reducible first|apply spl|apply spl'|refine iJ ?_)<;>intro hc<;>try(exfalso;omega)|refine vcq ?_|refine dr 406030502042005 ?_|refine dr 9 ?_));all_goals(try conv=>whnf);try exact trivial
   refine⟨fun _ _=>⟨rfl,rfl,fun _ _=>rfl⟩,?_⟩
   (repeat' ((conv=>whnf);first|(with_reducible first|apply spl|apply spl'|refine iJ ?_)<;>intro hc<;>try(exfalso;omega)|refine vcq ?_|refine dr 406030502042005 ?_|refine dr 9 ?_));all_goals(try conv=>whnf);try exact trivial
  ·intro i hi
   have hi:i≤n:=hi
   (repeat' ((conv=>whnf);first|(with_reducible first|apply spl|apply spl'|refine iJ ?_)<;>intro hc<;>try(exfalso;omega)|refine vcq ?_|refine dr 406030502042005 ?_|refine dr 9 ?_));all_goals(try conv=>whnf);try exact trivial
   ·refine⟨i+1,⟨by omega,by dsimp only;omega⟩,some [some 0,some 1,some 2,some 3,some 4,some 7],?_⟩
    (repeat' ((conv=>whnf);first|(with_reducible first|apply spl|apply spl'|refine iJ ?_)<;>intro hc<;>try(exfalso;omega)|refine vcq ?_|refine dr 406030502042005 ?_|refine dr 9 ?_));all_goals(try conv=>whnf);try exact trivial
    refine⟨fun _ _=>⟨rfl,rfl,fun _ _=>rfl⟩,?_⟩
    (repeat' ((conv=>whnf);first|(with_reducible first|apply spl|apply spl'|refine iJ ?_)<;>intro hc<;>try(exfalso;omega)|refine vcq ?_|refine dr 406030502042005 ?_|refine dr 9 ?_));all_goals(try conv=>whnf);try exact trivial
    refine⟨appF_one rfl,?_⟩
    (repeat' ((conv=>whnf);first|(with_reducible first|apply spl|apply spl'|refine iJ ?_)<;>intro hc<;>try(exfalso;omega)|refine vcq ?_|refine dr 406030502042005 ?_|refine dr 9 ?_));all_goals(try conv=>whnf);try exact trivial
   ·have hin:i=n:=by omega
    subst hin
    intro β1
    (repeat' ((conv=>whnf);first|(with_reducible first|apply spl|apply spl'|refine iJ ?_)<;>intro hc<;>try(exfalso;omega)|refine vcq ?_|refine dr 406030502042005 ?_|refine dr 9 ?_));all_goals(try conv=>whnf);try exact trivial
    refine⟨⟨rfl,rfl,rfl,rfl,by omega,by omega⟩,fun β2=>?_⟩
    (repeat' ((conv=>whnf);first|(with_reducible first|apply spl|apply spl'|refine iJ ?_)<;>intro hc<;>try(exfalso;omega)|refine vcq ?_|refine dr 406030502042005 ?_|refine dr 9 ?_));all_goals(try conv=>whnf);try exact trivial
    refine⟨_,rfl,?_⟩
    (repeat' ((conv=>whnf);first|(with_reducible first|apply spl|apply spl'|refine iJ ?_)<;>intro hc<;>try(exfalso;omega)|refine vcq ?_|refine dr 406030502042005 ?_|refine dr 9 ?_));all_goals(try conv=>whnf);try exact trivial
    refine⟨by simp,rfl,fun e' _=>⟨fun j=>[.int .i64 ((⟨s.M,s.E++[fun _=>-1],s.W⟩:RS).ep e' j)],?_,fun j _=>?_⟩,.inl rfl,?_⟩
    ·show [V.sl 1 i _]=[V.sl 1 (if e'<s.E.length then i else i) _]
     rw[ite_self]
    ·dsimp only
     rw[hep]
     by_cases h:e'<s.E.length
     ·rw[if_pos h,if_pos h]
     ·rw[if_neg h,if_neg h]
    (repeat' ((conv=>whnf);first|(with_reducible first|apply spl|apply spl'|refine iJ ?_)<;>intro hc<;>try(exfalso;omega)|refine vcq ?_|refine dr 406030502042005 ?_|refine dr 9 ?_));all_goals(try conv=>whnf);try exact trivial
 by_cases c4:o.1=4
 ·have ho':s.order n k o=s.wrE n s.E.length:=by unfold RS.order;rw[if_neg c1,if_neg c2,if_neg c3,if_pos c4]
  rw[ho']
  have hwa:=writeAll50 n hn s (by omega) hW s.E.length (by omega)
  have hc1:((s.E.length:Int)-1)+1=(s.E.length:Int):=by omega
  rw[←hc1] at hwa
  (repeat' ((conv=>whnf);first|(with_reducible first|apply spl|apply spl'|refine iJ ?_)<;>intro hc<;>try(exfalso;omega)|refine vcq ?_|refine dr 406030502042005 ?_|refine dr 9 ?_));all_goals(try conv=>whnf);try exact trivial
  refine callee_new (copied49 n hn s (by omega)) rfl ?_
  rintro _ _ ⟨β,rfl,rfl⟩
  (repeat' ((conv=>whnf);first|(with_reducible first|apply spl|apply spl'|refine iJ ?_)<;>intro hc<;>try(exfalso;omega)|refine vcq ?_|refine dr 406030502042005 ?_|refine dr 9 ?_));all_goals(try conv=>whnf);try exact trivial
  refine callee_frz (a0q.view hwa ?_) rfl ?_ ?_
  ·(repeat' ((conv=>whnf);first|(with_reducible first|apply spl|apply spl'|refine iJ ?_)<;>intro hc<;>try(exfalso;omega)|refine vcq ?_|refine dr 406030502042005 ?_|refine dr 9 ?_));all_goals(try conv=>whnf);try exact trivial
  ·simp[app]
  ·rintro _ rfl
   (repeat' ((conv=>whnf);first|(with_reducible first|apply spl|apply spl'|refine iJ ?_)<;>intro hc<;>try(exfalso;omega)|refine vcq ?_|refine dr 406030502042005 ?_|refine dr 9 ?_));all_goals(try conv=>whnf);try exact trivial
   refine⟨_,rfl,?_⟩
   (repeat' ((conv=>whnf);first|(with_reducible first|apply spl|apply spl'|refine iJ ?_)<;>intro hc<;>try(exfalso;omega)|refine vcq ?_|refine dr 406030502042005 ?_|refine dr 9 ?_));all_goals(try conv=>whnf);try exact trivial
 ·have ho':s.order n k o=s:=by unfold RS.order;rw[if_neg c1,if_neg c2,if_neg c3,if_neg c4]
  rw[ho']
  (repeat' ((conv=>whnf);first|(with_reducible first|apply spl|apply spl'|refine iJ ?_)<;>intro hc<;>try(exfalso;omega)|refine vcq ?_|refine dr 406030502042005 ?_|refine dr 9 ?_));all_goals(try conv=>whnf);try exact trivial
  refine callee_new (copied49 n hn s (by omega)) rfl ?_
  rintro _ _ ⟨β,rfl,rfl⟩
  (repeat' ((conv=>whnf);first|(with_reducible first|apply spl|apply spl'|refine iJ ?_)<;>intro hc<;>try(exfalso;omega)|refine vcq ?_|refine dr 406030502042005 ?_|refine dr 9 ?_));all_goals(try conv=>whnf);try exact trivial
  refine⟨_,rfl,?_⟩
  (repeat' ((conv=>whnf);first|(with_reducible first|apply spl|apply spl'|refine iJ ?_)<;>intro hc<;>try(exfalso;omega)|refine vcq ?_|refine dr 406030502042005 ?_|refine dr 9 ?_));all_goals(try conv=>whnf);try exact trivial
  refine⟨fun e' _=>⟨_,rfl,fun j _=>rfl⟩,.inl rfl,?_⟩
  (repeat' ((conv=>whnf);first|(with_reducible first|apply spl|apply spl'|refine iJ ?_)<;>intro hc<;>try(exfalso;omega)|refine vcq ?_|refine dr 406030502042005 ?_|refine dr 9 ?_));all_goals(try conv=>whnf);try exact trivial
theorem first46 (n:Nat) (hn:1≤n∧n≤1000) (s:RS) (hE:s.E.length≤100):a0q Tryz.prog 126 false [s.v n] (fun r=>(∃e:Nat,s.IsFirst n e∧r=.tup [.int .i64 e,.kb true])∨((∀i,i<s.E.length→noRow n (s.ep i))∧r=.tup [.int .i64 0,.kb false])):=by
 refine a0c Tryz.E_ok Tryz.func126 rfl (by kernel_rfl) ?_
 refine x1 ?_
 refine⟨Nat,fun i=>i≤s.E.length∧∀j,j<i→noRow n (s.ep j),fun i=>s.E.length-i,fun i=>[(4,.int .i64 (i:Nat)),(2,.any),(3,.any)],fun _=>[],fun _=>[],0,⟨⟨by omega,fun j hj=>by omega⟩,some [some 0],?_⟩,?_⟩
 ·exact xc3
 ·rintro i ⟨h1,h2⟩
  have hti:(i:Int).toNat=i:=a1N i
  refine x7 (fun hc=>?_) (fun hc=>?_)
  ·have hi:i<s.E.length:=by omega
   refine⟨Nat,fun b=>b≤n∧∀j,j<b→s.ep i j=-1,fun b=>n-b,fun b=>[(5,.int .i64 (b:Nat)),(2,.any),(3,.any)],fun _=>[],fun _=>[],0,⟨⟨by omega,fun j hj=>by omega⟩,some [some 0],?_⟩,?_⟩
   ·exact xc3
   ·rintro b ⟨h3,h4⟩
    have htb:(b:Int).toNat=b:=a1N b
    refine x24 (fun hc hc=>?_) (fun hc hc=>?_) (fun hc=>?_)
    ·rw[hti,htb] at hc
     refine⟨_,.inl ⟨i,⟨hi,fun h=>hc (h b (by omega)),h2⟩,rfl⟩,?_⟩
     exact xc3
    ·rw[hti,htb] at hc
     refine⟨b+1,⟨⟨by omega,fun j hj=>?_⟩,by dsimp only;omega⟩,some [some 0],?_⟩
     ·rcases a0J (show j≤b by omega) with g|rfl
      ·exact h4 j g
      ·exact a0T.1 hc
     ·exact xc3
    ·refine⟨i+1,⟨⟨by omega,fun j hj=>?_⟩,by dsimp only;omega⟩,some [some 0],?_⟩
     ·rcases a0J (show j≤i by omega) with g|rfl
      ·exact h2 j g
      ·exact fun b' hb'=>h4 b' (by omega)
     ·exact xc3
  ·refine⟨_,.inr ⟨fun j hj=>h2 j (by omega),rfl⟩,?_⟩
   exact xc3
theorem Drained17d (n:Nat) (hn:1≤n∧n≤1000) (s:RS) (hE:s.E.length≤100) (hW:0≤s.W∧s.W≤1000000) (z:Int):a0q Tryz.prog 93 true [s.v n,.int .i64 z] (·=.tup [(drS n s z).v n,.prop (canR n s z) (Classical.propDecidable _)]):=by
 refine a0c Tryz.E_ok Tryz.func93 rfl (by kernel_rfl) ?_
 refine x1 ?_
 refine a0d (first46 n hn s hE) rfl ?_
 rintro _ (⟨e,he,rfl⟩|⟨h,rfl⟩)
 ·have hel:=he.1
  have hte:(e:Int).toNat=e:=a1N e
  refine x1 ?_;(repeat' ((first|(refine a0d (within47 _ _ _) rfl ?_;rintro _ rfl)|(refine a0f (within47 _ _ _) rfl ?_)|(refine a0l (fun _=>within47 _ _ _) rfl ?_));refine x7 (fun hc=>?_) (fun hc=>?_)))
  ·have hno:¬canR n s z:=by
    rintro⟨h1,h2,e',he',hne⟩
    obtain rfl:=IsFirst.uniq he he'
    rw[hte] at hc
    rcases hc with hc|hc
    ·omega
    ·exact hne hc
   rw[drS_no hno]
   refine⟨_,rfl,?_⟩
   exact xc3
  ·have hz:0≤z∧z<n:=by omega
   obtain⟨b,rfl⟩:∃b:Nat,z=b:=⟨z.toNat,by omega⟩
   have htb:(b:Int).toNat=b:=a1N b
   rw[hte] at hc
   have hy:=drS_yes hz he (fun g=>hc (.inr g))
   rw[htb] at hy
   rw[hy.1]
   have hcan:=hy.2
   refine a0d (write48 n hn s (by omega) hW e b hel (by omega)) rfl ?_
   rintro _ rfl
   refine x1 ?_
   refine⟨_,rfl,?_⟩
   exact xc3
 ·have hno:¬canR n s z:=by
   rintro⟨_,_,e,he,_⟩
   exact he.2.1 (h e he.1)
  rw[drS_no hno]
  refine x1 ?_
  refine⟨_,rfl,?_⟩
  exact xc3
theorem sameInts83 (n m:Nat) (hn:n≤1000000) (hm:m≤1000000) (F G:Nat→Int):a0q Tryz.prog 116 false [.sl 1 n (iF F),.sl 1 m (iF G)] (·=.prop (n=m∧∀b,b<n→F b=G b) (Classical.propDecidable _)):=by
 refine a0c Tryz.E_ok Tryz.func116 rfl (by kernel_rfl) ?_
 (repeat' ((conv=>whnf);first|(with_reducible first|apply spl|apply spl'|refine iJ ?_)<;>intro hc<;>try(exfalso;omega)|refine vcq ?_|refine dr 9 ?_));all_goals(try conv=>whnf);try exact trivial
 refine⟨Nat,fun i=>i≤n∧i≤m∧∀b,b<i→F b=G b,fun i=>n-i,fun i=>[(5,.int .i64 (i:Nat))],fun _=>[],fun _=>[],0,⟨⟨by omega,by omega,fun b hb=>by omega⟩,none,?_⟩,?_⟩
 ·(repeat' ((conv=>whnf);first|(with_reducible first|apply spl|apply spl'|refine iJ ?_)<;>intro hc<;>try(exfalso;omega)|refine vcq ?_|refine dr 9 ?_));all_goals(try conv=>whnf);try exact trivial
 ·rintro i ⟨h1,h1',h2⟩
  have hti:(i:Int).toNat=i:=a1N i
  (repeat' ((conv=>whnf);first|(with_reducible first|apply spl|apply spl'|refine iJ ?_)<;>intro hc<;>try(exfalso;omega)|refine vcq ?_|refine dr 9 ?_));all_goals(try conv=>whnf);try exact trivial
  ·refine⟨_,rfl,?_⟩
   (repeat' ((conv=>whnf);first|(with_reducible first|apply spl|apply spl'|refine iJ ?_)<;>intro hc<;>try(exfalso;omega)|refine vcq ?_|refine dr 9 ?_));all_goals(try conv=>whnf);try exact trivial
   refine⟨fun h=>?_,trivial⟩
   rw[hti] at hc
   exact hc (h.2 i (by omega))
  ·rw[hti] at hc
   refine⟨i+1,⟨⟨by omega,by omega,fun b hb=>?_⟩,by dsimp only;omega⟩,none,?_⟩
   ·rcases a0J (show b≤i by omega) with h|rfl
    ·exact h2 b h
    ·exact a0T.1 hc
   ·(repeat' ((conv=>whnf);first|(with_reducible first|apply spl|apply spl'|refine iJ ?_)<;>intro hc<;>try(exfalso;omega)|refine vcq ?_|refine dr 9 ?_));all_goals(try conv=>whnf);try exact trivial
  ·refine⟨_,rfl,?_⟩
   (repeat' ((conv=>whnf);first|(with_reducible first|apply spl|apply spl'|refine iJ ?_)<;>intro hc<;>try(exfalso;omega)|refine vcq ?_|refine dr 9 ?_));all_goals(try conv=>whnf);try exact trivial
   exact⟨⟨fun h=>⟨by omega,fun b hb=>h2 b (by omega)⟩,fun h=>by omega⟩,trivial⟩
theorem SameState108 (n:Nat) (hn:n≤1000) (a c:RS) (ha:a.E.length≤1000000) (hc':c.E.length≤1000000):a0q Tryz.prog 164 false [a.v n,c.v n] (·=.prop (RS.same n a c) (Classical.propDecidable _)):=by
 refine a0c Tryz.E_ok Tryz.func164 rfl (by kernel_rfl) ?_
 (repeat' ((conv=>whnf);first|(with_reducible first|apply spl|apply spl'|refine iJ ?_)<;>intro hc<;>try(exfalso;omega)|refine vcq ?_|refine dr 12 ?_));all_goals(try conv=>whnf);try exact trivial
 refine a0d (sameInts83 n n (by omega) (by omega) a.M c.M) rfl ?_
 rintro _ rfl
 (repeat' ((conv=>whnf);first|(with_reducible first|apply spl|apply spl'|refine iJ ?_)<;>intro hc<;>try(exfalso;omega)|refine vcq ?_|refine dr 12 ?_));all_goals(try conv=>whnf);try exact trivial
 ·refine⟨_,rfl,?_⟩
  (repeat' ((conv=>whnf);first|(with_reducible first|apply spl|apply spl'|refine iJ ?_)<;>intro hc<;>try(exfalso;omega)|refine vcq ?_|refine dr 12 ?_));all_goals(try conv=>whnf);try exact trivial
  exact⟨fun h=>hc.elim (fun g=>g ⟨rfl,h.1⟩) (fun g=>g (by rw[h.2.1])),trivial⟩
 ·have hM:∀b,b<n→a.M b=c.M b:=fun b hb=>a1E fun g=>hc (.inl fun k=>g (k.2 b hb))
  have hl:a.E.length=c.E.length:=a1E fun g=>hc (.inr fun k=>g (by omega))
  refine⟨Nat,fun i=>i≤a.E.length∧∀e,e<i→∀b,b<n→a.ep e b=c.ep e b,fun i=>a.E.length-i,fun i=>[(5,.int .i64 (i:Nat)),(13,.any),(14,.any),(15,.any),(16,.any),(17,.any),(18,.any),(19,.any),(20,.any)],fun _=>[],fun _=>[],0,⟨⟨by omega,fun b hb=>by omega⟩,none,?_⟩,?_⟩
  ·(repeat' ((conv=>whnf);first|(with_reducible first|apply spl|apply spl'|refine iJ ?_)<;>intro hc<;>try(exfalso;omega)|refine vcq ?_|refine dr 12 ?_));all_goals(try conv=>whnf);try exact trivial
  ·rintro i ⟨h1,h2⟩
   have hti:(i:Int).toNat=i:=a1N i
   (repeat' ((conv=>whnf);first|(with_reducible first|apply spl|apply spl'|refine iJ ?_)<;>intro hc<;>try(exfalso;omega)|refine vcq ?_|refine dr 12 ?_));all_goals(try conv=>whnf);try exact trivial
   ·refine a0f (sameInts83 n n (by omega) (by omega) (a.ep i) (c.ep i)) rfl ?_
    (repeat' ((conv=>whnf);first|(with_reducible first|apply spl|apply spl'|refine iJ ?_)<;>intro hc<;>try(exfalso;omega)|refine vcq ?_|refine dr 12 ?_));all_goals(try conv=>whnf);try exact trivial
    ·refine⟨_,rfl,?_⟩
     (repeat' ((conv=>whnf);first|(with_reducible first|apply spl|apply spl'|refine iJ ?_)<;>intro hc<;>try(exfalso;omega)|refine vcq ?_|refine dr 12 ?_));all_goals(try conv=>whnf);try exact trivial
     exact⟨fun h=>hc ⟨rfl,h.2.2 i (by omega)⟩,trivial⟩
    ·have hi:=a0T.1 hc
     refine⟨i+1,⟨⟨by omega,fun e he=>?_⟩,by dsimp only;omega⟩,none,?_⟩
     ·rcases a0J (show e≤i by omega) with h|rfl
      ·exact h2 e h
      ·exact hi.2
     ·(repeat' ((conv=>whnf);first|(with_reducible first|apply spl|apply spl'|refine iJ ?_)<;>intro hc<;>try(exfalso;omega)|refine vcq ?_|refine dr 12 ?_));all_goals(try conv=>whnf);try exact trivial
   ·refine⟨_,rfl,?_⟩
    (repeat' ((conv=>whnf);first|(with_reducible first|apply spl|apply spl'|refine iJ ?_)<;>intro hc<;>try(exfalso;omega)|refine vcq ?_|refine dr 12 ?_));all_goals(try conv=>whnf);try exact trivial
    exact⟨⟨hM,hl,fun e he=>h2 e (by omega)⟩,trivial⟩
theorem added95 (n:Nat) (hn:n≤1000) (L:List RS) (hL:L.length≤1000000) (hE:∀t∈L,t.E.length≤1000000) (s:RS) (hs:s.E.length≤1000000) (nz:Bool) :
  Sx.Callee Tryz.prog 124 [.osl 0 L.length,s.v n] [.row 142 3 L.length (a0u (RS.c n) RS.begin L) nz]
   (fun v H=>v=.osl 1 (addR n L s).length∧H=[.gone,.row 142 3 (addR n L s).length (a0u (RS.c n) RS.begin (addR n L s)) nz]):=by
 refine callee_ent Tryz.E_ok Tryz.func124 rfl (by kernel_rfl) ?_
 refine x0 ?_
 refine⟨Nat,fun i=>i≤L.length∧∀j,j<i→¬RS.same n (L.getD j RS.begin) s,fun i=>L.length-i,fun i=>[(5,.int .i64 (i:Nat)),(14,.any)],fun _=>[],fun _=>[],0,⟨⟨by omega,fun b hb=>by omega⟩,none,?_⟩,?_⟩
 ·exact xc2
 ·rintro i ⟨h1,h2⟩
  have hti:(i:Int).toNat=i:=a1N i
  refine x8 (fun hc=>?_) (fun hc=>?_)
  ·have hi:i<L.length:=by omega
   have hm:L.getD i RS.begin∈L:=by simp[a0A,hi]
   refine a0f (SameState108 n hn (L.getD i RS.begin) s (hE _ hm) hs) rfl ?_
   refine x8 (fun hc=>?_) (fun hc=>?_)
   ·have e:addR n L s=L:=if_pos ⟨_,hm,hc⟩
    rw[e]
    refine⟨_,_,⟨rfl,rfl⟩,some [some 0,some 0],?_⟩
    cases nz
    ·exact xc2
    ·exact xc2
   ·refine⟨i+1,⟨⟨by omega,fun j hj=>?_⟩,by dsimp only;omega⟩,none,?_⟩
    ·rcases a0J (show j≤i by omega) with h|rfl
     ·exact h2 j h
     ·exact hc
    ·exact xc2
  ·have e:addR n L s=L++[s]:=if_neg (by
    rintro⟨t,ht,hsm⟩
    obtain⟨j,hj,rfl⟩:=a1G ht
    refine h2 j (by omega) ?_
    have:L.getD j RS.begin=L[j]:=by simp[a0A,hj]
    rw[this]
    exact hsm)
   rw[e]
   refine⟨_,_,⟨rfl,rfl⟩,some [some 0,some 3],?_⟩
   refine x0 ?_
   refine⟨by simp,by simp,a2d (c:=RS.c n) (a:=s) (l:=L) rfl (fun _ _=>rfl),?_⟩
   cases nz
   ·exact xc2
   ·exact xc2
theorem image61 (n:Nat) (hn:n≤1000) (L:List (Nat→Int)) (hL:L.length≤1000000) (f:Nat→Int) (nz:Bool) :
  Sx.Callee Tryz.prog 80 [.osl 0 L.length,.sl 1 n (iF f)] [.row 38 1 L.length (a0u (mC n) (fun _=>0) L) nz]
   (fun v H=>v=.osl 1 (addM n L f).length∧H=[.gone,.row 38 1 (addM n L f).length (a0u (mC n) (fun _=>0) (addM n L f)) nz]):=by
 refine callee_ent Tryz.E_ok Tryz.func80 rfl (by kernel_rfl) ?_
 refine x0 ?_
 refine⟨Nat,fun i=>i≤L.length∧∀j,j<i→¬∀b,b<n→L.getD j (fun _=>0) b=f b,fun i=>L.length-i,fun i=>[(5,.int .i64 (i:Nat)),(14,.any)],fun _=>[],fun _=>[],0,⟨⟨by omega,fun b hb=>by omega⟩,none,?_⟩,?_⟩
 ·exact xc2
 ·rintro i ⟨h1,h2⟩
  have hti:(i:Int).toNat=i:=a1N i
  refine x8 (fun hc=>?_) (fun hc=>?_)
  ·have hi:i<L.length:=by omega
   have hm:L.getD i (fun _=>0)∈L:=by simp[a0A,hi]
   refine a0d (sameInts83 n n (by omega) (by omega) (L.getD i (fun _=>0)) f) rfl ?_
   rintro _ rfl
   refine x8 (fun hc=>?_) (fun hc=>?_)
   ·have e:addM n L f=L:=if_pos ⟨_,hm,hc.2⟩
    rw[e]
    refine⟨_,_,⟨rfl,rfl⟩,some [some 0,some 0],?_⟩
    cases nz
    ·exact xc2
    ·exact xc2
   ·refine⟨i+1,⟨⟨by omega,fun j hj=>?_⟩,by dsimp only;omega⟩,none,?_⟩
    ·rcases a0J (show j≤i by omega) with h|rfl
     ·exact h2 j h
     ·exact fun g=>hc ⟨rfl,g⟩
    ·exact xc2
  ·have e:addM n L f=L++[f]:=if_neg (by
    rintro⟨t,ht,hsm⟩
    obtain⟨j,hj,rfl⟩:=a1G ht
    refine h2 j (by omega) ?_
    have:L.getD j (fun _=>0)=L[j]:=by simp[a0A,hj]
    rw[this]
    exact hsm)
   rw[e]
   refine⟨_,_,⟨rfl,rfl⟩,some [some 0,some 2],?_⟩
   refine x0 ?_
   refine⟨by simp,by simp,a2d (c:=mC n) (a:=f) (l:=L) rfl (fun _ _=>rfl),?_⟩
   cases nz
   ·exact xc2
   ·exact xc2
theorem ends82 (x:Cache) (hx:x.Small) (n:Nat) (hn:x.n=n):a0q Tryz.prog 92 true [x.v] (fun r=>∃L:List RS,(LstR x n x.l.length L∧0<L.length∧CoverR x n x.l.length L)∧r=.sl 3 L.length (a0u (RS.c n) RS.begin L)):=by
 have hn6:=hx.ok.n
 have hn3:=hx.n
 have hl7:=hx.l
 refine a0c Tryz.E_ok Tryz.func92 rfl (by kernel_rfl) ?_
 refine x1 ?_
 refine a0d (begin16 x n hn (by omega)) rfl ?_
 rintro _ rfl
 refine x1 ?_
 refine⟨Nat×List RS,fun q=>q.1≤x.l.length∧EntR x n q.1 q.2,fun q=>x.l.length-q.1,fun q=>[(4,.int .i64 (q.1:Nat)),(3,.osl 2 q.2.length)],fun q=>[(1,.gone)],fun q=>[.row 142 3 q.2.length (a0u (RS.c n) RS.begin q.2) false],(0,[RS.begin]),⟨⟨by dsimp only;omega,EntR.begin hx.ok hn⟩,some [some 0,some 1,some 1],?_⟩,?_⟩
 ·refine x1 ?_
  refine⟨fun i hi=>by(obtain rfl:i=0:=by omega);rfl,?_⟩
  exact xc3
 ·rintro⟨k,L⟩ ⟨hk,hent⟩
  dsimp only at hk hent
  have hcapL:=capR hx hn k L hent.ok.good hent.ok.nd
  refine x1 (fun hc=>?_)
  ·refine⟨Nat×List RS,fun q=>ClR x n k L q.2 q.1 0,fun q=>65536-q.1,fun q=>[(5,.int .i64 (q.1:Nat)),(3,.osl 3 q.2.length)],fun q=>[(2,.gone)],fun q=>[.row 142 3 q.2.length (a0u (RS.c n) RS.begin q.2) false],(0,L),⟨ClR.start hent.ok,some [some 0,some 1,some 2,some 2],?_⟩,?_⟩
   ·exact xc3
   ·rintro⟨i,L1⟩ hcl
    dsimp only at hcl
    have hcap1:=capR hx hn k L1 hcl.ok.good hcl.ok.nd
    have hle:=hcl.le
    refine x24 (fun hc=>?_) (fun hc hc=>?_) (fun hc hc=>?_)
    ·have hi:i<L1.length:=by dsimp only at hc;omega
     refine⟨Nat×List RS,fun q=>q.1≤n∧ClR x n k L q.2 i q.1∧i<q.2.length,fun q=>n-q.1,fun q=>[(6,.int .i64 (q.1:Nat)),(3,.osl 4 q.2.length)],fun q=>[(3,.gone)],fun q=>[.row 142 3 q.2.length (a0u (RS.c n) RS.begin q.2) false],(0,L1),⟨⟨by dsimp only;omega,hcl,hi⟩,some [some 0,some 1,some 2,some 3,some 3],?_⟩,?_⟩
     ·exact xc3
     ·clear hcl hle hi hcap1 hc
      rintro⟨b,L2⟩ ⟨hb,hcl,hi⟩
      dsimp only at hb hcl hi
      have hcap2:=capR hx hn k L2 hcl.ok.good hcl.ok.nd
      have hg:=hcl.ok.good _ (getR_mem hi)
      have hbn:=hg.bnd hx.ok hn
      have hti:(i:Int).toNat=i:=a1N i
      refine x7 (fun hc=>?_) (fun hc=>?_)
      ·have hb1:b<n:=by dsimp only at hc;omega
       refine a0d (Drained17d n (by omega) (L2.getD i RS.begin) (by omega) (by omega) b) rfl ?_
       rintro _ rfl
       refine x7 (fun hc=>?_) (fun hc=>?_)
       ·refine a0e [4] (added95 n (by omega) L2 (by omega) (fun t ht=>by have:=(hcl.ok.good t ht).bnd hx.ok hn;omega) (drS n (L2.getD i RS.begin) b) (by have:=(hg.drain hx.ok hn hc).bnd hx.ok hn;omega) false) rfl ?_ ?_
        ·exact xc3
        ·rintro _ _ ⟨rfl,rfl⟩
         have hcl':=hcl.add hx.ok hn hi hc
         have hlt':=hcl'.lt (by omega)
         generalize addR n L2 (drS n (L2.getD i RS.begin) b)=L3 at hcl' hlt' ⊢
         refine x1 ?_
         refine⟨(b+1,L3),⟨⟨by dsimp only;omega,hcl',hlt'⟩,by dsimp only;omega⟩,some [some 0,some 1,some 2,some 3,some 6],?_⟩
         exact xc3
       ·have hcl':=hcl.skip hi hc
        refine⟨(b+1,L2),⟨⟨by dsimp only;omega,hcl',hi⟩,by dsimp only;omega⟩,some [some 0,some 1,some 2,some 3,some 4],?_⟩
        exact xc3
      ·have hbe:b=n:=by dsimp only at hc;omega
       subst hbe
       have hcl':=hcl.next hi
       refine⟨(i+1,L2),⟨hcl',by dsimp only;omega⟩,some [some 0,some 1,some 2,some 4],?_⟩
       exact xc3
    ·have hie:i=L1.length:=by have:=(show ¬((i:Int)<L1.length) from by assumption);omega
     have hke:k=x.l.length:=by have:=(show((k:Int)=x.l.length) from by assumption);omega
     subst hie hke
     have hcov:=hent.all _ hcl
     have hne:0<L1.length:=by have:=hcl.pre.length_le;have:=hent.ne;omega
     refine⟨_,⟨L1,⟨hcl.ok,hne,hcov⟩,rfl⟩,?_⟩
     exact xc3
    ·have hie:i=L1.length:=by have:=(show ¬((i:Int)<L1.length) from by assumption);omega
     have hke:¬k=x.l.length:=by have:=(show ¬((k:Int)=x.l.length) from by assumption);omega
     subst hie
     have hcov:=hent.all _ hcl
     have hne:0<L1.length:=by have:=hcl.pre.length_le;have:=hent.ne;omega
     have hkl:k<x.l.length:=by omega
     refine⟨Nat×List RS,fun q=>q.1≤L1.length∧NxR x n k L1 q.2 q.1,fun q=>L1.length-q.1,fun q=>[(10,.int .i64 (q.1:Nat)),(9,.osl 4 q.2.length)],fun q=>[],fun q=>[.row 142 3 q.2.length (a0u (RS.c n) RS.begin q.2) true],(0,[]),⟨⟨by dsimp only;omega,NxR.start⟩,some [some 0,some 1,some 2,some 3,none],?_⟩,?_⟩
     ·exact xc3
     ·rintro⟨j,N⟩ ⟨hj,hnx⟩
      dsimp only at hj hnx
      have hcapN:=capR hx hn (k+1) N hnx.ok.good hnx.ok.nd
      (repeat' ((conv=>whnf);first|(with_reducible first|apply spl|apply spl'|refine iJ ?_)<;>intro hc<;>try(exfalso;omega)|refine vcq ?_|refine dr 12 ?_));all_goals(try conv=>whnf);try exact trivial
      ·have hj1:j<L1.length:=by dsimp only at hc;omega
       have hgj:=hcl.ok.good _ (getR_mem hj1)
       have hbj:=hgj.bnd hx.ok hn
       have hord:=hgj.order hx.ok hn hkl
       have hbo:=hord.bnd hx.ok hn
       refine a0f (do18 n (by omega) (L1.getD j RS.begin) (by omega) (by omega) k (x.l.getD k (0,0)) (hx.ok.blkn hn hkl)) rfl ?_
       (repeat' ((conv=>whnf);first|(with_reducible first|apply spl|apply spl'|refine iJ ?_)<;>intro hc<;>try(exfalso;omega)|refine vcq ?_|refine dr 12 ?_));all_goals(try conv=>whnf);try exact trivial
       refine a0e [4] (added95 n (by omega) N (by omega) (fun t ht=>by have:=(hnx.ok.good t ht).bnd hx.ok hn;omega) ((L1.getD j RS.begin).order n k (x.l.getD k (0,0))) (by omega) true) rfl ?_ ?_
       ·exact xc3
       ·rintro _ _ ⟨rfl,rfl⟩
        have hnx':=hnx.add hx.ok hn hgj hkl
        generalize addR n N ((L1.getD j RS.begin).order n k (x.l.getD k (0,0)))=N' at hnx' ⊢
        refine x1 ?_
        refine⟨(j+1,N'),⟨⟨by dsimp only;omega,hnx'⟩,by dsimp only;omega⟩,some [some 0,some 1,some 2,some 3,some 5],?_⟩
        exact xc3
      ·have hje:j=L1.length:=by dsimp only at hc;omega
       subst hje
       have hent':=hnx.entry hx.ok hn hcl.ok hkl hne hcov
       refine⟨(k+1,N),⟨⟨by dsimp only;omega,hent'⟩,by dsimp only;omega⟩,some [some 0,some 1,some 4],?_⟩
       refine x1 ?_
       refine⟨hent'.ne,?_⟩
       exact xc3
theorem image61n (n:Nat) (hn:n≤1000) (L:List (Nat→Int)) (hL:L.length≤1000000) (f:Nat→Int) (nz nz':Bool) :
  Sx.Callee Tryz.prog 80 [.osl 0 L.length,.osl 1 n] [.row 38 1 L.length (a0u (mC n) (fun _=>0) L) nz,.row 3 1 n (iF f) nz']
   (fun v H=>v=.osl 2 (addM n L f).length∧H=[.gone,.gone,.row 38 1 (addM n L f).length (a0u (mC n) (fun _=>0) (addM n L f)) nz]):=by
 refine callee_ent Tryz.E_ok Tryz.func80 rfl (by kernel_rfl) ?_
 refine x0 ?_
 refine⟨Nat,fun i=>i≤L.length∧∀j,j<i→¬∀b,b<n→L.getD j (fun _=>0) b=f b,fun i=>L.length-i,fun i=>[(5,.int .i64 (i:Nat)),(14,.any)],fun _=>[],fun _=>[],0,⟨⟨by omega,fun b hb=>by omega⟩,none,?_⟩,?_⟩
 ·exact xc2
 ·rintro i ⟨h1,h2⟩
  have hti:(i:Int).toNat=i:=a1N i
  refine x8 (fun hc=>?_) (fun hc=>?_)
  ·have hi:i<L.length:=by omega
   have hm:L.getD i (fun _=>0)∈L:=by simp[a0A,hi]
   refine callee_view (sameInts83 n n (by omega) (by omega) (L.getD i (fun _=>0)) f) ?_
   refine x0 ?_
   rintro _ rfl
   refine x8 (fun hc=>?_) (fun hc=>?_)
   ·have e:addM n L f=L:=if_pos ⟨_,hm,hc.2⟩
    rw[e]
    refine⟨_,_,⟨rfl,rfl⟩,some [some 0,some 1,some 0],?_⟩
    cases nz
    ·exact xc2
    ·exact xc2
   ·refine⟨i+1,⟨⟨by omega,fun j hj=>?_⟩,by dsimp only;omega⟩,none,?_⟩
    ·rcases a0J (show j≤i by omega) with h|rfl
     ·exact h2 j h
     ·exact fun g=>hc ⟨rfl,g⟩
    ·exact xc2
  ·have e:addM n L f=L++[f]:=if_neg (by
    rintro⟨t,ht,hsm⟩
    obtain⟨j,hj,rfl⟩:=a1G ht
    refine h2 j (by omega) ?_
    have:L.getD j (fun _=>0)=L[j]:=by simp[a0A,hj]
    rw[this]
    exact hsm)
   rw[e]
   refine⟨_,_,⟨rfl,rfl⟩,some [some 0,some 1,some 3],?_⟩
   refine x0 ?_
   refine⟨by simp,by simp,a2d (c:=mC n) (a:=f) (l:=L) rfl (fun _ _=>rfl),?_⟩
   cases nz
   ·exact xc2
   ·exact xc2
theorem chk80 {x:Cache} (h:x.chk≠0):x.chk=80:=by unfold Cache.chk at h ⊢;split<;>simp_all
def DistL (n:Nat) (L:List (Nat→Int)):Prop:=L.Pairwise fun f g=>¬∀b,b<n→f b=g b
theorem DistL.add {n:Nat} {L:List (Nat→Int)} (h:DistL n L) (f:Nat→Int):DistL n (addM n L f):=by
 unfold addM
 split
 ·exact h
 ·rename_i hn
  unfold DistL
  rw[List.pairwise_append]
  refine⟨h,List.pairwise_singleton ..,fun g hg k hk he=>?_⟩
  rw[a0L] at hk
  subst hk
  exact hn ⟨g,hg,he⟩
theorem DistL.len {n:Nat} (hn:n≤2) {L:List (Nat→Int)} (h:DistL n L) (hr:∀f∈L,∀b,b<n→-2≤f b∧f b<7):L.length≤81:=by
 have key:(L.map fun f=>(if 0<n then(f 0+2).toNat else 0)+9*(if 1<n then(f 1+2).toNat else 0)).Nodup:=by
  unfold List.Nodup
  rw[a1P]
  refine(List.Pairwise.and_mem.1 h).imp ?_
  rintro f g ⟨hf,hg,hne⟩ e
  refine hne fun b hb=>?_
  have f0:=hr f hf 0
  have f1:=hr f hf 1
  have g0:=hr g hg 0
  have g1:=hr g hg 1
  rcases(show b=0∨b=1 by omega) with rfl|rfl
  ·rw[if_pos hb,if_pos hb] at e
   by_cases h2:1<n
   ·rw[if_pos h2,if_pos h2] at e;omega
   ·rw[if_neg h2,if_neg h2] at e;omega
  ·rw[if_pos hb,if_pos hb,if_pos (by omega),if_pos (by omega)] at e
   omega
 have:=a1p (m:=List.range 81) key (fun c hc=>by
  obtain⟨f,hf,rfl⟩:=a1C.1 hc
  have h0:=hr f hf 0
  have h1:=hr f hf 1
  rw[a1D]
  split<;>split<;>omega)
 simpa using this
theorem Images60 (x:Cache) (hx:x.Small) (n:Nat) (hn:x.n=n):NewC Tryz.prog 64 [x.v] (fun r H=>∃Ms,(ImgsR x n Ms∧DistL n Ms)∧r=.osl 0 Ms.length∧H=[.row 38 1 Ms.length (a0u (mC n) (fun _=>0) Ms) true]):=by
 have hn6:=hx.ok.n
 have hn3:=hx.n
 have hl7:=hx.l
 refine newC_ent Tryz.E_ok Tryz.func64 rfl (by kernel_rfl) ?_
 refine x1 ?_
 refine a0d (ends82 x hx n hn) rfl ?_
 rintro _ ⟨L,⟨hok,hne,hcov⟩,rfl⟩
 have hcap:=capR hx hn x.l.length L hok.good hok.nd
 refine x1 ?_
 refine⟨Nat×List (Nat→Int),fun q=>q.1≤L.length∧MgR x n L q.2 q.1 0∧DistL n q.2,fun q=>L.length-q.1,fun q=>[(5,.int .i64 (q.1:Nat)),(3,.osl 1 q.2.length)],fun _=>[],fun q=>[.row 38 1 q.2.length (a0u (mC n) (fun _=>0) q.2) true],(0,[]),⟨⟨by dsimp only;omega,MgR.start,List.Pairwise.nil⟩,some [some 0,none],?_⟩,?_⟩
 ·exact xc3
 ·rintro⟨k,Ms⟩ ⟨hk,hm,hd⟩
  dsimp only at hk hm hd
  have hml:=hm.len4 (by omega)
  have htk:(k:Int).toNat=k:=a1N k
  refine x7 (fun hc=>?_) (fun hc=>?_)
  ·have hkl:k<L.length:=by dsimp only at hc;omega
   have hg:=hok.good _ (getR_mem hkl)
   have hbn:=hg.bnd hx.ok hn
   refine a0e [1] (image61 n (by omega) Ms (by omega) (L.getD k RS.begin).M true) rfl ?_ ?_
   ·exact xc3
   ·rintro _ _ ⟨rfl,rfl⟩
    have hm1:=hm.med hx.ok hg
    have hd1:=hd.add (L.getD k RS.begin).M
    generalize addM n Ms (L.getD k RS.begin).M=M1 at hm1 hd1 ⊢
    refine x1 ?_
    refine⟨Nat×List (Nat→Int),fun q=>q.1≤n∧MgR x n L q.2 k (q.1+1)∧DistL n q.2,fun q=>n-q.1,fun q=>[(6,.int .i64 (q.1:Nat)),(3,.osl 3 q.2.length)],fun _=>[(2,.gone)],fun q=>[.row 38 1 q.2.length (a0u (mC n) (fun _=>0) q.2) true],(0,M1),⟨⟨by dsimp only;omega,hm1,hd1⟩,some [some 0,some 1,some 2,some 2],?_⟩,?_⟩
    ·exact xc3
    ·clear hm1 hm hml hc hd hd1
     rintro⟨b,M2⟩ ⟨hb,hm,hd⟩
     dsimp only at hb hm hd
     have hml:=hm.len4 (by omega)
     have htb:(b:Int).toNat=b:=a1N b
     refine x7 (fun hc=>?_) (fun hc=>?_)
     ·have hb1:b<n:=by dsimp only at hc;omega
      refine a0d (Drained17d n (by omega) (L.getD k RS.begin) (by omega) (by omega) b) rfl ?_
      rintro _ rfl
      refine x7 (fun hc=>?_) (fun hc=>?_)
      ·refine a0e [3,6] (image61n n (by omega) M2 (by omega) (tornF (L.getD k RS.begin).M b) true false) rfl ?_ ?_
       ·refine x1 ?_
        refine⟨fun j _=>?_,?_⟩
        ·dsimp only
         rw[htb]
         unfold tornF iF
         dsimp only
         by_cases e:j=b
         ·rw[a2u e,if_pos e];rfl
         ·rw[a2a e,if_neg e];rfl
        ·exact xc3
       ·rintro _ _ ⟨rfl,rfl⟩
        have hm':=hm.torn hx.ok hn hg hc
        have hd':=hd.add (tornF (L.getD k RS.begin).M b)
        generalize addM n M2 (tornF (L.getD k RS.begin).M b)=M3 at hm' hd' ⊢
        refine x1 ?_
        refine⟨(b+1,M3),⟨⟨by dsimp only;omega,hm',hd'⟩,by dsimp only;omega⟩,some [some 0,some 1,some 2,some 7],?_⟩
        exact xc3
      ·have hm':=hm.skip hc
       refine⟨(b+1,M2),⟨⟨by dsimp only;omega,hm',hd⟩,by dsimp only;omega⟩,some [some 0,some 1,some 2,some 3],?_⟩
       exact xc3
     ·have hbe:b=n:=by dsimp only at hc;omega
      subst hbe
      refine⟨(k+1,M2),⟨⟨by dsimp only;omega,hm.next,hd⟩,by dsimp only;omega⟩,some [some 0,some 3],?_⟩
      exact xc3
  ·have hke:k=L.length:=by dsimp only at hc;omega
   subst hke
   refine⟨_,_,⟨Ms,⟨hm.fin hx hn hcov hcap,hd⟩,rfl,rfl⟩,some [some 1],?_⟩
   exact xc3
theorem Possible27 (x:Cache) (hl:x.l.length≤1000000) (hs:x.chk=0→x.Small) (l:List Int) (hll:l.length≤1000000):a0q Tryz.prog 53 false [x.v,.sl 1 l.length (a0u intC 0 l)] (PosR x l):=by
 refine a0c Tryz.E_ok Tryz.func53 rfl (by kernel_rfl) ?_
 refine x1 ?_;(repeat' ((first|(refine a0d (Check37 x hl) rfl ?_;rintro _ rfl)|(refine a0f (Check37 x hl) rfl ?_)|(refine a0l (fun _=>Check37 x hl) rfl ?_));refine x7 (fun hc=>?_) (fun hc=>?_)))
 ·have h80:=chk80 hc
  refine⟨_,.chk hc,?_⟩
  rw[h80]
  exact xc3
 ·have hk:x.chk=0:=a0T.1 hc
  have hx:=hs hk
  have hn:=hx.ok.n
  have h3:=hx.n
  clear hc
  refine a0d (IsImage33 x hl l hll) rfl ?_
  rintro _ rfl
  refine x7 (fun hc=>?_) (fun hc=>?_)
  ·refine⟨_,.img hk hc,?_⟩
   exact xc3
  ·have himg:IsImg x l:=a0T.1 hc
   have hln:=himg.1
   refine callee_new (Images60 x hx l.length (by omega)) rfl ?_
   rintro _ _ ⟨Ms,⟨hM,_⟩,rfl,rfl⟩
   have hpos:=hM.pos (l:=l) rfl
   have hml:=hM.len
   refine x1 ?_
   refine a0e [1] (image61 l.length (by omega) Ms (by omega) (fun b=>l.getD b 0) true) rfl ?_ ?_
   ·exact xc3
   ·rintro _ _ ⟨rfl,rfl⟩
    refine x1 ?_
    refine⟨_,.pos hk himg,?_⟩
    refine x1 ?_
    refine⟨by rw[←hpos];omega,?_⟩
    exact xc3
end Go.Proofs
