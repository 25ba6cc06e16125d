/- Own work: texts of the proof of a law (Gr6, Gr7, Gr8, Gr9, GrA, GrD, GrE, GrF, HrB, GrH). No condition. -/
import Derived.Test.YtbdcjkcmpcdipaaGreatGrRHPart31
set_option linter.unusedVariables false
set_option linter.unusedSimpArgs false
namespace Go.Proofs
open Go Go.Sx
set_option maxRecDepth 100000
set_option maxHeartbeats 40000000
namespace Ho
end Ho
namespace Ho
end Ho
namespace Ho
end Ho
namespace Ho
open Hist (cut)
end Ho
end Go.Proofs
namespace Go.Proofs
open Go Go.Sx
set_option maxRecDepth 100000
set_option maxHeartbeats 40000000
namespace Ho
end Ho
namespace Ho
end Ho
namespace Ho
theorem EndR.rd {h:Hist} {L:List RT} (e:EndR h L) (b:Nat) (v:Int):v∈L.map (fun r=>h.res r.st b)↔h.rd b v:=by
 rw[List.mem_map]
 constructor
 ·rintro⟨r,hr,rfl⟩
  exact⟨r.st,(e.ends _).2 ⟨r,hr,rfl⟩,rfl⟩
 ·rintro⟨s,hs,rfl⟩
  obtain⟨r,hr,rfl⟩:=(e.ends s).1 hs
  exact⟨r,hr,rfl⟩
end Ho
namespace Ho
structure FI (h:Hist) (L:List RT) (b:Nat) (C:List Int) (i k:Nat) (Ms:List (Nat→Int)):Prop where
 sound:∀v∈C,h.fl b v
 old:∀j,j<i→∀im,h.Img (L.getD j (RT.begin h)).O im→h.keep1 ((L.getD j (RT.begin h)).K.getD b 0) (im.getD b 0)∈C
 cur:∀q,q<k→(L.getD i (RT.begin h)).kf h (Ms.getD q fun _=>0) b∈C
 len:C.length≤81*i+k
namespace FI
variable {h:Hist} {L:List RT} {b:Nat} {C:List Int} {i k:Nat} {Ms:List (Nat→Int)}
theorem other (f:FI h L b C i 0 Ms) (Ns:List (Nat→Int)):FI h L b C i 0 Ns:=⟨f.sound,f.old,fun j hj=>(Nat.not_lt_zero j hj).elim,f.len⟩
theorem step (f:FI h L b C i k Ms) {v:Int} (hv:v=(L.getD i (RT.begin h)).kf h (Ms.getD k fun _=>0) b) (hfl:h.fl b v):FI h L b (C++[v]) i (k+1) Ms:=by
 refine⟨fun u hu=>?_,fun j hj im hi=>List.mem_append_left _ (f.old j hj im hi),fun q hq=>?_,?_⟩
 ·rcases List.mem_append.1 hu with q|q
  ·exact f.sound u q
  ·rw[List.mem_singleton] at q
   subst q
   exact hfl
 ·rcases Nat.lt_or_eq_of_le (show q≤k by omega) with r|rfl
  ·exact List.mem_append_left _ (f.cur q r)
  ·exact List.mem_append_right _ (by rw[List.mem_singleton,hv])
 ·rw[List.length_append,List.length_singleton]
  have:=f.len
  omega
end FI
theorem kf_fl {h:Hist} (g:h.Ok) {L:List RT} (e:EndR h L) {r:RT} (hr:r∈L) {Ms:List (Nat→Int)} (hM:ImgsR (h.cache r.O) h.nn Ms) {b:Nat} (hb:b<h.nn) :
  (∀f∈Ms,h.fl b (r.kf h f b))∧∀im,h.Img r.O im→∃f∈Ms,r.kf h f b=h.keep1 (r.K.getD b 0) (im.getD b 0):=by
 have gr:=e.good r hr
 constructor
 ·intro f hf
  obtain⟨c,hp,hfit⟩:=hM.sound f hf
  refine⟨r.st,(List.range h.nn).map (fun b=>num r.O (f b)),(e.ends _).2 ⟨r,hr,rfl⟩,⟨by simp,c,hp,fun b hb=>?_⟩,?_⟩
  ·simp[List.getD_eq_getElem?_getD,hb,hfit b hb]
   rfl
  ·rw[kf_keep r (falls_fit g gr hM hf hb).1]
   congr 1
   simp[List.getD_eq_getElem?_getD,hb]
 ·rintro im ⟨_,c,hp,hall⟩
  obtain⟨f,hf,hfit⟩:=hM.cov c hp
  refine⟨f,hf,?_⟩
  rw[kf_keep r (falls_fit g gr hM hf hb).1,hall b hb,hfit b hb]
theorem FI.next {h:Hist} (g:h.Ok) {L:List RT} (e:EndR h L) {b:Nat} (hb:b<h.nn) {C:List Int} {i:Nat} (hi:i<L.length) {Ms:List (Nat→Int)} (hM:ImgsR (h.cache (L.getD i (RT.begin h)).O) h.nn Ms) (hl:Ms.length≤81) (f:FI h L b C i Ms.length Ms):FI h L b C (i+1) 0 []:=by
 refine⟨f.sound,fun j hj im him=>?_,fun j hj=>(Nat.not_lt_zero j hj).elim,by have:=f.len;omega⟩
 rcases Nat.lt_or_eq_of_le (show j≤i by omega) with q|rfl
 ·exact f.old j q im him
 ·obtain⟨m,hm,e2⟩:=(kf_fl g e (getD_memR hi) hM hb).2 im him
  obtain⟨q,hq,rfl⟩:=List.getElem_of_mem hm
  have:=f.cur q hq
  rw[List.getD_eq_getElem?_getD (l:=Ms),List.getElem?_eq_getElem hq] at this
  rw[←e2]
  exact this
end Ho
end Go.Proofs
namespace Go.Proofs
open Go Go.Sx
set_option maxRecDepth 100000
set_option maxHeartbeats 4000000
namespace Ho
variable {h:Hist}
def OG (h:Hist) (i:Nat):Prop:=(h.at' i).k=10∧(h.at' i).t=-1
structure RW (h:Hist) (r:RT):Prop where
 ex:∃r':RT,RG h r'∧(r'.O=r.O∧r'.K=r.K)∧∀i,i∈r'.d↔i∈r.d∧¬OG h i
 nd:r.d.Nodup
 lt:∀i∈r.d,i<h.l.length
def FitX (h:Hist) (r:RT) (n:Nat):Prop:=(h.at' n).k=10→(h.at' n).t≠-1→h.res r.st (h.at' n).b.toNat=(h.at' n).v
namespace RW
theorem begin (h:Hist):RW h (RT.begin h):=⟨⟨_,RG.begin h,⟨rfl,rfl⟩,fun _=>⟨fun q=>(List.not_mem_nil q).elim,fun q=>(List.not_mem_nil q.1).elim⟩⟩,List.nodup_nil,fun _ hi=>(List.not_mem_nil hi).elim⟩
theorem dlen {r:RT} (g:RW h r):r.d.length≤h.l.length:=by
 have:=List.Nodup.length_le_of_subset g.nd (l₂:=List.range h.l.length) (fun i hi=>List.mem_range.2 (g.lt i hi))
 rwa [List.length_range] at this
theorem olen (gh:h.Ok) {r:RT} (g:RW h r):r.O.length≤h.l.length:=by
 obtain⟨r',g',⟨e,_⟩,_⟩:=g.ex
 rw[←e];exact g'.olen gh
theorem klen (gh:h.Ok) {r:RT} (g:RW h r):r.K.length=h.nn:=by
 obtain⟨r',g',⟨_,e⟩,_⟩:=g.ex
 rw[←e];exact g'.klen gh
theorem olt (gh:h.Ok) {r:RT} (g:RW h r):∀i∈r.O,i<h.l.length:=by
 obtain⟨r',g',⟨e,_⟩,_⟩:=g.ex
 rw[←e];exact g'.olt gh
theorem cache (gh:h.Ok) {r:RT} (g:RW h r):(h.cache r.O).Ok:=by
 obtain⟨r',g',⟨e,_⟩,_⟩:=g.ex
 rw[←e];exact gh.cache (Hist.Rea.inv gh g'.rea)
theorem small (gh:h.Ok) (hn:h.n≤2) (hl:h.l.length≤6) {r:RT} (g:RW h r):(h.cache r.O).Small:=by
 obtain⟨r',g',⟨e,_⟩,_⟩:=g.ex
 rw[←e];exact gh.small hn hl (Hist.Rea.inv gh g'.rea)
theorem may {r r':RT} (hd:∀i,i∈r'.d↔i∈r.d∧¬OG h i) {n:Nat} (hm:MayD h r.d n):MayD h r'.d n:=by
 refine⟨fun q=>hm.1 ((hd n).1 q).1,fun j hj=>⟨fun q ht=>?_,fun q=>(hm.2 j hj).2 ((hd j).1 q).1⟩⟩
 exact(hm.2 j hj).1 (fun q2=>q ((hd j).2 ⟨q2,fun og=>ht og.2⟩)) ht
theorem doO {r:RT} (g:RW h r) {n:Nat} (hn:n<h.l.length) (hm:MayD h r.d n) (h9:(h.at' n).k≠9) (hf:FitX h r n):RW h (r.doO h n):=by
 obtain⟨r',g',⟨eO,eK⟩,hd⟩:=g.ex
 have hm':=may hd hm
 refine⟨?_,?_,fun i hi=>?_⟩
 ·by_cases og:OG h n
  ·have e:(h.at' n).isO=false:=by unfold Cmd.isO;simp[og.1]
   refine⟨r',g',⟨?_,eK⟩,fun i=>?_⟩
   ·unfold RT.doO;rw[e];exact eO
   ·rw[hd]
    unfold RT.doO
    rw[List.mem_append,List.mem_singleton]
    constructor
    ·exact fun q=>⟨.inl q.1,q.2⟩
    ·rintro⟨q|rfl,q2⟩
     ·exact⟨q,q2⟩
     ·exact absurd og q2
  ·have est:r'.st.O=r.st.O∧r'.st.K=r.st.K:=⟨eO,eK⟩
   have hres:∀b,h.res r'.st b=h.res r.st b:=fun b=>by unfold Hist.res;rw[est.1,est.2]
   have hs:StepI h r'.st n (r'.doO h n).st:=⟨mayD_iff.1 hm',.inl ⟨h9,fun k10=>⟨fun t=>og ⟨k10,t⟩,by rw[hres];exact hf k10 fun t=>og ⟨k10,t⟩⟩,do_st r' n⟩⟩
   refine⟨r'.doO h n,g'.step hn hs rfl,⟨?_,eK⟩,fun i=>?_⟩
   ·unfold RT.doO;rw[eO]
   ·unfold RT.doO
    rw[List.mem_append,List.mem_singleton,List.mem_append,List.mem_singleton,hd]
    constructor
    ·rintro(q|rfl)
     ·exact⟨.inl q.1,q.2⟩
     ·exact⟨.inr rfl,og⟩
    ·rintro⟨q|rfl,q2⟩
     ·exact .inl ⟨q,q2⟩
     ·exact .inr rfl
 ·unfold RT.doO
  rw[List.nodup_append]
  refine⟨g.nd,by simp,?_⟩
  rintro x hx y hy rfl
  rw[List.mem_singleton] at hy
  subst hy
  exact hm.1 hx
 ·unfold RT.doO at hi
  rw[List.mem_append,List.mem_singleton] at hi
  rcases hi with hi|rfl
  ·exact g.lt i hi
  ·exact hn
end RW
theorem fall_one (gh:h.Ok) {r:RT} (g:RG h r) {i:Nat} (hm:MayD h r.d i) (hk:(h.at' i).k=9) {f:Nat→Int} {c:C6} (hp:PosI (h.cache r.O) c) (hfit:Fits h.nn f c):StepI h r.st i (r.fall h i f).st:=by
 have hI:=Hist.Rea.inv gh g.rea
 have hc:=gh.cache hI
 have h6:=gh.nn
 have lo:∀b,b<h.nn→-2≤f b:=by
  intro b hb
  rw[hfit b hb]
  rcases hp.holds hc (show b<6 by omega) with q|q|⟨q,_,q,_⟩<;>omega
 refine⟨mayD_iff.1 hm,.inr ⟨hk,_,⟨by simp,c,hp,fun b hb=>?_⟩,fall_st r i lo⟩⟩
 simp[List.getD_eq_getElem?_getD,hb,hfit b hb]
 rfl
theorem RW.fall (gh:h.Ok) {r:RT} (g:RW h r) {n:Nat} (hn:n<h.l.length) (hm:MayD h r.d n) (h9:(h.at' n).k=9) {f:Nat→Int} {c:C6} (hp:PosI (h.cache r.O) c) (hfit:Fits h.nn f c):RW h (r.fall h n f):=by
 obtain⟨r',g',⟨eO,eK⟩,hd⟩:=g.ex
 have hm':=RW.may hd hm
 refine⟨⟨r'.fall h n f,g'.step hn (fall_one gh g' hm' h9 (by rw[eO];exact hp) hfit) rfl,⟨rfl,?_⟩,fun i=>?_⟩,?_,fun i hi=>?_⟩
 ·unfold RT.fall RT.kf
  rw[eO,eK]
 ·unfold RT.fall
  rw[List.mem_append,List.mem_singleton,List.mem_append,List.mem_singleton,hd]
  constructor
  ·rintro(q|rfl)
   ·exact⟨.inl q.1,q.2⟩
   ·exact⟨.inr rfl,fun og=>by have:=og.1;omega⟩
  ·rintro⟨q|rfl,q2⟩
   ·exact .inl ⟨q,q2⟩
   ·exact .inr rfl
 ·unfold RT.fall
  rw[List.nodup_append]
  refine⟨g.nd,by simp,?_⟩
  rintro x hx y hy rfl
  rw[List.mem_singleton] at hy
  subst hy
  exact hm.1 hx
 ·unfold RT.fall at hi
  rw[List.mem_append,List.mem_singleton] at hi
  rcases hi with hi|rfl
  ·exact g.lt i hi
  ·exact hn
def pos1 (O:List Nat) (n:Int) (k:Nat):List Int:=((List.range k).filter fun q=>decide (((O.getD q 0:Nat):Int)=n)).map Int.ofNat
theorem pos1_yes {O:List Nat} {n:Int} {k:Nat} (h:((O.getD k 0:Nat):Int)=n):pos1 O n (k+1)=pos1 O n k++[(k:Int)]:=by
 unfold pos1
 rw[List.range_succ,List.filter_append,List.map_append,List.filter_cons,if_pos (decide_eq_true h)]
 rfl
theorem pos1_no {O:List Nat} {n:Int} {k:Nat} (h:¬((O.getD k 0:Nat):Int)=n):pos1 O n (k+1)=pos1 O n k:=by
 unfold pos1
 rw[List.range_succ,List.filter_append,List.map_append,List.filter_cons,if_neg (fun q=>h (of_decide_eq_true q)),List.filter_nil,List.map_nil,List.append_nil]
theorem pos1_len (O:List Nat) (n:Int) (k:Nat):(pos1 O n k).length≤k:=by
 unfold pos1
 rw[List.length_map]
 refine Nat.le_trans (List.length_filter_le ..) ?_
 simp
def part (O:List Nat) (n:Int):List Int:=pos1 O n O.length++if n=-1∨n=-2 then [n] else []
theorem part_len (O:List Nat) (n:Int):(part O n).length≤O.length+1:=by
 unfold part
 have:=pos1_len O n O.length
 rw[List.length_append]
 split<;>simp<;>omega
def idxL (O:List Nat) (im:List Int) (b:Nat):List Int:=(List.range b).flatMap fun c=>part O (im.getD c 0)
theorem idxL_succ (O:List Nat) (im:List Int) (b:Nat):idxL O im (b+1)=idxL O im b++part O (im.getD b 0):=by
 unfold idxL
 rw[List.range_succ,List.flatMap_append]
 simp
theorem idxL_len (O:List Nat) (im:List Int):∀b,(idxL O im b).length≤b*(O.length+1)
 |0=>by simp[idxL]
 |b+1=>by
  rw[idxL_succ,List.length_append,Nat.add_mul]
  have:=idxL_len O im b
  have:=part_len O (im.getD b 0)
  omega
def PossX (h:Hist) (r:RT) (im:List Int):Prop:=(im.length:Int)=h.n∧IsImg (h.cache r.O) (idxL r.O im h.nn)∧IsPos (h.cache r.O) (idxL r.O im h.nn)
def fX (h:Hist) (r:RT) (im:List Int):Nat→Int:=fun b=>(idxL r.O im h.nn).getD b 0
theorem PossX.pos (gh:h.Ok) {r:RT} {im:List Int} (p:PossX h r im):(idxL r.O im h.nn).length=h.nn∧∃c,PosI (h.cache r.O) c∧Fits h.nn (fX h r im) c:=by
 obtain⟨_,⟨h1,_⟩,c,hp,he⟩:=p
 have hn:=gh.nn
 have h1:((idxL r.O im h.nn).length:Int)=h.n:=h1
 have hl:(idxL r.O im h.nn).length=h.nn:=by omega
 exact⟨hl,c,hp,fun b hb=>(he b (by omega)).symm⟩
def isx (h:Hist):RT→List Int→List (List Int)→Prop
 |r,[],ims=>WholeD h r.d∧ims=[]
 |r,x :: o,ims=>(0≤x∧x≤h.l.length-1)∧MayD h r.d x.toNat∧FitX h r x.toNat∧(((h.at' x.toNat).k≠9∧isx h (r.doO h x.toNat) o ims)∨((h.at' x.toNat).k=9∧∃im ims',ims=im :: ims'∧PossX h r im∧isx h (r.fall h x.toNat (fX h r im)) o ims'))
theorem isx_end (gh:h.Ok):∀(o:List Int) (r:RT) (ims:List (List Int)),RW h r→isx h r o ims→h.Legal
 |[],r,ims,g,hx=>by
  obtain⟨hw,_⟩:=hx
  obtain⟨r',g',_,hd⟩:=g.ex
  refine⟨r'.st,g'.rea,wholeD_iff.1 fun i hi ht=>(hd i).2 ⟨hw i hi ht,fun og=>ht og.2⟩⟩
 |x :: o,r,ims,g,hx=>by
  obtain⟨hr,hm,hf,⟨h9,hx⟩|⟨h9,im,ims',rfl,hp,hx⟩⟩:=hx
  ·exact isx_end gh o _ _ (g.doO (by omega) hm h9 hf) hx
  ·obtain⟨_,c,hc,hfit⟩:=hp.pos gh
   exact isx_end gh o _ _ (g.fall gh (by omega) hm h9 hc hfit) hx
end Ho
end Go.Proofs
namespace Go.Proofs
open Go Go.Sx
set_option maxRecDepth 100000
set_option maxHeartbeats 40000000
namespace Ho
abbrev IE:=Nat×(Nat→Int)
def lC (e:IE):List V:=[.sl 1 e.1 (iF e.2)]
def ie0:IE:=(0,fun _=>0)
def tol (e:IE):List Int:=(List.range e.1).map e.2
theorem tol_len (e:IE):(tol e).length=e.1:=by unfold tol;rw[List.length_map,List.length_range]
theorem tol_get (e:IE) {b:Nat} (hb:b<e.1):(tol e).getD b 0=e.2 b:=by
 unfold tol
 simp[List.getD_eq_getElem?_getD,hb]
theorem prop_iff {p q:Prop} {d:Decidable p} {e:Decidable q} (h:p↔q):V.prop p d=V.prop q e:=by
 have x:p=q:=propext h
 subst x
 exact congrArg (V.prop p) (Subsingleton.elim _ _)
theorem mayI (h:Hist) (hl:h.l.length≤1000000) (r:RT) (hd:r.d.length≤1000000) (x:Int) (hx:0≤x∧x≤h.l.length-1):a0o Tryz.prog 50 false [h.w,r.v h,.int .i64 x] (·=.prop (MayD h r.d x.toNat) (Classical.propDecidable _)):=by
 have:=may50 h hl r hd x.toNat (by omega)
 rwa [show((x.toNat:Nat):Int)=x by omega] at this
theorem resI (h:Hist) (g:h.Ok) (hl:h.l.length≤1000000) (r:RT) (gr:RW h r) (b:Int) (hb:0≤b∧b.toNat<h.nn):a0o Tryz.prog 51 false [h.w,r.v h,.int .i64 b] (·=.int .i64 (h.res r.st b.toNat)):=by
 have hK:=gr.klen g
 have hO:=gr.olen g
 have h6:=g.nn
 have e:((b.toNat:Nat):Int)=b:=by omega
 have:=result51 h hl r (gr.olt g) (by omega) b.toNat (by omega) (by omega)
 rw[e] at this
 unfold Hist.res
 rw[e]
 exact this
theorem possU {x:Cache} {l:List Int} (hk:x.chk=0) {a:List V} (h:a0o Tryz.prog 53 false a (PosR x l)):∃e:Int,(IsImg x l∧IsPos x l→e=0)∧a0o Tryz.prog 53 false a (·=.tup [.prop (IsImg x l∧IsPos x l) (Classical.propDecidable _),.int .i64 e]):=by
 by_cases hi:IsImg x l
 ·refine⟨0,fun _=>rfl,h.mono fun r hr=>?_⟩
  cases hr with
  |chk q=>exact absurd hk q
  |img _ q=>exact absurd hi q
  |pos=>
   exact congrArg (fun p=>V.tup [p,.int .i64 0]) (prop_iff ⟨fun q=>⟨hi,q⟩,fun q=>q.2⟩)
 ·refine⟨81,fun q=>absurd q.1 hi,h.mono fun r hr=>?_⟩
  cases hr with
  |chk q=>exact absurd hk q
  |img=>
   exact congrArg (fun p=>V.tup [p,.int .i64 81]) (prop_iff ⟨False.elim,fun q=>hi q.1⟩)
  |pos _ q=>exact absurd q hi
theorem PosI.lo {h:Hist} (g:h.Ok) {r:RT} (gr:RW h r) {f:Nat→Int} {c:C6} (hp:PosI (h.cache r.O) c) (hf:Fits h.nn f c):∀b,b<h.nn→-2≤f b∧(0≤f b→(f b).toNat<r.O.length):=by
 have h6:=g.nn
 have hl:(h.cache r.O).l.length=r.O.length:=List.length_map ..
 intro b hb
 rw[hf b hb]
 rcases hp.holds (gr.cache g) (show b<6 by omega) with q|q|⟨q,h1,q,_⟩<;>omega
theorem isx22 (h:Hist) (g:h.Ok) (h2:h.n≤2) (h6:h.l.length≤6) (o:List Int) (ho:o.length≤20) (ims:List IE) (hims:ims.length≤20) (him:∀im∈ims,im.1≤9223372036854775807) :
  a0o Tryz.prog 22 false [h.w,.sl 1 o.length (a0u intC 0 o),.sl 1 ims.length (a0u lC ie0 ims)] (·=.prop (isx h (RT.begin h) o (ims.map tol)) (Classical.propDecidable _)):=by
 have hnn:=g.nn
 refine a0b Tryz.E_ok Tryz.func22 rfl (by kernel_rfl) ?_
 (repeat' ((conv=>whnf);first|(with_reducible first|apply spl|apply spl'|refine iJ ?_)<;>intro hc<;>try(exfalso;omega)|refine vcq ?_|refine dr 20 ?_|refine dr 9 ?_|refine dr 18 ?_|refine dr 7 ?_|refine dr 14 ?_));all_goals(try conv=>whnf);try exact trivial
 refine a0d (begin49 h g.n) rfl ?_
 rintro _ rfl
 (repeat' ((conv=>whnf);first|(with_reducible first|apply spl|apply spl'|refine iJ ?_)<;>intro hc<;>try(exfalso;omega)|refine vcq ?_|refine dr 20 ?_|refine dr 9 ?_|refine dr 18 ?_|refine dr 7 ?_|refine dr 14 ?_));all_goals(try conv=>whnf);try exact trivial
 refine⟨Nat×Nat×RT,fun q=>(q.1≤o.length∧q.2.1≤ims.length)∧RW h q.2.2∧(isx h (RT.begin h) o (ims.map tol)↔isx h q.2.2 (o.drop q.1) ((ims.drop q.2.1).map tol)),fun q=>o.length-q.1,fun q=>[(9,.int .i64 (q.1:Nat)),(8,.int .i64 (q.2.1:Nat)),(17,.any),(18,.any)],fun q=>[(1,.cells 77 (q.2.2.c h))],fun _=>[],(0,0,RT.begin h),⟨⟨⟨Nat.zero_le _,Nat.zero_le _⟩,RW.begin h,by rw[List.drop_zero,List.drop_zero]⟩,some [some 0,some 1],?_⟩,?_⟩
 ·(repeat' ((conv=>whnf);first|(with_reducible first|apply spl|apply spl'|refine iJ ?_)<;>intro hc<;>try(exfalso;omega)|refine vcq ?_|refine dr 20 ?_|refine dr 9 ?_|refine dr 18 ?_|refine dr 7 ?_|refine dr 14 ?_));all_goals(try conv=>whnf);try exact trivial
 ·rintro⟨i,f,r⟩ ⟨⟨hi,hf⟩,hr,hx⟩
  dsimp only at hi hf hr hx
  have hi0:((i:Nat):Int).toNat=i:=by omega
  have hdl:=hr.dlen
  have hol:=hr.olen g
  have hkl:=hr.klen g
  (repeat' ((conv=>whnf);first|(with_reducible first|apply spl|apply spl'|refine iJ ?_)<;>intro hc<;>try(exfalso;omega)|refine vcq ?_|refine dr 20 ?_|refine dr 9 ?_|refine dr 18 ?_|refine dr 7 ?_|refine dr 14 ?_));all_goals(try conv=>whnf);try exact trivial
  ·have hil:i<o.length:=by dsimp only at hc;omega
   have hdr:o.drop i=o.getD i 0 :: o.drop (i+1):=by
    rw[List.drop_eq_getElem_cons hil]
    congr 1
    simp[List.getD_eq_getElem?_getD,hil]
   rw[hdr] at hx
   obtain⟨x,hxe⟩:∃x,o.getD i 0=x:=⟨_,rfl⟩
   rw[hxe] at hx
   have hxe':o.getD ((i:Nat):Int).toNat 0=x:=by rw[hi0,hxe]
   dsimp only
   rw[hxe']
   have hmay:=mayI h (by omega) r (by omega) x
   have hrx:=resI h g (by omega) r hr
   have hcm:=fun hx:0≤x∧x≤h.l.length-1=>g.cmd x.toNat (by omega)
   refine a0f (rwithin x 0 (h.l.length-1)) rfl ?_
   (repeat' ((conv=>whnf);first|(with_reducible first|apply spl|apply spl'|refine iJ ?_)<;>intro hc<;>try(exfalso;omega)|refine vcq ?_|refine dr 20 ?_|refine dr 9 ?_|refine dr 18 ?_|refine dr 7 ?_|refine dr 14 ?_));all_goals(try conv=>whnf);try exact trivial
   rw[hxe']
   refine a0l (fun hg=>hmay (Classical.not_not.1 hg)) rfl ?_
   (repeat' ((conv=>whnf);first|(with_reducible first|apply spl|apply spl'|refine iJ ?_)<;>intro hc<;>try(exfalso;omega)|refine vcq ?_|refine dr 20 ?_|refine dr 9 ?_|refine dr 18 ?_|refine dr 7 ?_|refine dr 14 ?_));all_goals(try conv=>whnf);try exact trivial
   ·refine⟨_,rfl,?_⟩
    refine⟨fun q=>?_,trivial⟩
    have q2:=hx.1 q
    exact hc.elim (fun u=>u q2.1) (fun u=>u q2.2.1)
   ·have hxr:0≤x∧x≤h.l.length-1:=Classical.byContradiction fun u=>hc (.inl u)
    have hmd:MayD h r.d x.toNat:=Classical.byContradiction fun u=>hc (.inr u)
    have hcx:=hcm hxr
    clear hc hmay hcm
    have e0:h.l.getD x.toNat c0=h.at' x.toNat:=rfl
    (repeat' ((conv=>whnf);first|(with_reducible first|apply spl|apply spl'|refine iJ ?_)<;>intro hc<;>try(exfalso;omega)|refine vcq ?_|refine dr 20 ?_|refine dr 9 ?_|refine dr 18 ?_|refine dr 7 ?_|refine dr 14 ?_));all_goals(try conv=>whnf);try exact trivial
    rw[hxe',e0]
    have hFit:FitX h r x.toNat↔((h.at' x.toNat).k=10→(h.at' x.toNat).t≠-1→h.res r.st (h.at' x.toNat).b.toNat=(h.at' x.toNat).v):=Iff.rfl
    have hrc:(h.at' x.toNat).k=10→0≤(h.at' x.toNat).b∧(h.at' x.toNat).b.toNat<h.nn:=by
     unfold Cmd.Ok at hcx
     omega
    have hdo:=rdo52 h (by omega) r (by omega) (by omega) x.toNat (by omega)
    rw[show((x.toNat:Nat):Int)=x by omega] at hdo
    have hnx:=fun a b=>hr.doO (n:=x.toNat) (by omega) hmd a b
    have hfw:=fun a f c hp hfit=>hr.fall g (n:=x.toNat) (by omega) hmd a (f:=f) (c:=c) hp hfit
    have hxn:(h.at' x.toNat).k≠9→FitX h r x.toNat→(isx h (RT.begin h) o (ims.map tol)↔isx h (r.doO h x.toNat) (o.drop (i+1)) ((ims.drop f).map tol)):=fun a b=>hx.trans ⟨fun q=>q.2.2.2.elim (fun u=>u.2) (fun u=>absurd u.1 a),fun q=>⟨hxr,hmd,b,.inl ⟨a,q⟩⟩⟩
    have hxy:(h.at' x.toNat).k=9→FitX h r x.toNat→(isx h (RT.begin h) o (ims.map tol)↔∃im ims',(ims.drop f).map tol=im :: ims'∧PossX h r im∧isx h (r.fall h x.toNat (fX h r im)) (o.drop (i+1)) ims'):=fun a b=>hx.trans ⟨fun q=>q.2.2.2.elim (fun u=>absurd a u.1) (fun u=>u.2),fun q=>⟨hxr,hmd,b,.inr ⟨a,q⟩⟩⟩
    have hxf:isx h (RT.begin h) o (ims.map tol)→FitX h r x.toNat:=fun q=>(hx.1 q).2.2.1
    clear hx
    generalize h.at' x.toNat=c at *
    refine a0l (fun _=>ropen c) rfl ?_
    (repeat' ((conv=>whnf);first|(with_reducible first|apply spl|apply spl'|refine iJ ?_)<;>intro hc<;>try(exfalso;omega)|refine vcq ?_|refine dr 20 ?_|refine dr 9 ?_|refine dr 18 ?_|refine dr 7 ?_|refine dr 14 ?_));all_goals(try conv=>whnf);try exact trivial
    refine a0l (fun hg=>hrx _ (hrc hg.1)) rfl ?_
    (repeat' ((conv=>whnf);first|(with_reducible first|apply spl|apply spl'|refine iJ ?_)<;>intro hc<;>try(exfalso;omega)|refine vcq ?_|refine dr 20 ?_|refine dr 9 ?_|refine dr 18 ?_|refine dr 7 ?_|refine dr 14 ?_));all_goals(try conv=>whnf);try exact trivial
    ·refine⟨_,rfl,?_⟩
     refine⟨fun q=>?_,trivial⟩
     exact hc.2 (hFit.1 (hxf q) hc.1.1 hc.1.2)
    ·rename_i q1
     have hfit:FitX h r x.toNat:=hFit.2 fun a b=>Classical.byContradiction fun u=>q1 ⟨⟨a,b⟩,u⟩
     have h9:c.k≠9:=hc
     rw[hxe']
     refine a0f hdo rfl ?_
     (repeat' ((conv=>whnf);first|(with_reducible first|apply spl|apply spl'|refine iJ ?_)<;>intro hc<;>try(exfalso;omega)|refine vcq ?_|refine dr 20 ?_|refine dr 9 ?_|refine dr 18 ?_|refine dr 7 ?_|refine dr 14 ?_));all_goals(try conv=>whnf);try exact trivial
     refine⟨(i+1,f,r.doO h x.toNat),⟨⟨⟨hil,hf⟩,hnx h9 hfit,hxn h9 hfit⟩,by dsimp only;omega⟩,some [some 0,some 1],?_⟩
     (repeat' ((conv=>whnf);first|(with_reducible first|apply spl|apply spl'|refine iJ ?_)<;>intro hc<;>try(exfalso;omega)|refine vcq ?_|refine dr 20 ?_|refine dr 9 ?_|refine dr 18 ?_|refine dr 7 ?_|refine dr 14 ?_));all_goals(try conv=>whnf);try exact trivial
    ·rename_i q1 q2
     have hfit:FitX h r x.toNat:=hFit.2 fun a b=>Classical.byContradiction fun u=>q1 ⟨⟨a,b⟩,u⟩
     have h9:c.k=9:=Classical.not_not.1 q2
     refine⟨_,rfl,?_⟩
     refine⟨fun q=>?_,trivial⟩
     obtain⟨im,ims',e,hp,_⟩:=(hxy h9 hfit).1 q
     have hfl:f<ims.length:=Classical.byContradiction fun u=>by
      rw[List.drop_eq_nil_of_le (by omega)] at e
      cases e
     rw[List.drop_eq_getElem_cons hfl,List.map_cons] at e
     cases e
     rcases hc with u|u
     ·omega
     ·refine u ?_
      rw[Int.toNat_natCast,List.getD_eq_getElem?_getD,List.getElem?_eq_getElem hfl]
      have:=hp.1
      rw[tol_len] at this
      exact this
    ·rename_i q1 q2
     have hfit:FitX h r x.toNat:=hFit.2 fun a b=>Classical.byContradiction fun u=>q1 ⟨⟨a,b⟩,u⟩
     have h9:c.k=9:=Classical.not_not.1 q2
     have hfl:f<ims.length:=by omega
     have hxy:=hxy h9 hfit
     rw[List.drop_eq_getElem_cons hfl,List.map_cons] at hxy
     obtain⟨im,hime⟩:∃im,ims.getD f ie0=im:=⟨_,rfl⟩
     have hime2:ims[f]=im:=by rw[←hime,List.getD_eq_getElem?_getD,List.getElem?_eq_getElem hfl];rfl
     have himl:=him im (by rw[←hime2];exact List.getElem_mem hfl)
     rw[hime2] at hxy
     have hf0:((f:Nat):Int).toNat=f:=by omega
     rw[hf0,hime] at hc
     have hlen:(im.1:Int)=h.n:=by omega
     clear hc hrx hrc hcx hdo hnx hxn hxf hFit q1 q2
     have hidl:=idxL_len r.O (tol im)
     have htl:=tol_len im
     have h7:∀b,b≤h.nn→(idxL r.O (tol im) b).length≤14:=fun b hb=>by
      have a1:=hidl b
      have a2:b*(r.O.length+1)≤2*(r.O.length+1):=Nat.mul_le_mul_right _ (by omega)
      omega
     refine⟨Nat,fun b=>b≤h.nn,fun b=>h.nn-b,fun b=>[(12,.int .i64 (b:Nat)),(11,.osl 3 (idxL r.O (tol im) b).length),(13,.any),(14,.any),(15,.any),(16,.any),(17,.any),(18,.any),(19,.any),(20,.any),(21,.any),(22,.any),(23,.any),(24,.any),(25,.any),(26,.any),(27,.any),(28,.any),(29,.any),(30,.any),(31,.any),(32,.any),(33,.any),(34,.any),(35,.any),(36,.any),(37,.any),(38,.any),(39,.any),(40,.any),(41,.any),(42,.any),(43,.any),(44,.any),(45,.any),(46,.any),(47,.any),(48,.any),(49,.any),(50,.any),(51,.any),(52,.any),(53,.any),(54,.any),(55,.any),(56,.any),(57,.any),(58,.any),(59,.any),(60,.any),(61,.any),(62,.any),(63,.any),(64,.any),(65,.any),(66,.any),(67,.any),(68,.any),(69,.any),(70,.any),(71,.any),(72,.any),(73,.any),(74,.any),(75,.any),(76,.any),(77,.any),(78,.any),(79,.any),(80,.any),(81,.any),(82,.any),(83,.any),(84,.any),(85,.any),(86,.any),(87,.any),(88,.any),(89,.any),(90,.any),(91,.any),(92,.any),(93,.any),(94,.any),(95,.any),(96,.any),(97,.any),(98,.any),(99,.any),(100,.any),(101,.any),(102,.any),(103,.any),(104,.any),(105,.any),(106,.any),(107,.any),(108,.any),(109,.any),(110,.any),(111,.any),(112,.any),(113,.any),(114,.any),(115,.any),(116,.any),(117,.any),(118,.any),(119,.any),(120,.any),(121,.any),(122,.any),(123,.any),(124,.any),(125,.any),(126,.any),(127,.any),(128,.any),(129,.any),(130,.any),(131,.any),(132,.any),(133,.any),(134,.any),(135,.any),(136,.any),(137,.any),(138,.any),(139,.any),(140,.any),(141,.any),(142,.any),(143,.any),(144,.any),(145,.any),(146,.any),(147,.any),(148,.any),(149,.any),(150,.any),(151,.any),(152,.any),(153,.any),(154,.any),(155,.any),(156,.any),(157,.any),(158,.any),(159,.any),(160,.any),(161,.any),(162,.any),(163,.any),(164,.any),(165,.any),(166,.any),(167,.any),(168,.any)],fun _=>[],fun b=>[.row 3 1 (idxL r.O (tol im) b).length (a0u intC 0 (idxL r.O (tol im) b)) true],0,⟨Nat.zero_le _,some [some 0,some 1,some 2,none],?_⟩,?_⟩
     ·(repeat' ((conv=>whnf);first|(with_reducible first|apply spl|apply spl'|refine iJ ?_)<;>intro hc<;>try(exfalso;omega)|refine vcq ?_|refine dr 20 ?_|refine dr 9 ?_|refine dr 18 ?_|refine dr 7 ?_|refine dr 14 ?_));all_goals(try conv=>whnf);try exact trivial
     ·intro b hb
      have hb:b≤h.nn:=hb
      have hb0:((b:Nat):Int).toNat=b:=by omega
      have h7b:=h7 b hb
      (repeat' ((conv=>whnf);first|(with_reducible first|apply spl|apply spl'|refine iJ ?_)<;>intro hc<;>try(exfalso;omega)|refine vcq ?_|refine dr 20 ?_|refine dr 9 ?_|refine dr 18 ?_|refine dr 7 ?_|refine dr 14 ?_));all_goals(try conv=>whnf);try exact trivial
      ·have hbn:b<h.nn:=by omega
       rw[hf0,hime]
       refine⟨⟨by omega,by omega⟩,?_⟩
       (repeat' ((conv=>whnf);first|(with_reducible first|apply spl|apply spl'|refine iJ ?_)<;>intro hc<;>try(exfalso;omega)|refine vcq ?_|refine dr 20 ?_|refine dr 9 ?_|refine dr 18 ?_|refine dr 7 ?_|refine dr 14 ?_));all_goals(try conv=>whnf);try exact trivial
       rw[hb0]
       have htg:=tol_get im (b:=b) (by omega)
       have h7s:=h7 (b+1) (by omega)
       rw[idxL_succ] at h7s
       have hsuc:=idxL_succ r.O (tol im) b
       rw[htg] at hsuc h7s
       clear htg
       generalize im.2 b=n at *
       have hpl:=fun k (hk:k≤r.O.length)=>pos1_len r.O n k
       have hpart:part r.O n=pos1 r.O n r.O.length++if n=-1∨n=-2 then [n] else []:=rfl
       refine⟨Nat,fun k=>k≤r.O.length,fun k=>r.O.length-k,fun k=>[(14,.int .i64 (k:Nat)),(11,.osl 3 (idxL r.O (tol im) b++pos1 r.O n k).length),(95,.any),(96,.any),(97,.any),(98,.any),(99,.any),(100,.any),(101,.any),(102,.any),(103,.any),(104,.any),(105,.any),(106,.any),(107,.any),(108,.any),(109,.any),(110,.any),(111,.any),(112,.any),(113,.any),(114,.any),(115,.any),(116,.any),(117,.any),(118,.any),(119,.any),(120,.any),(121,.any),(122,.any),(123,.any),(124,.any),(125,.any),(126,.any),(127,.any),(128,.any),(129,.any),(130,.any),(131,.any),(132,.any),(133,.any),(134,.any),(135,.any),(136,.any),(137,.any),(138,.any),(139,.any),(140,.any),(141,.any),(142,.any),(143,.any),(144,.any),(145,.any),(146,.any),(147,.any),(148,.any),(149,.any),(150,.any),(151,.any),(152,.any),(153,.any),(154,.any),(155,.any),(156,.any),(157,.any),(158,.any),(159,.any),(160,.any),(161,.any),(162,.any),(163,.any),(164,.any),(165,.any),(166,.any),(167,.any),(168,.any)],fun k=>[(3,.row 3 1 (idxL r.O (tol im) b++pos1 r.O n k).length (a0u intC 0 (idxL r.O (tol im) b++pos1 r.O n k)) true)],fun _=>[],0,⟨Nat.zero_le _,some [some 0,some 1,some 2,some 3],?_⟩,?_⟩
       ·have e:idxL r.O (tol im) b++pos1 r.O n 0=idxL r.O (tol im) b:=List.append_nil _
        dsimp only
        rw[e]
        (repeat' ((conv=>whnf);first|(with_reducible first|apply spl|apply spl'|refine iJ ?_)<;>intro hc<;>try(exfalso;omega)|refine vcq ?_|refine dr 20 ?_|refine dr 9 ?_|refine dr 18 ?_|refine dr 7 ?_|refine dr 14 ?_));all_goals(try conv=>whnf);try exact trivial
       ·intro k hk
        have hk:k≤r.O.length:=hk
        have hk0:((k:Nat):Int).toNat=k:=by omega
        have hpk:=hpl k hk
        have hql:(idxL r.O (tol im) b++pos1 r.O n k).length≤30:=by rw[List.length_append];omega
        have hio:=fun hk:k<r.O.length=>iL_get r.O hk
        (repeat' ((conv=>whnf);first|(with_reducible first|apply spl|apply spl'|refine iJ ?_)<;>intro hc<;>try(exfalso;omega)|refine vcq ?_|refine dr 20 ?_|refine dr 9 ?_|refine dr 18 ?_|refine dr 7 ?_|refine dr 14 ?_));all_goals(try conv=>whnf);try exact trivial
        all_goals try rw[hk0] at hc
        ·have hkl:k<r.O.length:=by omega
         rw[hio hkl] at hc
         have e:idxL r.O (tol im) b++pos1 r.O n (k+1)=(idxL r.O (tol im) b++pos1 r.O n k)++[(k:Int)]:=by rw[pos1_yes hc,List.append_assoc]
         generalize idxL r.O (tol im) b++pos1 r.O n k=X at *
         refine⟨k+1,⟨by omega,by dsimp only;omega⟩,some [some 0,some 1,some 2,some 5],?_⟩
         dsimp only
         rw[e]
         (repeat' ((conv=>whnf);first|(with_reducible first|apply spl|apply spl'|refine iJ ?_)<;>intro hc<;>try(exfalso;omega)|refine vcq ?_|refine dr 20 ?_|refine dr 9 ?_|refine dr 18 ?_|refine dr 7 ?_|refine dr 14 ?_));all_goals(try conv=>whnf);try exact trivial
         refine⟨by rw[List.length_append,List.length_singleton],?_⟩
         (repeat' ((conv=>whnf);first|(with_reducible first|apply spl|apply spl'|refine iJ ?_)<;>intro hc<;>try(exfalso;omega)|refine vcq ?_|refine dr 20 ?_|refine dr 9 ?_|refine dr 18 ?_|refine dr 7 ?_|refine dr 14 ?_));all_goals(try conv=>whnf);try exact trivial
         refine⟨by rw[List.length_append,List.length_singleton],a1r (c:=intC) (a:=(k:Int)) (l:=X) rfl (fun _ _=>rfl),?_⟩
         (repeat' ((conv=>whnf);first|(with_reducible first|apply spl|apply spl'|refine iJ ?_)<;>intro hc<;>try(exfalso;omega)|refine vcq ?_|refine dr 20 ?_|refine dr 9 ?_|refine dr 18 ?_|refine dr 7 ?_|refine dr 14 ?_));all_goals(try conv=>whnf);try exact trivial
        ·have hkl:k<r.O.length:=by omega
         rw[hio hkl] at hc
         have e:idxL r.O (tol im) b++pos1 r.O n (k+1)=idxL r.O (tol im) b++pos1 r.O n k:=by rw[pos1_no hc]
         refine⟨k+1,⟨by omega,by dsimp only;omega⟩,some [some 0,some 1,some 2,some 3],?_⟩
         dsimp only
         rw[e]
         (repeat' ((conv=>whnf);first|(with_reducible first|apply spl|apply spl'|refine iJ ?_)<;>intro hc<;>try(exfalso;omega)|refine vcq ?_|refine dr 20 ?_|refine dr 9 ?_|refine dr 18 ?_|refine dr 7 ?_|refine dr 14 ?_));all_goals(try conv=>whnf);try exact trivial
        ·have hke:k=r.O.length:=by omega
         subst hke
         rw[if_pos (show n=-1∨n=-2 by assumption)] at hpart
         have e:idxL r.O (tol im) (b+1)=(idxL r.O (tol im) b++pos1 r.O n r.O.length)++[n]:=by rw[hsuc,hpart,List.append_assoc]
         generalize idxL r.O (tol im) b++pos1 r.O n r.O.length=X at *
         refine⟨b+1,⟨by omega,by dsimp only;omega⟩,some [some 0,some 1,some 2,some 5],?_⟩
         dsimp only
         rw[e]
         (repeat' ((conv=>whnf);first|(with_reducible first|apply spl|apply spl'|refine iJ ?_)<;>intro hc<;>try(exfalso;omega)|refine vcq ?_|refine dr 20 ?_|refine dr 9 ?_|refine dr 18 ?_|refine dr 7 ?_|refine dr 14 ?_));all_goals(try conv=>whnf);try exact trivial
         refine⟨by rw[List.length_append,List.length_singleton],?_⟩
         (repeat' ((conv=>whnf);first|(with_reducible first|apply spl|apply spl'|refine iJ ?_)<;>intro hc<;>try(exfalso;omega)|refine vcq ?_|refine dr 20 ?_|refine dr 9 ?_|refine dr 18 ?_|refine dr 7 ?_|refine dr 14 ?_));all_goals(try conv=>whnf);try exact trivial
         refine⟨by rw[List.length_append,List.length_singleton],a1r (c:=intC) (a:=n) (l:=X) rfl (fun _ _=>rfl),?_⟩
         (repeat' ((conv=>whnf);first|(with_reducible first|apply spl|apply spl'|refine iJ ?_)<;>intro hc<;>try(exfalso;omega)|refine vcq ?_|refine dr 20 ?_|refine dr 9 ?_|refine dr 18 ?_|refine dr 7 ?_|refine dr 14 ?_));all_goals(try conv=>whnf);try exact trivial
        ·have hke:k=r.O.length:=by omega
         subst hke
         rw[if_neg (show ¬(n=-1∨n=-2) by assumption),List.append_nil] at hpart
         have e:idxL r.O (tol im) (b+1)=idxL r.O (tol im) b++pos1 r.O n r.O.length:=by rw[hsuc,hpart]
         refine⟨b+1,⟨by omega,by dsimp only;omega⟩,some [some 0,some 1,some 2,some 3],?_⟩
         dsimp only
         rw[e]
         (repeat' ((conv=>whnf);first|(with_reducible first|apply spl|apply spl'|refine iJ ?_)<;>intro hc<;>try(exfalso;omega)|refine vcq ?_|refine dr 20 ?_|refine dr 9 ?_|refine dr 18 ?_|refine dr 7 ?_|refine dr 14 ?_));all_goals(try conv=>whnf);try exact trivial
      ·have hbe:b=h.nn:=by omega
       subst hbe
       have hco:=hr.cache g
       have hck:(h.cache r.O).chk=0:=if_pos hco
       have hP:=Possible27 (h.cache r.O) (by rw[show(h.cache r.O).l.length=r.O.length from List.length_map ..];omega) (fun _=>hr.small g h2 h6) (idxL r.O (tol im) h.nn) (by omega)
       have hfX:fX h r (tol im)=fun b=>(idxL r.O (tol im) h.nn).getD b 0:=rfl
       have hpx:PossX h r (tol im)↔IsImg (h.cache r.O) (idxL r.O (tol im) h.nn)∧IsPos (h.cache r.O) (idxL r.O (tol im) h.nn):=⟨fun q=>q.2,fun q=>⟨by rw[htl];exact hlen,q⟩⟩
       have hpos:=fun(q:PossX h r (tol im))=>q.pos g
       generalize idxL r.O (tol im) h.nn=X at *
       obtain⟨e,he,hP⟩:=possU hck hP
       generalize hpp:(IsImg (h.cache r.O) X∧IsPos (h.cache r.O) X)=pp at *
       refine callee_view hP ?_
       (repeat' ((conv=>whnf);first|(with_reducible first|apply spl|apply spl'|refine iJ ?_)<;>intro hc<;>try(exfalso;omega)|refine vcq ?_|refine dr 20 ?_|refine dr 9 ?_|refine dr 18 ?_|refine dr 7 ?_|refine dr 14 ?_));all_goals(try conv=>whnf);try exact trivial
       rintro _ rfl
       (repeat' ((conv=>whnf);first|(with_reducible first|apply spl|apply spl'|refine iJ ?_)<;>intro hc<;>try(exfalso;omega)|refine vcq ?_|refine dr 20 ?_|refine dr 9 ?_|refine dr 18 ?_|refine dr 7 ?_|refine dr 14 ?_));all_goals(try conv=>whnf);try exact trivial
       ·refine⟨_,rfl,?_⟩
        refine⟨fun q=>?_,trivial⟩
        obtain⟨im1,ims1,e1,hp,_⟩:=hxy.1 q
        cases e1
        have:=hpx.1 hp
        exact hc.elim (fun u=>u (he this)) (fun u=>u this)
       ·have hpp2:pp:=Classical.byContradiction fun u=>hc (.inr u)
        obtain⟨hXl,cc,hp1,hp2⟩:=hpos (hpx.2 hpp2)
        have hw:=hfw h9 _ cc hp1 hp2
        have hp3:=PosI.lo g hr hp1 hp2
        have hxy2:isx h (RT.begin h) o (ims.map tol)↔isx h (r.fall h x.toNat (fX h r (tol im))) (o.drop (i+1)) ((ims.drop (f+1)).map tol):=hxy.trans ⟨fun q=>by
         obtain⟨im1,ims1,e1,_,q⟩:=q
         cases e1
         exact q,fun q=>⟨tol im,_,rfl,hpx.2 hpp2,q⟩⟩
        have hfa:=rfall54 h (by omega) hnn.1.symm hnn.2.2 r (hr.olt g) (by omega) (by omega) hkl x.toNat (by omega) (fX h r (tol im)) hp3
        rw[show((x.toNat:Nat):Int)=x by omega,hfX,←hXl] at hfa
        rw[hfX] at hw hxy2
        generalize r.fall h x.toNat (fun b=>X.getD b 0)=rf at *
        clear hxy hfw hpos hpx hP hp1 hp2 hp3 h7 hidl hc
        rw[hxe']
        refine callee_view hfa ?_
        (repeat' ((conv=>whnf);first|(with_reducible first|apply spl|apply spl'|refine iJ ?_)<;>intro hc<;>try(exfalso;omega)|refine vcq ?_|refine dr 20 ?_|refine dr 9 ?_|refine dr 18 ?_|refine dr 7 ?_|refine dr 14 ?_));all_goals(try conv=>whnf);try exact trivial
        rintro _ rfl
        (repeat' ((conv=>whnf);first|(with_reducible first|apply spl|apply spl'|refine iJ ?_)<;>intro hc<;>try(exfalso;omega)|refine vcq ?_|refine dr 20 ?_|refine dr 9 ?_|refine dr 18 ?_|refine dr 7 ?_|refine dr 14 ?_));all_goals(try conv=>whnf);try exact trivial
        refine⟨(i+1,f+1,rf),⟨⟨⟨by dsimp only;omega,by dsimp only;omega⟩,hw,hxy2⟩,by dsimp only;omega⟩,some [some 0,some 1],?_⟩
        (repeat' ((conv=>whnf);first|(with_reducible first|apply spl|apply spl'|refine iJ ?_)<;>intro hc<;>try(exfalso;omega)|refine vcq ?_|refine dr 20 ?_|refine dr 9 ?_|refine dr 18 ?_|refine dr 7 ?_|refine dr 14 ?_));all_goals(try conv=>whnf);try exact trivial
  ·have hie:i=o.length:=by dsimp only at hc;omega
   subst hie
   rw[List.drop_length] at hx
   dsimp only
   refine a0d (whole55 h (by omega) r.d (by omega)) rfl ?_
   rintro _ rfl
   (repeat' ((conv=>whnf);first|(with_reducible first|apply spl|apply spl'|refine iJ ?_)<;>intro hc<;>try(exfalso;omega)|refine vcq ?_|refine dr 20 ?_|refine dr 9 ?_|refine dr 18 ?_|refine dr 7 ?_|refine dr 14 ?_));all_goals(try conv=>whnf);try exact trivial
   refine⟨_,rfl,?_⟩
   refine⟨?_,trivial⟩
   rw[hx]
   refine and_congr Iff.rfl ?_
   rw[List.map_eq_nil_iff,List.drop_eq_nil_iff]
   omega
end Ho
end Go.Proofs
