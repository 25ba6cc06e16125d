/- Own work: texts of the proof of a law (Gr6, Gr7, Gr8, Gr9, GrA, GrD, GrE, GrF, HrB). No condition. -/
import Derived.Test.YtbdcjkcmpcdipaaGreatGrRXPart31
set_option linter.unusedVariables false
set_option linter.unusedSimpArgs false
namespace Go.Proofs
open Go Go.Sx
set_option maxRecDepth 100000
set_option maxHeartbeats 40000000
namespace Ho
open Hist (cut)
end Ho
end Go.Proofs
namespace Go.Proofs
open Go Go.Sx
set_option maxRecDepth 100000
set_option maxHeartbeats 40000000
namespace Ho
theorem EndR.rd {h:Hist} {L:List RT} (e:EndR h L) (b:Nat) (v:Int):v∈L.map (fun r=>h.res r.st b)↔h.rd b v:=by
 rw[a1C]
 constructor
 ·rintro⟨r,hr,rfl⟩
  exact⟨r.st,(e.ends _).2 ⟨r,hr,rfl⟩,rfl⟩
 ·rintro⟨s,hs,rfl⟩
  obtain⟨r,hr,rfl⟩:=(e.ends s).1 hs
  exact⟨r,hr,rfl⟩
structure FI (h:Hist) (L:List RT) (b:Nat) (C:List Int) (i k:Nat) (Ms:List (Nat→Int)):Prop where
 sound:∀v∈C,h.fl b v
 old:∀j,j<i→∀im,h.Img (L.getD j (RT.begin h)).O im→h.keep1 ((L.getD j (RT.begin h)).K.getD b 0) (im.getD b 0)∈C
 cur:∀q,q<k→(L.getD i (RT.begin h)).kf h (Ms.getD q fun _=>0) b∈C
 len:C.length≤81*i+k
namespace FI
variable {h:Hist} {L:List RT} {b:Nat} {C:List Int} {i k:Nat} {Ms:List (Nat→Int)}
theorem other (f:FI h L b C i 0 Ms) (Ns:List (Nat→Int)):FI h L b C i 0 Ns:=⟨f.sound,f.old,fun j hj=>(Nat.not_lt_zero j hj).elim,f.len⟩
theorem step (f:FI h L b C i k Ms) {v:Int} (hv:v=(L.getD i (RT.begin h)).kf h (Ms.getD k fun _=>0) b) (hfl:h.fl b v):FI h L b (C++[v]) i (k+1) Ms:=by
 refine⟨fun u hu=>?_,fun j hj im hi=>a1I _ (f.old j hj im hi),fun q hq=>?_,?_⟩
 ·rcases a0M.1 hu with q|q
  ·exact f.sound u q
  ·rw[a0L] at q
   subst q
   exact hfl
 ·rcases a0J (show q≤k by omega) with r|rfl
  ·exact a1I _ (f.cur q r)
  ·exact List.mem_append_right _ (by rw[a0L,hv])
 ·rw[a0F,a1A]
  have:=f.len
  omega
end FI
end Ho
end Go.Proofs
namespace Go.Proofs
open Go Go.Sx
set_option maxRecDepth 100000
set_option maxHeartbeats 4000000
namespace Ho
variable {h:Hist}
def OG (h:Hist) (i:Nat):Prop:=(h.at' i).k=10∧(h.at' i).t=-1
structure RW (h:Hist) (r:RT):Prop where
 ex:∃r':RT,RG h r'∧(r'.O=r.O∧r'.K=r.K)∧∀i,i∈r'.d↔i∈r.d∧¬OG h i
 nd:r.d.Nodup
 lt:∀i∈r.d,i<h.l.length
def FitX (h:Hist) (r:RT) (n:Nat):Prop:=(h.at' n).k=10→(h.at' n).t≠-1→h.res r.st (h.at' n).b.toNat=(h.at' n).v
namespace RW
theorem begin (h:Hist):RW h (RT.begin h):=⟨⟨_,RG.begin h,⟨rfl,rfl⟩,fun _=>⟨fun q=>(List.not_mem_nil q).elim,fun q=>(List.not_mem_nil q.1).elim⟩⟩,List.nodup_nil,fun _ hi=>(List.not_mem_nil hi).elim⟩
theorem dlen {r:RT} (g:RW h r):r.d.length≤h.l.length:=by
 have:=a1O g.nd (l₂:=List.range h.l.length) (fun i hi=>a1D.2 (g.lt i hi))
 rwa [List.length_range] at this
theorem ond (gh:h.Ok) {r:RT} (g:RW h r):r.O.Nodup:=by
 obtain⟨r',g',⟨e,_⟩,_⟩:=g.ex
 rw[←e];exact(Hist.Rea.inv gh g'.rea).nd
theorem cache (gh:h.Ok) {r:RT} (g:RW h r):(h.cache r.O).Ok:=by
 obtain⟨r',g',⟨e,_⟩,_⟩:=g.ex
 rw[←e];exact gh.cache (Hist.Rea.inv gh g'.rea)
theorem may {r r':RT} (hd:∀i,i∈r'.d↔i∈r.d∧¬OG h i) {n:Nat} (hm:MayD h r.d n):MayD h r'.d n:=by
 refine⟨fun q=>hm.1 ((hd n).1 q).1,fun j hj=>⟨fun q ht=>?_,fun q=>(hm.2 j hj).2 ((hd j).1 q).1⟩⟩
 exact(hm.2 j hj).1 (fun q2=>q ((hd j).2 ⟨q2,fun og=>ht og.2⟩)) ht
theorem doO {r:RT} (g:RW h r) {n:Nat} (hn:n<h.l.length) (hm:MayD h r.d n) (h9:(h.at' n).k≠9) (hf:FitX h r n):RW h (r.doO h n):=by
 obtain⟨r',g',⟨eO,eK⟩,hd⟩:=g.ex
 have hm':=may hd hm
 refine⟨?_,?_,fun i hi=>?_⟩
 ·by_cases og:OG h n
  ·have e:(h.at' n).isO=false:=by unfold Cmd.isO;simp[og.1]
   refine⟨r',g',⟨?_,eK⟩,fun i=>?_⟩
   ·unfold RT.doO;rw[e];exact eO
   ·rw[hd]
    unfold RT.doO
    rw[a0M,a0L]
    constructor
    ·exact fun q=>⟨.inl q.1,q.2⟩
    ·rintro⟨q|rfl,q2⟩
     ·exact⟨q,q2⟩
     ·exact absurd og q2
  ·have est:r'.st.O=r.st.O∧r'.st.K=r.st.K:=⟨eO,eK⟩
   have hres:∀b,h.res r'.st b=h.res r.st b:=fun b=>by unfold Hist.res;rw[est.1,est.2]
   have hs:StepI h r'.st n (r'.doO h n).st:=⟨mayD_iff.1 hm',.inl ⟨h9,fun k10=>⟨fun t=>og ⟨k10,t⟩,by rw[hres];exact hf k10 fun t=>og ⟨k10,t⟩⟩,do_st r' n⟩⟩
   refine⟨r'.doO h n,g'.step hn hs rfl,⟨?_,eK⟩,fun i=>?_⟩
   ·unfold RT.doO;rw[eO]
   ·unfold RT.doO
    rw[a0M,a0L,a0M,a0L,hd]
    constructor
    ·rintro(q|rfl)
     ·exact⟨.inl q.1,q.2⟩
     ·exact⟨.inr rfl,og⟩
    ·rintro⟨q|rfl,q2⟩
     ·exact .inl ⟨q,q2⟩
     ·exact .inr rfl
 ·unfold RT.doO
  rw[a2N]
  refine⟨g.nd,by simp,?_⟩
  rintro x hx y hy rfl
  rw[a0L] at hy
  subst hy
  exact hm.1 hx
 ·unfold RT.doO at hi
  rw[a0M,a0L] at hi
  rcases hi with hi|rfl
  ·exact g.lt i hi
  ·exact hn
end RW
theorem fall_one (gh:h.Ok) {r:RT} (g:RG h r) {i:Nat} (hm:MayD h r.d i) (hk:(h.at' i).k=9) {f:Nat→Int} {c:C6} (hp:PosI (h.cache r.O) c) (hfit:Fits h.nn f c):StepI h r.st i (r.fall h i f).st:=by
 have hI:=Hist.Rea.inv gh g.rea
 have hc:=gh.cache hI
 have h6:=gh.nn
 have lo:∀b,b<h.nn→-2≤f b:=by
  intro b hb
  rw[hfit b hb]
  rcases hp.holds hc (show b<6 by omega) with q|q|⟨q,_,q,_⟩<;>omega
 refine⟨mayD_iff.1 hm,.inr ⟨hk,_,⟨by simp,c,hp,fun b hb=>?_⟩,fall_st r i lo⟩⟩
 simp[a0A,hb,hfit b hb]
 rfl
theorem RW.fall (gh:h.Ok) {r:RT} (g:RW h r) {n:Nat} (hn:n<h.l.length) (hm:MayD h r.d n) (h9:(h.at' n).k=9) {f:Nat→Int} {c:C6} (hp:PosI (h.cache r.O) c) (hfit:Fits h.nn f c):RW h (r.fall h n f):=by
 obtain⟨r',g',⟨eO,eK⟩,hd⟩:=g.ex
 have hm':=RW.may hd hm
 refine⟨⟨r'.fall h n f,g'.step hn (fall_one gh g' hm' h9 (by rw[eO];exact hp) hfit) rfl,⟨rfl,?_⟩,fun i=>?_⟩,?_,fun i hi=>?_⟩
 ·unfold RT.fall RT.kf
  rw[eO,eK]
 ·unfold RT.fall
  rw[a0M,a0L,a0M,a0L,hd]
  constructor
  ·rintro(q|rfl)
   ·exact⟨.inl q.1,q.2⟩
   ·exact⟨.inr rfl,fun og=>by have:=og.1;omega⟩
  ·rintro⟨q|rfl,q2⟩
   ·exact .inl ⟨q,q2⟩
   ·exact .inr rfl
 ·unfold RT.fall
  rw[a2N]
  refine⟨g.nd,by simp,?_⟩
  rintro x hx y hy rfl
  rw[a0L] at hy
  subst hy
  exact hm.1 hx
 ·unfold RT.fall at hi
  rw[a0M,a0L] at hi
  rcases hi with hi|rfl
  ·exact g.lt i hi
  ·exact hn
def pos1 (O:List Nat) (n:Int) (k:Nat):List Int:=((List.range k).filter fun q=>decide (((O.getD q 0:Nat):Int)=n)).map Int.ofNat
theorem pos1_yes {O:List Nat} {n:Int} {k:Nat} (h:((O.getD k 0:Nat):Int)=n):pos1 O n (k+1)=pos1 O n k++[(k:Int)]:=by
 unfold pos1
 rw[List.range_succ,a2J,a1L,List.filter_cons,if_pos (decide_eq_true h)]
 rfl
theorem pos1_no {O:List Nat} {n:Int} {k:Nat} (h:¬((O.getD k 0:Nat):Int)=n):pos1 O n (k+1)=pos1 O n k:=by
 unfold pos1
 rw[List.range_succ,a2J,a1L,List.filter_cons,if_neg (fun q=>h (of_decide_eq_true q)),List.filter_nil,a3G,List.append_nil]
def part (O:List Nat) (n:Int):List Int:=pos1 O n O.length++if n=-1∨n=-2 then [n] else []
def idxL (O:List Nat) (im:List Int) (b:Nat):List Int:=(List.range b).flatMap fun c=>part O (im.getD c 0)
theorem idxL_succ (O:List Nat) (im:List Int) (b:Nat):idxL O im (b+1)=idxL O im b++part O (im.getD b 0):=by
 unfold idxL
 rw[List.range_succ,List.flatMap_append]
 simp
def PossX (h:Hist) (r:RT) (im:List Int):Prop:=(im.length:Int)=h.n∧IsImg (h.cache r.O) (idxL r.O im h.nn)∧IsPos (h.cache r.O) (idxL r.O im h.nn)
def fX (h:Hist) (r:RT) (im:List Int):Nat→Int:=fun b=>(idxL r.O im h.nn).getD b 0
def isx (h:Hist):RT→List Int→List (List Int)→Prop
 |r,[],ims=>WholeD h r.d∧ims=[]
 |r,x :: o,ims=>(0≤x∧x≤h.l.length-1)∧MayD h r.d x.toNat∧FitX h r x.toNat∧(((h.at' x.toNat).k≠9∧isx h (r.doO h x.toNat) o ims)∨((h.at' x.toNat).k=9∧∃im ims',ims=im :: ims'∧PossX h r im∧isx h (r.fall h x.toNat (fX h r im)) o ims'))
end Ho
end Go.Proofs
