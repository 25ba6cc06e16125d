/- Own work: texts of the proof of a law (WqN, WqM, WqA, WqT, WqQ, WsQ). No condition. -/
import Derived.Test.YtkgjhinmndcmjaaGreatPart11
import Derived.Test.YtkgjhinmndcmjaaGreatPart14
import Derived.Test.YtkgjhinmndcmjaaGreatPart0
set_option linter.unusedVariables false
set_option linter.unusedSimpArgs false
namespace Go.Proofs
set_option maxHeartbeats 1000000
def loc (H:Nat):List Nat→Nat→Nat×Nat×Nat
 |[],_=>(0,0,0)
 |s :: S,n=>if n<H*s then(0,n / s,n % s) else let p:=loc H S (n-H*s);(p.1+1,p.2)
def fstS (H:Nat) (S:List Nat) (c h:Nat):Nat:=H*(S.take c).sum+h*S.getD c 0
def AtS (H:Nat) (S:List Nat) (n c h s:Nat):Prop:=c<S.length∧h<H∧s<S.getD c 0∧n=fstS H S c h+s
theorem loc_of {H:Nat}:∀{S:List Nat} {n c h s:Nat},AtS H S n c h s→loc H S n=(c,h,s)
 |[],n,c,h,s,⟨h1,_⟩=>by simp at h1
 |a :: S,n,0,h,s,⟨h1,h2,h3,h4⟩=>by
  simp only[fstS,List.take_zero,List.sum_nil,Nat.mul_zero,a3B,List.getD_cons_zero] at h3 h4
  have hlt:n<H*a:=by
   have:(h+1)*a≤H*a:=a0H _ h2
   rw[Nat.succ_mul] at this
   omega
  have e1:n / a=h:=by
   rw[h4,Nat.mul_comm,Nat.mul_add_div (by omega),Nat.div_eq_of_lt h3,a2O]
  have e2:n % a=s:=by
   rw[h4,Nat.mul_comm,Nat.mul_add_mod,Nat.mod_eq_of_lt h3]
  unfold loc
  rw[if_pos hlt,e1,e2]
 |a :: S,n,c+1,h,s,⟨h1,h2,h3,h4⟩=>by
  simp only[fstS,List.take_succ_cons,List.sum_cons,List.getD_cons_succ,Nat.mul_add] at h3 h4
  have hr:AtS H S (n-H*a) c h s:=⟨by simpa using h1,h2,h3,by unfold fstS;omega⟩
  have ih:=loc_of hr
  unfold loc
  rw[if_neg (by omega)]
  simp only[ih]
theorem at_loc {H:Nat}:∀{S:List Nat} {n:Nat},n<H*S.sum→AtS H S n (loc H S n).1 (loc H S n).2.1 (loc H S n).2.2
 |[],n,h=>by simp at h
 |a :: S,n,h=>by
  unfold loc
  by_cases hlt:n<H*a
  ·rw[if_pos hlt]
   have ha:0<a:=by
    rcases a3C a with e|e
    ·subst e;simp at hlt
    ·exact e
   refine⟨by simp,?_,?_,?_⟩
   ·exact Nat.div_lt_of_lt_mul (by rw[Nat.mul_comm];exact hlt)
   ·exact Nat.mod_lt _ ha
   ·simp only[fstS,List.take_zero,List.sum_nil,Nat.mul_zero,a3B,List.getD_cons_zero]
    rw[Nat.mul_comm]
    exact(Nat.div_add_mod n a).symm
  ·rw[if_neg hlt]
   simp only[List.sum_cons,Nat.mul_add] at h
   obtain⟨h1,h2,h3,h4⟩:=at_loc (H:=H) (S:=S) (n:=n-H*a) (by omega)
   refine⟨by simpa using h1,h2,by simpa using h3,?_⟩
   simp only[fstS,List.take_succ_cons,List.sum_cons,List.getD_cons_succ,Nat.mul_add]
   unfold fstS at h4
   omega
theorem a3e (H:Nat) (S:List Nat) (c h:Nat):fstS H S c (h+1)=fstS H S c h+S.getD c 0:=by
 unfold fstS
 rw[Nat.succ_mul]
 omega
theorem fstS_cyl (H:Nat) (S:List Nat) (c:Nat) (hc:c<S.length):fstS H S (c+1) 0=fstS H S c H:=by
 unfold fstS
 rw[a1D hc,List.sum_append,Nat.mul_add,Nat.zero_mul,a2O]
 simp[a0A,hc]
theorem fstS_zero (H:Nat) (S:List Nat):fstS H S 0 0=0:=by simp[fstS]
theorem fstS_all (H:Nat) (S:List Nat):fstS H S S.length 0=H*S.sum:=by simp[fstS]
theorem at_prev {H:Nat} {S:List Nat} {n c h s:Nat} (h1:AtS H S (n+1) c h s) (hpos:∀a∈S,0<a) :
  AtS H S n c h (s-1)∧0<s∨s=0∧0<h∧AtS H S n c (h-1) (S.getD c 0-1)∨s=0∧h=0∧0<c∧AtS H S n (c-1) (H-1) (S.getD (c-1) 0-1):=by
 obtain⟨h2,h3,h4,h5⟩:=h1
 have hp:∀c,c<S.length→0<S.getD c 0:=fun c hc=>by
  rw[show S.getD c 0=S[c] by simp[a0A,hc]]
  exact hpos _ (a0N hc)
 rcases a3C s with rfl|hs
 ·rcases a3C h with rfl|hh
  ·rcases a3C c with rfl|hc
   ·rw[fstS_zero] at h5;omega
   ·have hp1:=hp (c-1) (by omega)
    have e:=fstS_cyl H S (c-1) (by omega)
    rw[show c-1+1=c by omega] at e
    have e2:=a3e H S (c-1) (H-1)
    rw[show H-1+1=H by omega] at e2
    exact .inr (.inr ⟨rfl,rfl,hc,by omega,by omega,by omega,by omega⟩)
  ·have hp1:=hp c h2
   have e:=a3e H S c (h-1)
   rw[show h-1+1=h by omega] at e
   exact .inr (.inl ⟨rfl,hh,h2,by omega,by omega,by omega⟩)
 ·exact .inl ⟨⟨h2,h3,by omega,by omega⟩,hs⟩
def kindS (H:Nat) (S:List Nat) (n:Nat):Nat:=
 if(loc H S n).1≠(loc H S (n-1)).1 then 2 else if(loc H S n).2.1≠(loc H S (n-1)).2.1 then 1 else 0
theorem kindS_at {H:Nat} {S:List Nat} {n c h s:Nat} (h1:AtS H S n c h s) (hn:0<n) (hpos:∀a∈S,0<a) :
  kindS H S n=if 0<s then 0 else if 0<h then 1 else 2:=by
 obtain⟨m,rfl⟩:∃m,n=m+1:=⟨n-1,by omega⟩
 unfold kindS
 rw[loc_of h1,Nat.add_sub_cancel]
 rcases at_prev h1 hpos with⟨g,hs⟩|⟨hs,hh,g⟩|⟨hs,hh,hc,g⟩
 ·rw[loc_of g];simp[hs]
 ·rw[loc_of g]
  have e:h≠h-1:=by omega
  simp[hs,hh,e]
 ·rw[loc_of g]
  have e:c≠c-1:=by omega
  simp[hs,hh,e]
theorem gap_eq {T skew ticks:Int} (h2:skew<T) (h3:0≤ticks) (m:Nat) (h4:ticks≤skew+m*T) (h5:∀j:Nat,j<m→skew+j*T<ticks) :
  ticks+((skew-ticks) % T+T) % T=skew+m*T:=by
 have e:((skew-ticks) % T+T) % T=(skew-ticks) % T:=by
  rw[Int.add_emod_right,Int.emod_emod_of_dvd _ (Int.dvd_refl T)]
 rw[e]
 have e2:(skew-ticks) % T=(skew+m*T-ticks) % T:=by
  rw[show skew+m*T-ticks=(skew-ticks)+m*T by omega,Int.add_mul_emod_self_right]
 rw[e2,Int.emod_eq_of_lt (by omega)]
 ·omega
 ·rcases m with _|m
  ·simp;omega
  ·have:=h5 m (by omega)
   rw[show((m+1:Nat):Int)*T=m*T+T by push_cast;rw[Int.add_mul,Int.one_mul]]
   omega
end Go.Proofs
namespace Go.Proofs
open Go Go.Sx
set_option maxHeartbeats 1000000
def sumR (f:Nat→Int) (a:Nat):Nat→Int
 |0=>0
 |k+1=>sumR f a k+f (a+k)
theorem sumR_add (f:Nat→Int) (a k:Nat):∀m,sumR f a (k+m)=sumR f a k+sumR f (a+k) m
 |0=>by simp[sumR]
 |m+1=>by
  show sumR f a (k+m)+f (a+(k+m))=sumR f a k+(sumR f (a+k) m+f (a+k+m))
  rw[sumR_add f a k m,Nat.add_assoc]
  omega
theorem sumR_const (f:Nat→Int) (v:Int) (a:Nat):∀m,(∀i,i<m→f (a+i)=v)→sumR f a m=m*v
 |0,_=>by simp[sumR]
 |m+1,h=>by
  show sumR f a m+f (a+m)=_
  rw[sumR_const f v a m (fun i hi=>h i (by omega)),h m (by omega)]
  push_cast
  rw[Int.add_mul,Int.one_mul]
theorem sumR_le {f g:Nat→Int} {a:Nat}:∀m,(∀i,f (a+i)≤g (a+i))→sumR f a m≤sumR g a m
 |0,_=>a1Q _
 |m+1,h=>by
  show sumR f a m+f (a+m)≤sumR g a m+g (a+m)
  have:=sumR_le m h
  have:=h m
  omega
theorem sumR_lin (f g h:Nat→Int) (x y:Int) (a:Nat) (e:∀i,h i=x*f i+y*g i):∀m,sumR h a m=x*sumR f a m+y*sumR g a m
 |0=>by simp[sumR]
 |m+1=>by
  show sumR h a m+h (a+m)=x*(sumR f a m+f (a+m))+y*(sumR g a m+g (a+m))
  rw[sumR_lin f g h x y a e m,e,Int.mul_add,Int.mul_add]
  omega
def isK (H:Nat) (S:List Nat) (k n:Nat):Int:=if kindS H S n=k then 1 else 0
def durS (H:Nat) (S:List Nat) (T:Int) (n:Nat):Int:=T / (S.getD (loc H S n).1 0:Nat)
theorem durS_at {H:Nat} {S:List Nat} {T:Int} {n c h s:Nat} (h1:AtS H S n c h s):durS H S T n=T / (S.getD c 0:Nat):=by
 unfold durS
 rw[loc_of h1]
def partA (fr ct F:Nat):Nat:=min (fr+ct) F-fr
def a2i (fr ct F:Nat):Nat:=min F (fr+ct-1)-fr
theorem in_track {H:Nat} {S:List Nat} {c h i:Nat} (hc:c<S.length) (hh:h<H) (h1:fstS H S c h≤i) (h2:i<fstS H S c h+S.getD c 0):AtS H S i c h (i-fstS H S c h):=
 ⟨hc,hh,by omega,by omega⟩
theorem run_none {fr ct F s:Nat} (hct:1≤ct) (h:¬(max fr F:Nat)<min (fr+ct) (F+s)):partA fr ct (F+s)=partA fr ct F∧a2i fr ct (F+s)=a2i fr ct F:=by
 unfold partA a2i
 omega
theorem run_some {H:Nat} {S:List Nat} {T:Int} {fr ct c h:Nat} (hpos:∀a∈S,0<a) (hc:c<S.length) (hh:h<H) (hct:1≤ct) (hall:fr+ct≤H*S.sum)
  (hov:(max fr (fstS H S c h):Nat)<min (fr+ct) (fstS H S c h+S.getD c 0)) :
  sumR (durS H S T) fr (partA fr ct (fstS H S c h+S.getD c 0))=sumR (durS H S T) fr (partA fr ct (fstS H S c h))+((min (fr+ct) (fstS H S c h+S.getD c 0)-max fr (fstS H S c h):Nat):Int)*(T / (S.getD c 0:Nat))∧
  ∀k,0<k→sumR (isK H S k) (fr+1) (a2i fr ct (fstS H S c h+S.getD c 0))=sumR (isK H S k) (fr+1) (a2i fr ct (fstS H S c h)) +
   if fstS H S c h+S.getD c 0<fr+ct then(if k=(if h+1=H then 2 else 1) then 1 else 0) else 0:=by
 generalize hF:fstS H S c h=F at *
 generalize hs:S.getD c 0=s at *
 have hs0:0<s:=by
  rw[←hs,show S.getD c 0=S[c] by simp[a0A,hc]]
  exact hpos _ (a0N hc)
 have hat:∀i,F≤i→i<F+s→AtS H S i c h (i-F):=fun i h1 h2=>by
  have:=in_track (i:=i) hc hh (by omega) (by omega)
  rwa [hF] at this
 constructor
 ·have e:partA fr ct (F+s)=partA fr ct F+(min (fr+ct) (F+s)-max fr F):=by unfold partA;omega
  rw[e,sumR_add,sumR_const (durS H S T) (T / (s:Nat)) (fr+partA fr ct F)]
  intro i hi
  rw[durS_at (hat _ (by unfold partA;omega) (by unfold partA;omega)),hs]
 ·intro k hk
  have h0:∀i,F<i→i<F+s→isK H S k i=0:=fun i h1 h2=>by
   have e:kindS H S i=0:=by rw[kindS_at (hat i (by omega) h2) (by omega) hpos,if_pos (by omega)]
   unfold isK
   rw[e,if_neg (by omega)]
  by_cases hlt:F+s<fr+ct
  ·rw[if_pos hlt]
   have e:a2i fr ct (F+s)=a2i fr ct F+(a2i fr ct (F+s)-a2i fr ct F-1)+1:=by unfold a2i;omega
   have e2:fr+1+(a2i fr ct F+(a2i fr ct (F+s)-a2i fr ct F-1))=F+s:=by unfold a2i;omega
   rw[e]
   show sumR _ _ (a2i fr ct F+(a2i fr ct (F+s)-a2i fr ct F-1))+isK H S k (fr+1+(a2i fr ct F+(a2i fr ct (F+s)-a2i fr ct F-1)))=_
   rw[sumR_add,sumR_const (isK H S k) 0 (fr+1+a2i fr ct F) _ (fun i hi=>h0 _ (by unfold a2i;omega) (by unfold a2i at hi ⊢;omega)),e2]
   have hk2:isK H S k (F+s)=if k=(if h+1=H then 2 else 1) then 1 else 0:=by
    unfold isK
    by_cases hl:h+1=H
    ·have hcs:c+1<S.length:=by
      rcases a1N (c+1) S.length with g|g
      ·exact g
      ·exfalso
       have h3:=fstS_cyl H S c hc
       have h4:=a3e H S c h
       rw[hl,←h3,show c+1=S.length by omega,fstS_all] at h4
       omega
     have hat2:AtS H S (F+s) (c+1) 0 0:=by
      refine⟨hcs,by omega,?_,?_⟩
      ·rw[show S.getD (c+1) 0=S[c+1] by simp[a0A,hcs]]
       exact hpos _ (a0N hcs)
      ·have h3:=fstS_cyl H S c hc
       have h4:=a3e H S c h
       rw[hl,←h3] at h4
       omega
     rw[kindS_at hat2 (by omega) hpos]
     simp only[Nat.lt_irrefl,if_false,if_pos hl]
     by_cases e3:k=2
     ·simp[e3]
     ·rw[if_neg e3,if_neg (fun g=>e3 g.symm)]
    ·have hat2:AtS H S (F+s) c (h+1) 0:=by
      refine⟨hc,by omega,by omega,?_⟩
      have h4:=a3e H S c h
      omega
     rw[kindS_at hat2 (by omega) hpos]
     simp only[Nat.lt_irrefl,if_false,if_neg hl,Nat.succ_pos,if_true]
     by_cases e3:k=1
     ·simp[e3]
     ·rw[if_neg e3,if_neg (fun g=>e3 g.symm)]
   rw[hk2]
   simp
  ·rw[if_neg hlt]
   have e:a2i fr ct (F+s)=a2i fr ct F+(a2i fr ct (F+s)-a2i fr ct F):=by unfold a2i;omega
   rw[e,sumR_add,sumR_const (isK H S k) 0 (fr+1+a2i fr ct F) _ (fun i hi=>h0 _ (by unfold a2i;omega) (by unfold a2i at hi ⊢;omega))]
   simp
def cntGt (l:List Nat) (m:Nat):Nat:=(l.filter fun b=>decide (m<b)).length
def FitsQ (n p:Nat) (od:Nat→Prop) (before:List Nat) (r:Nat):Prop:=∀m,m<n→m<r→m∉before→1+cntGt before m≤p∧¬od m∧¬od r
def AllP (n p:Nat) (od:Nat→Prop) (o:List Nat):Prop:=∀i,i<o.length→FitsQ n p od (o.take i) (o.getD i 0)
structure IsOrd (n:Nat) (o:List Nat):Prop where
 len:o.length=n
 nd:o.Nodup
 lt:∀x∈o,x<n
theorem a1a {o:List Nat} {i:Nat} (h:i<o.length):o.getD i 0=o[i]:=by simp[a0A,h]
theorem IsOrd.inj {n:Nat} {o:List Nat} (h:IsOrd n o) {i k:Nat} (hi:i<o.length) (hk:k<o.length) (e:o.getD i 0=o.getD k 0):i=k:=by
 rw[a1a hi,a1a hk] at e
 have hp:=a0T.1 h.nd
 rcases a3G i k with g|g|g
 ·exact absurd e (hp i k hi hk g)
 ·exact g
 ·exact absurd e.symm (hp k i hk hi g)
theorem IsOrd.mem {n:Nat} {o:List Nat} (h:IsOrd n o) {m:Nat} (hm:m<n):∃i,i<o.length∧o.getD i 0=m:=by
 have hmo:m∈o:=a0Q fun g=>by
  have:=a1t (m:=List.range n) (List.nodup_cons.2 ⟨g,h.nd⟩) (fun x hx=>by
   rcases a0Z.1 hx with rfl|hx
   ·exact a1F.2 hm
   ·exact a1F.2 (h.lt x hx))
  simp[h.len] at this
  omega
 obtain⟨i,hi,e⟩:=a1A hmo
 exact⟨i,hi,by rw[a1a hi,e]⟩
open Classical in
noncomputable def dfsQ (n p:Nat) (od:Nat→Prop):Nat→List Nat→List (List Nat)
 |0,b=>[b]
 |m+1,b=>(List.range n).flatMap fun k=>if k∈b then [] else if FitsQ n p od b k then dfsQ n p od m (b++[k]) else []
noncomputable def allQ (n p:Nat) (od:Nat→Prop):List (List Nat):=dfsQ n p od n []
structure Dk where
 H:Int
 T:Int
 Z:List (Int×Int)
 hk:Int
 ck:Int
 hs:Int×Int
 cs:Int×Int
namespace Dk
def SpanOk (s:Int×Int):Prop:=0≤s.1∧s.1≤s.2∧s.2≤2000
structure Ok (d:Dk):Prop where
 h:1≤d.H∧d.H≤4
 t:1≤d.T∧d.T≤1000
 z:1≤d.Z.length∧d.Z.length≤4
 hk:0≤d.hk∧d.hk≤d.T-1
 ck:0≤d.ck∧d.ck≤d.T-1
 hs:SpanOk d.hs
 cs:SpanOk d.cs
 zone:∀z∈d.Z,(1≤z.1∧z.1≤20)∧(1≤z.2∧z.2≤16)∧d.T % z.2=0
def S (d:Dk):List Nat:=d.Z.flatMap fun z=>List.replicate z.1.toNat z.2.toNat
def cnt (d:Dk):Nat:=d.H.toNat*d.S.sum
def off (d:Dk) (c h:Nat):Int:=(c*d.ck+(c*(d.H-1)+h)*d.hk) % d.T
def ang (d:Dk) (n:Nat):Int:=
 let p:=loc d.H.toNat d.S n
 (d.off p.1 p.2.1+p.2.2*(d.T / (d.S.getD p.1 0:Nat))) % d.T
def gapOf (d:Dk) (skew ticks:Int):Int:=ticks+((skew-ticks) % d.T+d.T) % d.T
def gapK (d:Dk) (hi:Bool) (k:Nat):Int:=
 if k=1 then d.gapOf d.hk (if hi then d.hs.2 else d.hs.1) else if k=2 then d.gapOf d.ck (if hi then d.cs.2 else d.cs.1) else 0
def run (d:Dk) (hi:Bool) (fr ct:Nat):Int:=
 sumR (durS d.H.toNat d.S d.T) fr ct+sumR (fun i=>d.gapK hi (kindS d.H.toNat d.S i)) (fr+1) (ct-1)
def Spre (d:Dk) (i k:Nat):List Nat:=(d.Z.take i).flatMap (fun z=>List.replicate z.1.toNat z.2.toNat)++List.replicate k (d.Z.getD i (0,0)).2.toNat
theorem Spre_zero (d:Dk):d.Spre 0 0=[]:=by simp[Spre]
theorem Spre_all (d:Dk):d.Spre d.Z.length 0=d.S:=by simp[Spre,S]
theorem Spre_succ (d:Dk) (i k:Nat):d.Spre i (k+1)=d.Spre i k++[(d.Z.getD i (0,0)).2.toNat]:=by
 unfold Spre
 rw[List.replicate_succ',a1P]
theorem Spre_zone (d:Dk) (i:Nat) (hi:i<d.Z.length):d.Spre (i+1) 0=d.Spre i (d.Z.getD i (0,0)).1.toNat:=by
 unfold Spre
 rw[a1D hi,List.flatMap_append]
 simp[a0A,hi]
theorem Spre_prefix (d:Dk) (i k:Nat) (hi:i<d.Z.length) (hk:k≤(d.Z.getD i (0,0)).1.toNat):d.Spre i k <+: d.S:=by
 have e:d.S=d.Spre i k++(List.replicate ((d.Z.getD i (0,0)).1.toNat-k) (d.Z.getD i (0,0)).2.toNat++(d.Z.drop (i+1)).flatMap (fun z=>List.replicate z.1.toNat z.2.toNat)):=by
  unfold S Spre
  conv=>lhs;rw[←a1T i d.Z]
  rw[List.flatMap_append,a1P,a2A hi,List.flatMap_cons]
  rw[←a1P (List.replicate k _),List.replicate_append_replicate]
  rw[show d.Z[i]=d.Z.getD i (0,0) by simp[a0A,hi]]
  rw[show k+((d.Z.getD i (0,0)).1.toNat-k)=(d.Z.getD i (0,0)).1.toNat by omega]
 rw[e]
 exact List.prefix_append _ _
theorem Spre_get (d:Dk) (i k:Nat) (hi:i<d.Z.length) (hk:k<(d.Z.getD i (0,0)).1.toNat):(d.Spre i k).length<d.S.length∧d.S.getD (d.Spre i k).length 0=(d.Z.getD i (0,0)).2.toNat∧d.S.take (d.Spre i k).length=d.Spre i k:=by
 obtain⟨t,ht⟩:=d.Spre_prefix i (k+1) hi hk
 rw[Spre_succ,a1P] at ht
 rw[←ht]
 refine⟨by simp,?_,by simp⟩
 simp[a0A]
theorem zone_at {d:Dk} (hd:d.Ok) {i:Nat} (hi:i<d.Z.length):(1≤(d.Z.getD i (0,0)).1∧(d.Z.getD i (0,0)).1≤20)∧(1≤(d.Z.getD i (0,0)).2∧(d.Z.getD i (0,0)).2≤16)∧d.T % (d.Z.getD i (0,0)).2=0:=by
 rw[show d.Z.getD i (0,0)=d.Z[i] by simp[a0A,hi]]
 exact hd.zone _ (a0N hi)
theorem S_pos {d:Dk} (hd:d.Ok):∀a∈d.S,0<a∧a≤16:=by
 intro a ha
 unfold S at ha
 obtain⟨z,hz,ha⟩:=List.mem_flatMap.1 ha
 have:=hd.zone z hz
 rw[(List.mem_replicate.1 ha).2]
 omega
theorem Sl_aux:∀(Z:List (Int×Int)),(∀z∈Z,z.1≤20∧z.2≤16)→(Z.flatMap fun z=>List.replicate z.1.toNat z.2.toNat).length≤20*Z.length∧(Z.flatMap fun z=>List.replicate z.1.toNat z.2.toNat).sum≤320*Z.length
 |[],_=>by simp
 |z :: Z,h=>by
  have ih:=Sl_aux Z (fun z hz=>h z (a2K _ hz))
  have hz:=h z a1V
  simp only[List.flatMap_cons,a0M,List.length_replicate,List.sum_append,List.sum_replicate_nat,a2R]
  have:z.1.toNat*z.2.toNat≤20*16:=a2I (by omega) (by omega)
  omega
theorem S_len {d:Dk} (hd:d.Ok):d.S.length≤80∧d.S.sum≤1280:=by
 have:=Sl_aux d.Z (fun z hz=>by have:=hd.zone z hz;omega)
 have:=hd.z
 unfold S
 omega
theorem cnt_le {d:Dk} (hd:d.Ok):d.cnt≤5120:=by
 have:=(S_len hd).2
 have h:=hd.h
 have:d.cnt≤4*1280:=a2I (by omega) this
 omega
end Dk
def nextT (T a t:Int):Int:=t+((a-t) % T+T) % T
theorem nextT_eq {T:Int} (a t:Int):nextT T a t=t+(a-t) % T:=by
 unfold nextT
 rw[Int.add_emod_right,Int.emod_emod_of_dvd _ (Int.dvd_refl T)]
theorem nextT_bnd {T:Int} (hT:0<T) (a t:Int):t≤nextT T a t∧nextT T a t<t+T:=by
 rw[nextT_eq]
 have:=Int.emod_nonneg (a-t) (show T≠0 by omega)
 have:=Int.emod_lt_of_pos (a-t) hT
 omega
theorem nextT_mono {T:Int} (hT:0<T) (a:Int) {t u:Int} (h:t≤u):nextT T a t≤nextT T a u:=by
 have h1:=nextT_bnd hT a t
 have h2:=nextT_bnd hT a u
 have e1:nextT T a t=a-T*((a-t) / T):=by rw[nextT_eq];have:=Int.mul_ediv_add_emod (a-t) T;omega
 have e2:nextT T a u=a-T*((a-u) / T):=by rw[nextT_eq];have:=Int.mul_ediv_add_emod (a-u) T;omega
 rcases Int.lt_or_le (nextT T a u) (nextT T a t) with g|g
 ·exfalso
  have h3:T*((a-t) / T)<T*((a-u) / T):=by omega
  have h4:(a-t) / T<(a-u) / T:=Int.lt_of_mul_lt_mul_left h3 (by omega)
  have h5:T*((a-t) / T+1)≤T*((a-u) / T):=Int.mul_le_mul_of_nonneg_left (by omega) (by omega)
  rw[Int.mul_add,Int.mul_one] at h5
  omega
 ·exact g
structure Rq where
 fr:Int
 ct:Int
 t0:Int
 du:Int
 od:Bool
def Rq.none:Rq:=⟨0,0,0,0,false⟩
structure Qu where
 d:Dk
 cyl:Int
 pas:Int
 sk:List (Int×Int)
 rq:List Rq
namespace Qu
def RqOk (q:Qu) (r:Rq):Prop:=(0≤r.fr∧r.fr≤q.d.cnt-1)∧(1≤r.ct∧r.ct≤q.d.cnt-r.fr)∧(0≤r.t0∧r.t0≤10000)∧-1≤r.du∧r.du≤100000
structure Ok (q:Qu):Prop where
 d:q.d.Ok
 cyl:0≤q.cyl∧q.cyl≤q.d.S.length-1
 skl:q.sk.length=q.d.S.length
 rql:q.rq.length≤6
 pas:0≤q.pas∧q.pas≤6
 sk:∀s∈q.sk,0≤s.1∧s.1≤s.2∧s.2≤5000
 rq:∀r∈q.rq,q.RqOk r
 asc:∀i,i+1<q.rq.length→(q.rq.getD i Rq.none).t0≤(q.rq.getD (i+1) Rq.none).t0
structure Small (q:Qu):Prop where
 ok:q.Ok
 cnt:q.d.cnt≤200
 t:q.d.T≤120
 rql:q.rq.length≤4
def req (q:Qu) (r:Nat):Rq:=q.rq.getD r Rq.none
def cy (q:Qu) (n:Int):Nat:=(loc q.d.H.toNat q.d.S n.toNat).1
def sek (q:Qu) (a b:Nat):Int×Int:=q.sk.getD (max (a-b) (b-a)) (0,0)
def pick (hi:Bool) (s:Int×Int):Int:=if hi then s.2 else s.1
def srv (q:Qu) (r:Nat) (t sk rn:Int):Int:=nextT q.d.T (q.d.ang (q.req r).fr.toNat) (max t (q.req r).t0+sk)+rn
def rn (q:Qu) (hi:Bool) (r:Nat):Int:=q.d.run hi (q.req r).fr.toNat (q.req r).ct.toNat
def stQ (q:Qu) (hi:Bool) (o:List Nat):Nat→Nat×Int
 |0=>(q.cyl.toNat,0)
 |k+1=>(q.cy ((q.req (o.getD k 0)).fr+(q.req (o.getD k 0)).ct-1),
   q.srv (o.getD k 0) (stQ q hi o k).2 (pick hi (q.sek (stQ q hi o k).1 (q.cy (q.req (o.getD k 0)).fr))) (q.rn hi (o.getD k 0)))
def endOf (q:Qu) (hi:Bool) (o:List Nat) (r:Nat):Int:=if r∈o then(q.stQ hi o (o.idxOf r+1)).2 else 0
theorem stQ_cyl (q:Qu) (o:List Nat):∀k,(q.stQ true o k).1=(q.stQ false o k).1
 |0=>rfl
 |_+1=>rfl
end Qu
namespace Dk
theorem gap_mono (d:Dk) (hT:0<d.T) (s:Int) {a b:Int} (h:a≤b):d.gapOf s a≤d.gapOf s b:=nextT_mono hT s h
theorem gap_bnd (d:Dk) (hT:0<d.T) (s a:Int):a≤d.gapOf s a∧d.gapOf s a<a+d.T:=nextT_bnd hT s a
theorem gapK_le {d:Dk} (hd:d.Ok) (k:Nat):0≤d.gapK false k∧d.gapK false k≤d.gapK true k∧d.gapK true k≤3000:=by
 have ht:=hd.t
 have h1:=hd.hs
 have h2:=hd.cs
 unfold SpanOk at h1 h2
 have hT:0<d.T:=by omega
 unfold gapK
 split
 ·have:=d.gap_mono hT d.hk h1.2.1
  have:=d.gap_bnd hT d.hk d.hs.1
  have:=d.gap_bnd hT d.hk d.hs.2
  simp only[if_true,a2N,if_false]
  omega
 ·split
  ·have:=d.gap_mono hT d.ck h2.2.1
   have:=d.gap_bnd hT d.ck d.cs.1
   have:=d.gap_bnd hT d.ck d.cs.2
   simp only[if_true,a2N,if_false]
   omega
  ·omega
theorem sumR_bnd (f:Nat→Int) (v:Int) (a:Nat) (h:∀i,0≤f i∧f i≤v):∀m:Nat,0≤sumR f a m∧sumR f a m≤m*v
 |0=>by simp[sumR]
 |m+1=>by
  have ih:=sumR_bnd f v a h m
  have:=h (a+m)
  show 0≤sumR f a m+f (a+m)∧sumR f a m+f (a+m)≤_
  push_cast
  rw[Int.add_mul,Int.one_mul]
  omega
theorem dur_bnd {d:Dk} (hd:d.Ok) (n:Nat):0≤durS d.H.toNat d.S d.T n∧durS d.H.toNat d.S d.T n≤1000:=by
 have ht:=hd.t
 unfold durS
 refine⟨Int.ediv_nonneg (by omega) (by omega),?_⟩
 exact a3Z (Int.ediv_le_self _ (by omega)) (by omega)
theorem run_bnd {d:Dk} (hd:d.Ok) (fr ct:Nat) (hct:ct≤6000):0≤d.run false fr ct∧d.run false fr ct≤d.run true fr ct∧d.run true fr ct≤24000000:=by
 have h1:=sumR_bnd _ 1000 fr (dur_bnd hd) ct
 have h2:=sumR_bnd (fun i=>d.gapK false (kindS d.H.toNat d.S i)) 3000 (fr+1) (fun i=>by have:=gapK_le hd (kindS d.H.toNat d.S i);omega) (ct-1)
 have h3:=sumR_bnd (fun i=>d.gapK true (kindS d.H.toNat d.S i)) 3000 (fr+1) (fun i=>by have:=gapK_le hd (kindS d.H.toNat d.S i);omega) (ct-1)
 have h4:=sumR_le (f:=fun i=>d.gapK false (kindS d.H.toNat d.S i)) (g:=fun i=>d.gapK true (kindS d.H.toNat d.S i)) (a:=fr+1) (ct-1) (fun i=>(gapK_le hd _).2.1)
 unfold run
 have e:((ct-1:Nat):Int)≤6000:=by omega
 have e2:(ct:Int)≤6000:=by omega
 omega
end Dk
namespace Qu
theorem req_mem {q:Qu} {r:Nat} (h:r<q.rq.length):q.req r∈q.rq:=by
 unfold req
 rw[show q.rq.getD r Rq.none=q.rq[r] by simp[a0A,h]]
 exact a0N h
theorem cy_lt {q:Qu} {n:Int} (h:0≤n) (h2:n<q.d.cnt):q.cy n<q.d.S.length:=by
 have:n.toNat<q.d.H.toNat*q.d.S.sum:=by show n.toNat<q.d.cnt;omega
 exact(at_loc this).1
theorem sek_bnd {q:Qu} (hq:q.Ok) (a b:Nat):0≤(q.sek a b).1∧(q.sek a b).1≤(q.sek a b).2∧(q.sek a b).2≤5000:=by
 unfold sek
 by_cases h:max (a-b) (b-a)<q.sk.length
 ·rw[show q.sk.getD (max (a-b) (b-a)) (0,0)=q.sk[max (a-b) (b-a)] by simp[a0A,h]]
  exact hq.sk _ (a0N h)
 ·rw[show q.sk.getD (max (a-b) (b-a)) (0,0)=(0,0) by simp[a0A];rw[a0V (by omega)];simp]
  simp
theorem srv_mono {q:Qu} (hq:q.Ok) (r:Nat) {t t' s s' n n':Int} (h1:t≤t') (h2:s≤s') (h3:n≤n'):q.srv r t s n≤q.srv r t' s' n':=by
 have hT:0<q.d.T:=by have:=hq.d.t;omega
 have:=nextT_mono hT (q.d.ang (q.req r).fr.toNat) (show max t (q.req r).t0+s≤max t' (q.req r).t0+s' by omega)
 unfold srv
 omega
theorem srv_bnd {q:Qu} (hq:q.Ok) {r:Nat} (hr:r<q.rq.length) {t s n:Int} (ht:0≤t) (hs:0≤s) (hs2:s≤5000) (hn:0≤n) (hn2:n≤24000000):t≤q.srv r t s n∧q.srv r t s n≤t+30000000:=by
 have hT:=hq.d.t
 have:=nextT_bnd (show 0<q.d.T by omega) (q.d.ang (q.req r).fr.toNat) (max t (q.req r).t0+s)
 have hr:=hq.rq _ (req_mem hr)
 unfold RqOk at hr
 unfold srv
 omega
theorem rn_bnd {q:Qu} (hq:q.Ok) {r:Nat} (hr:r<q.rq.length):0≤q.rn false r∧q.rn false r≤q.rn true r∧q.rn true r≤24000000:=by
 have hr:=hq.rq _ (req_mem hr)
 have:=q.d.cnt_le hq.d
 unfold RqOk at hr
 exact Dk.run_bnd hq.d _ _ (by omega)
theorem rn_bndB {q:Qu} (hq:q.Ok) {r:Nat} (hr:r<q.rq.length) (hi:Bool):0≤q.rn hi r∧q.rn hi r≤24000000:=by
 have:=rn_bnd hq hr
 cases hi<;>omega
theorem pick_bnd {q:Qu} (hq:q.Ok) (hi:Bool) (a b:Nat):0≤pick hi (q.sek a b)∧pick hi (q.sek a b)≤5000:=by
 have:=sek_bnd hq a b
 unfold pick
 cases hi<;>simp<;>omega
theorem stQ_bnd {q:Qu} (hq:q.Ok) (hi:Bool) {o:List Nat} (ho:∀x∈o,x<q.rq.length):∀k,k≤o.length→(q.stQ hi o k).1<q.d.S.length∧0≤(q.stQ hi o k).2∧(q.stQ hi o k).2≤k*30000000
 |0,_=>by
  have:=hq.cyl
  unfold stQ
  refine⟨by dsimp only;omega,by simp,by simp⟩
 |k+1,hk=>by
  have ih:=stQ_bnd hq hi ho k (by omega)
  have hr:o.getD k 0<q.rq.length:=by rw[a1a (by omega)];exact ho _ (a0N _)
  have hok:=hq.rq _ (req_mem hr)
  have hrn:=rn_bndB hq hr hi
  unfold RqOk at hok
  unfold stQ
  have hp:=pick_bnd hq hi (q.stQ hi o k).1 (q.cy (q.req (o.getD k 0)).fr)
  have:=srv_bnd hq hr ih.2.1 hp.1 hp.2 hrn.1 hrn.2
  refine⟨cy_lt (by omega) (by omega),by dsimp only;omega,?_⟩
  dsimp only
  push_cast
  rw[Int.add_mul]
  omega
theorem stQ_le {q:Qu} (hq:q.Ok) {o:List Nat} (ho:∀x∈o,x<q.rq.length):∀k,k≤o.length→(q.stQ false o k).2≤(q.stQ true o k).2
 |0,_=>a1Q _
 |k+1,hk=>by
  have ih:=stQ_le hq ho k (by omega)
  have hr:o.getD k 0<q.rq.length:=by rw[a1a (by omega)];exact ho _ (a0N _)
  unfold stQ
  rw[stQ_cyl]
  refine srv_mono hq _ ih ?_ (rn_bnd hq hr).2.1
  exact(sek_bnd hq _ _).2.1
end Qu
end Go.Proofs
namespace Go.Proofs
open Go Go.Sx
set_option maxRecDepth 100000
set_option maxHeartbeats 4000000
structure Sv where
 x:Ca.Cache
 d:Dk
 sk:List (Int×Int)
 cyl:Int
 sec:List Int
namespace Sv
def rqW (s:Sv) (w:Ca.Wt):Rq:=⟨s.sec.getD w.2.1 0,1,0,-1,false⟩
def qu (s:Sv) (V:List Ca.Wt):Qu:=⟨s.d,s.cyl,0,s.sk,V.map s.rqW⟩
def n (s:Sv):Nat:=s.x.n.toNat
def st (s:Sv):Ca.RS:=Ca.RS.run s.n s.x.l s.x.l.length
def W (s:Sv):List Ca.Wt:=s.st.ents s.n
structure SOk (s:Sv):Prop where
 len:s.sec.length=s.n
 rng:∀i,i<s.sec.length→0≤s.sec.getD i 0∧s.sec.getD i 0≤(s.d.cnt:Int)-1
 nd:∀i,i<s.sec.length→∀k,k<i→s.sec.getD k 0≠s.sec.getD i 0
 q:(s.qu []).Ok
structure Ok (s:Sv):Prop where
 d:s.d.Ok
 x:s.x.Ok
 so:s.SOk
 few:s.W.length≤6
theorem qu_ok {s:Sv} (h:s.SOk) {V:List Ca.Wt} (hV:V.length≤6) (hb:∀w∈V,w.2.1<s.n):(s.qu V).Ok:=by
 have hq:=h.q
 refine⟨hq.d,hq.cyl,hq.skl,?_,hq.pas,hq.sk,fun r hr=>?_,fun i hi=>?_⟩
 ·show(V.map s.rqW).length≤6
  rw[a1L];exact hV
 ·obtain⟨w,hw,rfl⟩:=a2V.1 hr
  have hw2:=hb w hw
  rw[←h.len] at hw2
  have:=h.rng w.2.1 hw2
  unfold Qu.RqOk rqW
  dsimp only
  refine⟨this,⟨a1Q _,?_⟩,⟨a1Q _,by omega⟩,a1Q _,by omega⟩
  show(1:Int)≤s.d.cnt-s.sec.getD w.2.1 0
  omega
 ·have hi:i+1<(V.map s.rqW).length:=hi
  rw[a1L] at hi
  have e:∀j,j<V.length→((V.map s.rqW).getD j Rq.none).t0=0:=fun j hj=>by
   rw[a0A,a1O,a0C hj]
   rfl
  show((V.map s.rqW).getD i Rq.none).t0≤((V.map s.rqW).getD (i+1) Rq.none).t0
  rw[e i (by omega),e (i+1) hi]
  exact a1Q _
theorem W_blk {s:Sv} {w:Ca.Wt} (h:w∈s.W):w.2.1<s.n:=(Ca.RS.mem_ents.1 h).2.1
def pick (V:List Ca.Wt) (o:List Nat):List Ca.Wt:=o.map fun i=>V.getD i (0,0,0)
theorem pick_req {s:Sv} {V:List Ca.Wt} {o:List Nat} (ho:∀x∈o,x<V.length) {k:Nat} (hk:k<o.length):(s.qu (pick V o)).req k=(s.qu V).req (o.getD k 0):=by
 have hlt:o.getD k 0<V.length:=by rw[a1a hk];exact ho _ (a0N hk)
 unfold Qu.req qu pick
 dsimp only
 rw[List.map_map,a0A,a1O,a0C hk,a0A,a1O,a0C hlt]
 simp only[a3U,a2S,Function.comp]
 have e1:V.getD o[k] (0,0,0)=V.getD (o.getD k 0) (0,0,0):=by rw[a1a hk]
 have e2:V.getD (o.getD k 0) (0,0,0)=V[o.getD k 0]:=by rw[a0A (l:=V),a0C hlt];rfl
 rw[e1,e2]
theorem stQ_pick {s:Sv} (hi:Bool) {V:List Ca.Wt} {o:List Nat} (ho:∀x∈o,x<V.length):∀k,k≤o.length→(s.qu (pick V o)).stQ hi (List.range o.length) k=(s.qu V).stQ hi o k
 |0,_=>rfl
 |k+1,hk=>by
  have ih:=stQ_pick (s:=s) hi ho k (by omega)
  have hr:=pick_req (s:=s) ho (show k<o.length by omega)
  have hrg:(List.range o.length).getD k 0=k:=by
   rw[a0A,a0C (by rw[a3Q];omega)]
   simp
  unfold Qu.stQ Qu.srv Qu.rn
  rw[hrg,ih,hr]
  rfl
def endW (s:Sv) (hi:Bool) (o:List Nat) (k:Nat):Int:=((s.qu s.W).stQ hi o (k+1)).2
theorem quW_ok {s:Sv} (h:s.Ok):(s.qu s.W).Ok:=qu_ok h.so h.few fun _ hw=>W_blk hw
theorem qu_len (s:Sv) (V:List Ca.Wt):(s.qu V).rq.length=V.length:=by
 show(V.map s.rqW).length=_
 rw[a1L]
theorem crs_lt {s:Sv} {o:List Nat} (h:Ca.IsCrs s.W o):∀x∈o,x<(s.qu s.W).rq.length:=fun x hx=>by
 rw[qu_len]
 exact h.lt x hx
theorem endW_le {s:Sv} (h:s.Ok) {o:List Nat} (ho:Ca.IsCrs s.W o) {k:Nat} (hk:k<s.W.length):s.endW false o k≤s.endW true o k:=
 Qu.stQ_le (quW_ok h) (crs_lt ho) (k+1) (by rw[ho.len];omega)
/-! ### how many are on the medium -/
def cntK (f:Nat→Int) (t:Int):Nat→Nat
 |0=>0
 |k+1=>if f k≤t then cntK f t k+1 else cntK f t k
theorem cntK_le (f:Nat→Int) (t:Int):∀k,cntK f t k≤k
 |0=>a0K _
 |k+1=>by have:=cntK_le f t k;unfold cntK;split<;>omega
theorem cntK_full {f:Nat→Int} {t:Int}:∀{k:Nat},(∀i,i<k→f i≤t)→cntK f t k=k
 |0,_=>rfl
 |k+1,h=>by unfold cntK;rw[if_pos (h k (by omega)),cntK_full fun i hi=>h i (by omega)]
theorem cntK_fun {f g:Nat→Int} {t:Int}:∀{k:Nat},(∀i,i<k→f i≤g i)→cntK g t k≤cntK f t k
 |0,_=>a0K _
 |k+1,h=>by
  have:=cntK_fun (f:=f) (g:=g) (t:=t) (k:=k) fun i hi=>h i (by omega)
  have hk:=h k (by omega)
  unfold cntK
  split
  ·rw[if_pos (by omega)];omega
  ·split<;>omega
/-! ### the best course,and the one that saves the most -/
def lastE (s:Sv) (o:List Nat):Int:=if s.W.length=0 then 0 else s.endW true o (s.W.length-1)
def stepE (s:Sv) (b:List Nat×Int) (o:List Nat):List Nat×Int:=if s.lastE o<b.2 then(o,s.lastE o) else b
def foldE (s:Sv) (b:List Nat×Int) (C:List (List Nat)):List Nat×Int:=C.foldl s.stepE b
noncomputable def c0 (s:Sv):List Nat:=(Ca.allCrs s.W).headD []
noncomputable def best (s:Sv):List Nat×Int:=s.foldE (s.c0,s.lastE s.c0) (Ca.allCrs s.W)
def sav (s:Sv) (t:Int) (o:List Nat):Nat:=cntK (s.endW true o) t s.W.length
def stepV (s:Sv) (t:Int) (b:List Nat×Int) (o:List Nat):List Nat×Int:=if b.2<s.sav t o then(o,s.sav t o) else b
def foldV (s:Sv) (t:Int) (b:List Nat×Int) (C:List (List Nat)):List Nat×Int:=C.foldl (s.stepV t) b
noncomputable def most (s:Sv) (t:Int):List Nat×Int:=s.foldV t (s.c0,s.sav t s.c0) (Ca.allCrs s.W)
end Sv
end Go.Proofs
