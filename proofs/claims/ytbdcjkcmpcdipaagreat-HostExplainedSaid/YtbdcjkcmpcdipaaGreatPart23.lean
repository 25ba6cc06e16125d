/- Own work: texts of the proof of a law (GwH, GwI0). No condition. -/
import Derived.Test.YtbdcjkcmpcdipaaGreatPart22
set_option linter.unusedVariables false
set_option linter.unusedSimpArgs false
namespace Go.Proofs
open Go Go.Sx
set_option maxRecDepth 100000
set_option maxHeartbeats 40000000
namespace Ho
noncomputable def srC (h:Hist) (r:SR):List V:=[.iptr (r.c h)]
structure Known (h:Hist) (r:SR):Prop where
 good:r.Good h
 g:h.Ok
 n:h.n≤2
 l:h.l.length≤6
namespace Known
variable {h:Hist} {r:SR}
theorem inv (k:Known h r):Inv h (r.st h):=Hist.Rea.inv k.g (k.good.rea k.g)
theorem ord (k:Known h r):OrdOk h (r.st h).O:=by
 have hi:=k.inv
 refine⟨k.g,k.n,k.l,fun i hi'=>by obtain⟨a,_,b,c⟩:=hi.O i hi';exact⟨a,b,c⟩,?_⟩
 have:=a1O hi.nd (l₂:=List.range h.l.length) (fun i hi'=>a1D.2 (hi.O i hi').1)
 rw[List.length_range] at this
 have:=k.l
 omega
theorem D (k:Known h r):(r.st h).D<64:=by
 have h1:=k.inv.D
 have:2 ^ h.l.length≤2 ^ 6:=a3L (by omega) k.l
 omega
end Known
def fallS (h:Hist) (r:SR) (n:Nat) (c:C6):SR:=.node (h.fall (r.st h) n (C6.first c h.nn)) r n (some c)
def kVs (K:List Int):List V:=[.int .i64 (K.getD 0 0),.int .i64 (K.getD 1 0),.int .i64 (K.getD 2 0),.int .i64 (K.getD 3 0),.int .i64 (K.getD 4 0),.int .i64 (K.getD 5 0)]
theorem kpV_keep {h:Hist} {K:List Int} (hK:K.length=h.nn) (c:C6):kpV h K c h.nn=kVs (h.keep K (C6.first c h.nn)):=by
 have key:∀b,b<6→kpI h K c h.nn b=(h.keep K (C6.first c h.nn)).getD b 0:=fun b hb=>by
  unfold kpI
  by_cases q:b<h.nn
  ·rw[if_pos q,Hist.keep_at q]
   congr 1
   simp[C6.first,a0A,q]
  ·rw[if_neg q,a0A,a0P (by omega),a0A,a0P (by rw[Hist.keep_len];omega)]
 unfold kpV kVs
 rw[key 0 (by omega),key 1 (by omega),key 2 (by omega),key 3 (by omega),key 4 (by omega),key 5 (by omega)]
theorem kept37k (h:Hist) (r:SR) (k:Known h r) (c:C6) (hc:PosN h (r.st h).O c):a0q Tryz.prog 61 false [.iptr (r.cw h),h.w,.sl 1 h.nn (fun b=>[.int .i64 (c.get b)])] (·=.agg (kVs (h.keep (r.st h).K (C6.first c h.nn)))):=by
 have hnn:=k.g.nn
 rw[←kpV_keep k.inv.len]
 refine kept37 h k.g k.n (r.st h).D (slO (r.st h).O) (r.st h).K (r.bf h) (.int .i64 r.cm) (imV h r.im) c fun b hb=>?_
 have hi:=Hist.Img.at k.g k.inv ((img_iff (k.g.cache k.inv) _).2 ⟨c,hc,rfl⟩) hb
 rw[show(C6.first c h.nn).getD b 0=c.get b by simp[C6.first,a0A,hb]] at hi
 rcases hi with e|e|⟨i,e,hi,_⟩
 ·exact .inl e
 ·exact .inr (.inl e)
 ·exact .inr (.inr ⟨i,e,(k.inv.O i hi).1⟩)
theorem step_no {h:Hist} {s:St} {n:Nat} (hs:¬h.May s.D n∨((h.at' n).k=10∧¬((h.at' n).t≠-1∧h.res s (h.at' n).b.toNat=(h.at' n).v))):∀t,¬StepI h s n t:=by
 rintro t ⟨h1,h2⟩
 rcases hs with q|⟨q1,q2⟩
 ·exact q h1
 ·rcases h2 with⟨_,hf,_⟩|⟨h9,_⟩
  ·exact q2 (hf q1)
  ·omega
theorem step_do {h:Hist} {r:SR} (hr:r.Good h) {n:Nat} (hn:n<h.l.length) (hm:h.May (r.st h).D n) (h9:(h.at' n).k≠9) (hf:h.Fit (r.st h) n) {_k:Nat} {L:List SR} (hL:NextL h r n L):NextL h r (n+1) (L++[SR.node (h.doO (r.st h) n) r n none]):=by
 refine hL.more (fun x hx=>?_) (fun t ht=>?_) (by simp)
 ·rw[a0L.1 hx]
  exact⟨hr,hn,hm,.inl ⟨h9,rfl,hf,rfl⟩⟩
 ·refine⟨_,a0L.2 rfl,?_⟩
  rcases ht.2 with⟨_,_,e⟩|⟨e,_⟩
  ·exact e.symm
  ·exact absurd e h9
theorem step_fall {h:Hist} {r:SR} (kn:Known h r) {n:Nat} (hn:n<h.l.length) (hm:h.May (r.st h).D n) (h9:(h.at' n).k=9) {L:List SR} (hL:NextL h r n L) {I:List C6} (hI:ImL h (r.st h).O I):NextL h r (n+1) (L++I.map (fallS h r n)):=by
 refine hL.more (fun x hx=>?_) (fun t ht=>?_) (by rw[a2M];have:=hI.len;omega)
 ·obtain⟨c,hc,rfl⟩:=a1C.1 hx
  exact⟨kn.good,hn,hm,.inr ⟨h9,c,rfl,(hI.mem c).1 hc,rfl⟩⟩
 ·rcases ht.2 with⟨e,_⟩|⟨_,im,him,rfl⟩
  ·exact absurd h9 e
  ·obtain⟨c,hc,rfl⟩:=(img_iff (kn.g.cache kn.inv) _).1 him
   exact⟨_,a1C.2 ⟨c,(hI.mem c).2 hc,rfl⟩,rfl⟩
theorem next42 (hs:SortIm) (h:Hist) (r:SR) (k:Known h r):a0q Tryz.prog 71 true [.iptr (r.cw h),h.w] (fun v=>∃L,NextL h r h.l.length L∧v=.sl 1 L.length (a0u (srC h) .root L)):=by
 have hg:=k.g
 have hn2:=k.n
 have hl6:=k.l
 have hD:=k.D
 have ho:=k.ord
 have hO:∀i∈(r.st h).O,i<h.l.length:=fun i hi=>(ho.hO i hi).1
 have hO10:(r.st h).O.length≤10:=by have:=ho.len;omega
 refine a0c Tryz.E_ok Tryz.func71 rfl (by kernel_rfl) ?_
 refine x18 ?_
 refine⟨Nat×List SR,fun q=>q.1≤h.l.length∧NextL h r q.1 q.2,fun q=>h.l.length-q.1,fun q=>[(13,.int .i64 (q.1:Nat)),(5,.osl 1 q.2.length)],fun _=>[],fun q=>[.row 85 1 q.2.length (a0u (srC h) .root q.2) true],(0,[]),⟨⟨by dsimp only;omega,NextL.nil h r⟩,some [some 0,none],?_⟩,?_⟩
 ·exact xc21
 ·rintro⟨n,L⟩ ⟨hn,hL⟩
  dsimp only at hn hL
  have hn0:((n:Nat):Int).toNat=n:=by omega
  (repeat' ((conv=>whnf);first|(with_reducible first|apply spl|apply spl'|refine iJ ?_)<;>intro hc<;>try(exfalso;omega)|refine vcq ?_|refine dr 18 ?_|refine dr 8 ?_));all_goals(try conv=>whnf);try exact trivial
  ·have hnl:n<h.l.length:=by dsimp only at hc;omega
   have e0:h.l.getD ((n:Nat):Int).toNat c0=h.at' n:=by rw[hn0];rfl
   have hck:=hg.cmd n hnl
   have hlen:=hL.len
   have hlen2:L.length≤6000000:=by
    have:600001*n≤600001*6:=a3E _ (by omega)
    omega
   have hb:(h.at' n).b=((h.at' n).b.toNat:Nat)∧(h.at' n).b.toNat<6:=by
    generalize h.at' n=c at *
    unfold Cmd.Ok at hck
    omega
   have hr:=result34_ne h hg (r.st h).D (r.st h).O (r.st h).K (r.bf h) (.int .i64 r.cm) (imV h r.im) (h.at' n).b.toNat hb.2 hO hO10
   rw[←hb.1] at hr
   have hno:=step_no (h:=h) (s:=r.st h) (n:=n)
   have hres:h.res (r.st h) (h.at' n).b.toNat=h.resO (h.at' n).b ((r.st h).K.getD (h.at' n).b.toNat 0) (r.st h).O:=by unfold Hist.res;rw[←hb.1]
   rw[hres] at hno
   have hdo:=step_do k.good hnl (_k:=n) (L:=L)
   have hfa:=step_fall k hnl (L:=L)
   unfold Hist.Fit at hdo
   rw[hres] at hdo
   clear hres hb hD
   refine a0d (may58 h hg hl6 (r.st h).D (slO (r.st h).O) (r.st h).K (r.bf h) (.int .i64 r.cm) (imV h r.im) n k.D hnl) rfl ?_
   rintro _ rfl
   by_cases hm:h.May (r.st h).D n
   ·(repeat' ((conv=>whnf);first|(with_reducible first|apply spl|apply spl'|refine iJ ?_)<;>intro hc<;>try(exfalso;omega)|refine vcq ?_|refine dr 18 ?_|refine dr 8 ?_));all_goals(try conv=>whnf);try exact trivial
    all_goals try contradiction
    rw[e0]
    have hdo9:=do59 h r hg ho.len n k.D hnl (by omega)
    generalize h.at' n=c at *
    refine x18 ?_;(repeat' ((first|(refine a0d (a1n c) rfl ?_;rintro _ rfl)|(refine a0f (a1n c) rfl ?_)|(refine a0l (fun _=>a1n c) rfl ?_)|(refine a0d (hr) rfl ?_;rintro _ rfl)|(refine a0f (hr) rfl ?_)|(refine a0l (fun _=>hr) rfl ?_));(repeat' ((conv=>whnf);first|(with_reducible first|apply spl|apply spl'|refine iJ ?_)<;>intro hc<;>try(exfalso;omega)|refine vcq ?_|refine dr 18 ?_|refine dr 8 ?_));all_goals((try conv=>whnf);try exact trivial)))
    ·have hn1:=hL.skip (hno (.inr ⟨hc.1,by unfold Cmd.Ok at hck;omega⟩))
     clear hno hdo hfa
     refine⟨(n+1,L),⟨⟨hnl,hn1⟩,by dsimp only;omega⟩,some [some 0,some 1],?_⟩
     exact xc21
    ·have hn1:=fun(I:List C6) (hI:ImL h (r.st h).O I)=>hfa hm hc hL hI
     clear hno hdo hfa hr hdo9
     have hnn:=hg.nn
     have h1:bitsI .or .i64 ((r.st h).D:Int) (1*2 ^ ((n:Nat):Int).toNat)=((r.st h).D ||| 1 <<< n:Nat):=by rw[hn0];exact bit_orN k.D (by omega)
     have h2:(0:Int)≤(n:Nat)∧((n:Nat):Int).toNat≤IntKind.i64.bits∧inR .i64 (1*2 ^ ((n:Nat):Int).toNat):=by
      rw[hn0]
      rcases six (show n<6 by omega) with rfl|rfl|rfl|rfl|rfl|rfl<;>(refine⟨by omega,by decide,?_⟩;unfold inR;decide)
     refine a0f (images36 hs h (r.st h).O ho) rfl ?_
     have hI:=imL ho
     generalize imgL h (r.st h).O=I at hI ⊢
     have hIl:=hI.len
     have hn2:=hn1 I hI
     clear hn1
     refine x18 ?_
     refine⟨Nat×List SR,fun q=>q.1≤I.length∧q.2=L++(I.take q.1).map (fallS h r n),fun q=>I.length-q.1,fun q=>[(59,.int .i64 (q.1:Nat)),(5,.osl 1 q.2.length)],fun q=>[(1,.row 85 1 q.2.length (a0u (srC h) .root q.2) true)],fun _=>[],(0,L),⟨⟨a2A _,by simp⟩,some [some 0,some 1,some 2],?_⟩,?_⟩
     ·exact xc21
     ·rintro⟨j,M⟩ ⟨hj,hM⟩
      dsimp only at hj hM
      have hj0:((j:Nat):Int).toNat=j:=by omega
      have hMl:M.length≤6600000:=by rw[hM,a0F,a2M,a0V];omega
      (repeat' ((conv=>whnf);first|(with_reducible first|apply spl|apply spl'|refine iJ ?_)<;>intro hc<;>try(exfalso;omega)|refine vcq ?_|refine dr 2017 ?_));all_goals(try conv=>whnf);try exact trivial
      ·have hjl:j<I.length:=by dsimp only at *;omega
       have ej:I.getD ((j:Nat):Int).toNat (C6.all 0)=I[j]:=by rw[hj0];simp[a0A,hjl]
       have hpos:PosN h (r.st h).O (I.getD ((j:Nat):Int).toNat (C6.all 0)):=by rw[ej];exact(hI.mem _).1 (a1F hjl)
       have hsn:M++[fallS h r n (I.getD ((j:Nat):Int).toNat (C6.all 0))]=L++(I.take (j+1)).map (fallS h r n):=by
        rw[ej,a1H hjl,a1L,←a2D,hM]
        rfl
       dsimp only
       generalize I.getD ((j:Nat):Int).toNat (C6.all 0)=ci at *
       refine a0f (kept37k h r k ci hpos) rfl ?_
       refine x18 ?_
       rw[h1]
       refine⟨(j+1,M++[fallS h r n ci]),⟨⟨hjl,hsn⟩,by dsimp only;omega⟩,some [some 0,some 5,some 2],?_⟩
       refine x18 ?_
       refine⟨by dsimp only;rw[List.length_append,List.length_singleton],?_⟩
       refine x18 ?_
       refine⟨by dsimp only;rw[List.length_append,List.length_singleton],a2d (c:=srC h) (a:=fallS h r n ci) (l:=M) rfl (fun _ _=>rfl),?_⟩
       exact xc21
      ·obtain rfl:j=I.length:=by dsimp only at *;omega
       rw[a3B] at hM
       refine⟨(n+1,M),⟨⟨hnl,by rw[hM];exact hn2⟩,by dsimp only;omega⟩,some [some 0,some 1],?_⟩
       exact xc21
    ·have hn1:=hdo hm hc (fun q=>by unfold Cmd.Ok at hck;omega) hL
     clear hno hdo hfa hr
     refine a0d hdo9 rfl ?_
     rintro _ rfl
     refine x18 ?_
     refine⟨(n+1,L++[SR.node (h.doO (r.st h) n) r n none]),⟨⟨hnl,hn1⟩,by dsimp only;omega⟩,some [some 0,some 4],?_⟩
     refine x18 ?_
     refine⟨by dsimp only;rw[List.length_append,List.length_singleton],?_⟩
     refine x18 ?_
     refine⟨by dsimp only;rw[List.length_append,List.length_singleton],a2d (c:=srC h) (a:=SR.node (h.doO (r.st h) n) r n none) (l:=L) rfl (fun _ _=>rfl),?_⟩
     exact xc21
   ·have hn1:=hL.skip (hno (.inl hm))
    clear hno hdo hfa
    (repeat' ((conv=>whnf);first|(with_reducible first|apply spl|apply spl'|refine iJ ?_)<;>intro hc<;>try(exfalso;omega)|refine vcq ?_|refine dr 18 ?_|refine dr 8 ?_));all_goals(try conv=>whnf);try exact trivial
    all_goals try contradiction
    refine⟨(n+1,L),⟨⟨hnl,hn1⟩,by dsimp only;omega⟩,some [some 0,some 1],?_⟩
    exact xc21
  ·obtain rfl:n=h.l.length:=by dsimp only at hc;omega
   refine x18 ?_
   refine⟨_,⟨L,hL,rfl⟩,?_⟩
   exact xc21
end Ho
end Go.Proofs
namespace Go.Proofs
open Go Go.Sx
set_option maxRecDepth 100000
set_option maxHeartbeats 40000000
namespace Ho
def K18:List IntKind:=List.replicate 18 .i64
theorem root_c (h:Hist):SR.c h .root=[.int .i64 0,.lit (.slice none 0 0),.int .i64 0,.int .i64 0,.int .i64 0,.int .i64 0,.int .i64 0,.int .i64 0,.lit (.pointer none),.int .i64 0,.lit (.slice none 0 0)]:=by
  have hk:∀b,(List.replicate h.nn (0:Int)).getD b 0=0:=fun b=>by
    rw[a0A,List.getElem?_replicate]
    split<;>rfl
  unfold SR.c SR.st Hist.st0 stX
  simp only[hk]
  rfl
structure ES where
  q:List SR
  L:List SR
  off:Nat
  G:Nat→SR
  tot:Nat
  dom:List Int→Prop
  c:List Int→Int
  n:Nat
  g:MG
structure ES.Ok (h:Hist) (s:ES):Prop where
  inv:SInv h (s.L++s.q) s.L.length
  G:∀j,j<s.q.length→s.G (s.off+j)=s.q.getD j .root
  dom:∀k,s.dom k↔k∈(s.L++s.q).map fun r=>stK (r.st h)
  c:∀k,s.dom k→1≤s.c k∧s.c k≤s.tot
  tot:s.tot≤1+4000000*s.L.length
  off:s.off≤s.L.length
structure ET where
  q:List SR
  off:Nat
  G:Nat→SR
  j:Nat
  tot:Nat
  dom:List Int→Prop
  c:List Int→Int
  n:Nat
  g:MG
structure ET.Ok (h:Hist) (L:List SR) (u:SR) (N:List SR) (s:ET):Prop where
  inn:SInn h (L++u :: s.q) L.length N s.j
  G:∀j,j<s.q.length→s.G (s.off+j)=s.q.getD j .root
  dom:∀k,s.dom k↔k∈(L++u :: s.q).map fun r=>stK (r.st h)
  c:∀k,s.dom k→1≤s.c k∧s.c k≤s.tot
  tot:s.tot≤1+4000000*L.length+s.j
  off:s.off≤L.length+1
theorem cnt_one {dom:List Int→Prop} {c:List Int→Int} {k:List Int} (h:∀k,dom k→1≤c k) :
    (@ite _ (a0p dom k k) (Classical.propDecidable _) (@ite _ (k=k) (Classical.propDecidable _) (cntV dom c k+1) (cntV dom c k)) 0=1)↔¬dom k:=by
  rw[if_pos (show a0p dom k k from .inl rfl),if_pos rfl]
  unfold cntV
  split
  · rename_i hk
    have:=h k hk
    exact⟨fun _=>by omega,fun e=>absurd hk e⟩
  · rename_i hk
    exact⟨fun _=>hk,fun _=>rfl⟩
noncomputable def ends23A (_hs:SortIm) (h:Hist) (g:h.Ok) (hn:h.n≤2) (hl:h.l.length≤6) :
    (G1:Nat→(Nat→Int)→List SR→List SR→Nat→(Nat→SR)→Nat→(List Int→Prop)→(List Int→Int)→Nat→MG→MG→Prop)×' {G2:Nat→(Nat→Int)→List SR→List SR→Nat→(Nat→SR)→Nat→(List Int→Prop)→(List Int→Int)→Nat→MG→MG→Prop // (∀(A:Nat) (f0:Nat→Int) (q L:List SR) (off:Nat) (G:Nat→SR) (tot:Nat) (dom:List Int→Prop) (c:List Int→Int) (n:Nat) (g1 g2:MG),A<64→(∀s:St,h.Whole s↔s.D &&& A=A)→SInv h (L++q) L.length→(∀j,j<q.length→G (off+j)=q.getD j .root)→(∀k,dom k↔k∈(L++q).map fun r=>stK (r.st h))→(∀k,dom k→1≤c k∧c k≤tot)→tot≤1+4000000*L.length→off≤L.length→0<q.length→bitsI .and .i64 ((G (off+Int.toNat 0)).st h).D A=(A:Int)→G1 A f0 q L off G tot dom c n g1 g2)→(∀(A:Nat) (f0:Nat→Int) (q L:List SR) (off:Nat) (G:Nat→SR) (tot:Nat) (dom:List Int→Prop) (c:List Int→Int) (n:Nat) (g1 g2:MG),A<64→(∀s:St,h.Whole s↔s.D &&& A=A)→SInv h (L++q) L.length→(∀j,j<q.length→G (off+j)=q.getD j .root)→(∀k,dom k↔k∈(L++q).map fun r=>stK (r.st h))→(∀k,dom k→1≤c k∧c k≤tot)→tot≤1+4000000*L.length→off≤L.length→0<q.length→¬bitsI .and .i64 ((G (off+Int.toNat 0)).st h).D A=(A:Int)→G2 A f0 q L off G tot dom c n g1 g2)→
      a0q Tryz.prog 44 true [h.w] (fun v=>∃L,EndL h L∧v=.sl 1 L.length (a0u (srC h) .root L))}:=by
  constructor
  case snd=>
   constructor
   case property=>
    intro hG1 hG2
    have hroot:Known h .root:=⟨trivial,g,hn,hl⟩
    have hk0:=a0q.weak (key41 h .root (by simp[SR.st,Hist.st0])) (fun _ _ _ hd=>SR.weak (s:=.root) trivial hd)
    rw[root_c] at hk0
    have hrc:=root_c h
    refine a0c Tryz.E_ok Tryz.func44 rfl (by kernel_rfl) ?_
    refine x1 ?_
    refine⟨Nat,fun i=>i≤h.l.length,fun i=>h.l.length-i,fun i=>[(15,.int .i64 (i:Nat)),(3,.int .i64 (allN h i:Nat))],fun _=>[],fun _=>[],0,⟨by omega,some [some 0],?_⟩,?_⟩
    · exact xc3
    · intro i hi
      have hi0:((i:Nat):Int).toNat=i:=by omega
      refine x7 (fun hc=>?_) (fun hc=>?_)
      · have hil:i<h.l.length:=by omega
        have hA:=allN_lt h hl i hi
        have h1:bitsI .or .i64 (allN h i:Int) (1*2 ^ ((i:Nat):Int).toNat)=(allN h i ||| 1 <<< i:Nat):=by rw[hi0];exact bit_orN hA (by omega)
        have hcm:=g.cmd i hil
        have e0:h.l.getD ((i:Nat):Int).toNat c0=h.at' i:=by rw[hi0];rfl
        have hs1:(h.at' i).t=-1→allN h (i+1)=allN h i:=fun e=>if_pos e
        have hs2:(h.at' i).t≠-1→allN h (i+1)=allN h i ||| 1 <<< i:=fun e=>if_neg e
        have h2:(0:Int)≤(i:Nat)∧((i:Nat):Int).toNat≤IntKind.i64.bits∧inR .i64 (1*2 ^ ((i:Nat):Int).toNat):=by
          rw[hi0]
          rcases six (show i<6 by omega) with rfl|rfl|rfl|rfl|rfl|rfl<;>(refine⟨by omega,by decide,?_⟩;unfold inR;decide)
        refine x1 ?_;(repeat' ((first|(refine a0d (a1n (h.at' i)) rfl ?_;rintro _ rfl)|(refine a0f (a1n (h.at' i)) rfl ?_)|(refine a0l (fun _=>a1n (h.at' i)) rfl ?_));refine x7 (fun hc=>?_) (fun hc=>?_)))
        · have ht:(h.at' i).t≠-1:=by omega
          rw[h1,←hs2 ht]
          refine⟨i+1,⟨hil,by dsimp only;omega⟩,some [some 0],?_⟩
          exact xc3
        · have ht:(h.at' i).t=-1:=by unfold Cmd.Ok at hcm;omega
          rw[←hs1 ht]
          refine⟨i+1,⟨hil,by dsimp only;omega⟩,some [some 0],?_⟩
          exact xc3
      · obtain rfl:i=h.l.length:=by omega
        have hA:=allN_lt h hl h.l.length (a0U _)
        clear hi hi0
        have hW:=fun s:St=>whole_iff (h:=h) (s:=s)
        generalize allN h h.l.length=A at *
        refine x1 ?_
        intro g0
        refine x1 ?_
        refine a0d hk0 rfl ?_
        rintro _ rfl
        have hst0:kF (stF (SR.st h .root))=stK h.st0:=rfl
        generalize stF (SR.st h .root)=f0 at *
        refine x1 ?_
        intro g1
        refine x1 ?_
        have hSI:=SInv.one h
        refine⟨ES,ES.Ok h,fun s=>481890304-s.L.length,fun s=>[(6,.x (.swin 2 s.off 1 s.q.length)),(8,.osl 4 (outL h s.L).length),(30,.any),(32,.any),(33,.any)],
          fun s=>[(2,.row 85 1 (s.off+s.q.length) (fun i=>[.iptr ((s.G i).c h)]) true),(3,.map K18 true false s.dom (fun k=>[.int .i64 (s.c k)]) s.n s.g)],fun s=>[.row 85 1 (outL h s.L).length (a0u (srC h) .root (outL h s.L)) true],
          ⟨[.root],[],0,fun _=>.root,1,(fun k=>k=kF f0),(fun _=>1),nPut (fun _=>False) 0 (kF f0),g1⟩,⟨⟨hSI,fun j hj=>?_,fun k=>?_,fun k _=>?_,?_,?_⟩,some [some 0,some 1,some 2,some 3,none],?_⟩,?_⟩
        · obtain rfl:j=0:=by simpa using hj
          rfl
        · rw[hst0]
          simp[SR.st]
        · dsimp only;omega
        · dsimp only;omega
        · dsimp only;omega
        · refine x1 ?_
          refine⟨fun i _=>by dsimp only;rw[hrc],?_⟩
          refine x1 ?_
          refine⟨a0a (fun k _=>?_),?_⟩
          · dsimp only
            exact put_one (kF f0) k
          exact xc3
        · rintro⟨q,L,off,G,tot,dom,c,n,g2⟩ ⟨i1,i2,i3,i4,i5,i6⟩
          dsimp only at i1 i2 i3 i4 i5 i6
          have hcap:=SInv.cap g hn hl i1.good i1.nd
          rw[a0F] at hcap
          unfold CAP at hcap
          have hout:=outL_len (h:=h) L
          refine x24 (fun hc hc=>?_) (fun hc hc=>?_) (fun hc=>?_)
          · rename_i hq0
            exact hG1 A f0 q L off G tot dom c n g1 g2 hA hW i1 i2 i3 i4 i5 i6 (by dsimp only at hq0;omega) hc
          · rename_i hq0
            exact hG2 A f0 q L off G tot dom c n g1 g2 hA hW i1 i2 i3 i4 i5 i6 (by dsimp only at hq0;omega) hc
          · dsimp only at hc
            obtain rfl:q=[]:=by
              cases q with
              |nil=>rfl
              |cons u q=>exact absurd (by simp) hc
            rw[List.append_nil] at i1
            refine⟨_,⟨outL h L,i1.out g hn hl,rfl⟩,?_⟩
            exact xc3
end Ho
end Go.Proofs
