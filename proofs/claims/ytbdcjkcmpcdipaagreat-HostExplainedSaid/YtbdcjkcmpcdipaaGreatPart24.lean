/- Own work: texts of the proof of a law (GwIy, GwIn, GwI1). No condition. -/
import Derived.Test.YtbdcjkcmpcdipaaGreatPart23
set_option linter.unusedVariables false
set_option linter.unusedSimpArgs false
namespace Go.Proofs
open Go Go.Sx
set_option maxRecDepth 100000
set_option maxHeartbeats 40000000
namespace Ho
theorem ends23y (hs:SortIm) (h:Hist) (g:h.Ok) (hn:h.n≤2) (hl:h.l.length≤6) (A:Nat) (f0:Nat→Int) (q L:List SR) (off:Nat) (G:Nat→SR) (tot:Nat) (dom:List Int→Prop) (c:List Int→Int) (n:Nat) (g1 g2:MG) (hA:A<64) (hW:∀s:St,h.Whole s↔s.D &&& A=A) (i1:SInv h (L++q) L.length) (i2:∀j,j<q.length→G (off+j)=q.getD j .root) (i3:∀k,dom k↔k∈(L++q).map fun r=>stK (r.st h)) (i4:∀k,dom k→1≤c k∧c k≤tot) (i5:tot≤1+4000000*L.length) (i6:off≤L.length) (hq0:0<q.length) (hc:bitsI .and .i64 ((G (off+Int.toNat 0)).st h).D A=(A:Int)):(ends23A hs h g hn hl).1 A f0 q L off G tot dom c n g1 g2:=by
 have hcap:=SInv.cap g hn hl i1.good i1.nd
 rw[a0F] at hcap
 unfold CAP at hcap
 have hout:=outL_len (h:=h) L
 obtain⟨u,q,rfl⟩:∃u q',q=u :: q':=by
  cases q with
  |nil=>simp at hq0
  |cons u q=>exact⟨u,q,rfl⟩
 have hG0:G (off+Int.toNat 0)=u:=i2 0 (by simp)
 have hu:Known h u:=⟨i1.good u (by simp),g,hn,hl⟩
 have hn42:=a0q.weak (next42 hs h u hu) (fun _ _ _ hd=>SR.weak hu.good hd)
 rw[a0I] at hcap
 rw[hG0,bit_andA hu.D hA] at hc
 have hyes:h.Whole (u.st h):=(hW _).2 (Int.ofNat.inj hc)
 clear hc hq0
 conv=>whnf
 dsimp only
 rw[hG0]
 refine a0d hn42 rfl ?_
 rintro _ ⟨N,hN,rfl⟩
 have hNl:N.length≤3600006:=a2X hN.len (a2X (a3E _ hl) (by decide))
 have hbeg:=SInn.begin i1 N
 clear hn42
 refine x5 ?_
 refine⟨ET,fun t=>ET.Ok h L u N t∧t.j≤N.length,fun t=>N.length-t.j,fun t=>[(6,.x (.swin 2 t.off 1 t.q.length)),(61,.int .i64 (t.j:Nat)),(37,.any),(40,.any),(41,.any),(43,.any),(44,.any)],
  fun t=>[(2,.row 85 1 (t.off+t.q.length) (fun i=>[.iptr ((t.G i).c h)]) true),(3,.map K18 true false t.dom (fun k=>[.int .i64 (t.c k)]) t.n t.g)],fun _=>[],
  ⟨q,off+1,G,0,tot,dom,c,n,g2⟩,⟨⟨⟨hbeg,fun j hj=>?_,i3,i4,by dsimp only;omega,by dsimp only;omega⟩,Nat.zero_le _⟩,some [some 0,some 1,some 2,some 3,some 4,some 5,some 6],?_⟩,?_⟩
 ·dsimp only at hj ⊢
  have:=i2 (j+1) (by simpa using hj)
  rw[show off+1+j=off+(j+1) by omega,this]
  simp
 ·refine x5 ?_
  refine⟨by dsimp only;rw[List.length_cons];omega,?_⟩
  refine x5 ?_
  refine⟨by dsimp only;rw[List.length_cons];omega,fun i _=>rfl,?_⟩
  refine x5 ?_
  refine⟨a0a (fun k _=>⟨a1R,fun _=>rfl⟩),?_⟩
  exact xc19
 ·rintro⟨tq,toff,tG,tj,ttot,td,tc,tn,tg⟩ ⟨⟨j1,j2,j3,j4,j5,j6⟩,j7⟩
  dsimp only at j1 j2 j3 j4 j5 j6 j7
  have hcapt:=SInv.cap g hn hl j1.inv.good j1.inv.nd
  rw[a0F,a0I] at hcapt
  unfold CAP at hcapt
  have htj:((tj:Nat):Int).toNat=tj:=by omega
  have hq:∀key,inR .i64 (cntV td tc key+1):=fun key=>by
   unfold cntV
   split
   ·rename_i h;have:=j4 key h;show(-9223372036854775808:Int)≤_∧_≤(9223372036854775807:Int);omega
   ·show(-9223372036854775808:Int)≤_∧_≤(9223372036854775807:Int);omega
  have hlk:=cntV_again td tc
  have i2':=j2
  refine x26 (fun hc=>?_) (fun hc=>?_)
  ·dsimp only at hc
   have hjl:tj<N.length:=by omega
   have hx:Known h (N.getD tj .root):=⟨hN.good _ (by rw[a0A,a0D hjl];exact a1F hjl),g,hn,hl⟩
   have hk41:=a0q.weak (key41 h (N.getD tj .root) hx.ord.len) (fun _ _ _ hd=>SR.weak hx.good hd)
   have hkey:kF (stF ((N.getD tj .root).st h))=stK ((N.getD tj .root).st h):=rfl
   have hnw:=cnt_one (dom:=td) (c:=tc) (k:=kF (stF ((N.getD tj .root).st h))) (fun k h=>(j4 k h).1)
   dsimp only
   rw[htj]
   generalize stF ((N.getD tj .root).st h)=f at *
   refine a0f hk41 rfl ?_
   refine x5 ?_
   (repeat' ((first|(refine And.intro (hq _) ?_)|(refine And.intro (hlk _) ?_)|(refine And.intro ⟨rfl,.inl rfl,rfl⟩ ?_)|fail);refine x5 ?_))
   intro g3
   refine x5 ?_
   (repeat' ((first|(refine And.intro (hq _) ?_)|(refine And.intro (hlk _) ?_)|(refine And.intro ⟨rfl,.inl rfl,rfl⟩ ?_)|fail);refine x5 ?_))
   refine a0d hk41 rfl ?_
   rintro _ rfl
   refine x26 (fun hc=>?_) (fun hc=>?_)
   (repeat' ((first|(refine And.intro (hq _) ?_)|(refine And.intro (hlk _) ?_)|(refine And.intro ⟨rfl,.inl rfl,rfl⟩ ?_)|fail);(repeat' ((conv=>whnf);first|(with_reducible first|apply spl|apply spl'|refine iJ ?_)<;>intro hc<;>try(exfalso;omega)|refine vcq ?_|refine dr 2005 ?_));all_goals((try conv=>whnf);try exact trivial)))
   ·have hnin:stK ((N.getD tj .root).st h)∉(L++u :: tq).map fun r=>stK (r.st h):=by
     rw[←j3,←hkey]
     exact hnw.1 hc
    clear hc hk41
    have hinn:=j1.new hjl hN.good hnin
    rw[a2D,List.cons_append] at hinn
    have hcap2:=SInv.cap g hn hl hinn.inv.good hinn.inv.nd
    rw[a0F,a0I,a0F,a1A] at hcap2
    unfold CAP at hcap2
    have hd:∀k,a0p td (kF f) k↔k∈(L++u :: (tq++[N.getD tj .root])).map fun r=>stK (r.st h):=fun k=>by
     unfold a0p
     rw[←List.cons_append,←a2D,a1L,a0M,←j3]
     simp only[a1Q,a3G,a0L,←hkey]
     exact Or.comm
    have hok:∀(o:Nat) (H:Nat→SR),o≤L.length+1→(∀j,j<(tq++[N.getD tj .root]).length→H (o+j)=(tq++[N.getD tj .root]).getD j .root)→ET.Ok h L u N ⟨tq++[N.getD tj .root],o,H,tj+1,ttot+1,a0p td (kF f),cntUp td tc (kF f),nPut td tn (kF f),g3⟩:=fun o H ho hH=>
     ⟨hinn,hH,hd,fun k hk=>cntUp_le j4 k hk,by dsimp only;omega,ho⟩
    have hget:∀j,j<(tq++[N.getD tj .root]).length→(j<tq.length∧(tq++[N.getD tj .root]).getD j .root=tq.getD j .root)∨(j=tq.length∧(tq++[N.getD tj .root]).getD j .root=N.getD tj .root):=fun j hj=>by
     simp only[a0F,a0I,a1S] at hj
     rcases a0J (show j≤tq.length by omega) with h|rfl
     ·exact .inl ⟨h,by simp[a0A,a0E h]⟩
     ·exact .inr ⟨rfl,by simp[a0A]⟩
    have htl:(tq++[N.getD tj .root]).length=tq.length+1:=by simp
    generalize N.getD tj .root=x at *
    clear j1 j2 j3 j4 hnw hd hq hlk hinn
    refine⟨?_,?_⟩
    ·refine x5 ?_
     refine⟨⟨tq++[x],toff,fun i=>if i<toff+tq.length then tG i else x,tj+1,ttot+1,a0p td (kF f),cntUp td tc (kF f),nPut td tn (kF f),g3⟩,⟨⟨hok _ _ j6 fun j hj=>?_,hjl⟩,by dsimp only;omega⟩,some [some 0,some 1,some 2,some 3,some 4,some 5,some 6],?_⟩
     ·rcases hget j hj with⟨h,e⟩|⟨rfl,e⟩
      ·rw[if_pos (by omega),e];exact i2' j h
      ·rw[if_neg (by omega),e]
     ·refine x5 ?_
      (first|refine⟨htl.symm,?_⟩|skip)
      refine x5 ?_
      (first|refine⟨by dsimp only;omega,?_⟩|skip)
      refine⟨fun i hi=>?_,?_⟩
      ·dsimp only
       unfold appF
       by_cases h:i<toff+tq.length
       ·rw[if_pos h,if_pos h]
       ·rw[if_neg h,if_neg h]
      ·refine x5 ?_
       refine⟨a0a (fun k _=>⟨a1R,fun h=>a3c td tc _ k h⟩),?_⟩
       exact xc19
    ·refine x5 ?_
     refine⟨⟨tq++[x],0,fun i=>if i<tq.length then tG (toff+i) else x,tj+1,ttot+1,a0p td (kF f),cntUp td tc (kF f),nPut td tn (kF f),g3⟩,⟨⟨hok _ _ (by omega) fun j hj=>?_,hjl⟩,by dsimp only;omega⟩,some [some 0,some 1,some 8,some 3,some 4,some 5,some 6],?_⟩
     ·rw[a2Y]
      rcases hget j hj with⟨h,e⟩|⟨rfl,e⟩
      ·rw[if_pos h,e];exact i2' j h
      ·rw[if_neg (by omega),e]
     ·refine x5 ?_
      (first|refine⟨htl.symm,?_⟩|skip)
      refine x5 ?_
      (first|refine⟨by dsimp only;omega,?_⟩|skip)
      refine⟨fun i hi=>?_,?_⟩
      ·dsimp only
       unfold appF
       by_cases h:i<tq.length
       ·rw[if_pos h,if_pos h]
       ·rw[if_neg h,if_neg h]
      ·refine x5 ?_
       refine⟨a0a (fun k _=>⟨a1R,fun h=>a3c td tc _ k h⟩),?_⟩
       exact xc19
   ·have hin:stK ((N.getD tj .root).st h)∈(L++u :: tq).map fun r=>stK (r.st h):=by
     rw[←j3,←hkey]
     exact a0T.1 fun q=>hc (hnw.2 q)
    refine⟨⟨tq,toff,tG,tj+1,ttot+1,a0p td (kF f),cntUp td tc (kF f),nPut td tn (kF f),g3⟩,⟨⟨⟨j1.old hjl hin,j2,fun k=>?_,fun k hk=>cntUp_le j4 k hk,by dsimp only;omega,j6⟩,hjl⟩,by dsimp only;omega⟩,some [some 0,some 1,some 2,some 3,some 4,some 5,some 6],?_⟩
    ·show(k=kF f∨td k)↔_
     rw[←j3]
     exact⟨fun q=>q.elim (fun e=>by rw[e,hkey];exact(j3 _).2 hin) id,.inr⟩
    ·refine x5 ?_
     refine⟨a0a (fun k _=>⟨a1R,fun h=>a3c td tc _ k h⟩),?_⟩
     exact xc19
  ·dsimp only at hc
   obtain rfl:tj=N.length:=by omega
   have hget:(L++u :: tq).getD L.length .root=u:=by simp[a0A]
   have hfin:=j1.done (by rw[a0F,a0I];omega) (by rw[hget];exact hN)
   have happ:L++u :: tq=L++[u]++tq:=by simp
   rw[happ] at hfin j3
   refine⟨⟨tq,L++[u],toff,tG,ttot,td,tc,tn,tg⟩,⟨⟨by dsimp only;rw[List.length_append,List.length_singleton];exact hfin,j2,j3,j4,by dsimp only;rw[List.length_append,List.length_singleton];omega,by dsimp only;rw[List.length_append,List.length_singleton];exact j6⟩,by dsimp only;rw[List.length_append,List.length_singleton];omega⟩,some [some 0,some 1,some 2,some 3,some 6],?_⟩
   dsimp only
   rw[outL_yes hyes]
   refine x5 ?_
   refine⟨by rw[a0F,a1A],?_⟩
   refine x5 ?_
   refine⟨a0a (fun k _=>⟨a1R,fun _=>rfl⟩),?_⟩
   refine x5 ?_
   refine⟨by rw[a0F,a1A],a2d (c:=srC h) (a:=u) (l:=outL h L) rfl (fun _ _=>rfl),?_⟩
   exact xc19
theorem ends23n (hs:SortIm) (h:Hist) (g:h.Ok) (hn:h.n≤2) (hl:h.l.length≤6) (A:Nat) (f0:Nat→Int) (q L:List SR) (off:Nat) (G:Nat→SR) (tot:Nat) (dom:List Int→Prop) (c:List Int→Int) (n:Nat) (g1 g2:MG) (hA:A<64) (hW:∀s:St,h.Whole s↔s.D &&& A=A) (i1:SInv h (L++q) L.length) (i2:∀j,j<q.length→G (off+j)=q.getD j .root) (i3:∀k,dom k↔k∈(L++q).map fun r=>stK (r.st h)) (i4:∀k,dom k→1≤c k∧c k≤tot) (i5:tot≤1+4000000*L.length) (i6:off≤L.length) (hq0:0<q.length) (hc:¬bitsI .and .i64 ((G (off+Int.toNat 0)).st h).D A=(A:Int)):(ends23A hs h g hn hl).2.1 A f0 q L off G tot dom c n g1 g2:=by
 have hcap:=SInv.cap g hn hl i1.good i1.nd
 rw[a0F] at hcap
 unfold CAP at hcap
 have hout:=outL_len (h:=h) L
 obtain⟨u,q,rfl⟩:∃u q',q=u :: q':=by
  cases q with
  |nil=>simp at hq0
  |cons u q=>exact⟨u,q,rfl⟩
 have hG0:G (off+Int.toNat 0)=u:=i2 0 (by simp)
 have hu:Known h u:=⟨i1.good u (by simp),g,hn,hl⟩
 have hn42:=a0q.weak (next42 hs h u hu) (fun _ _ _ hd=>SR.weak hu.good hd)
 rw[a0I] at hcap
 rw[hG0,bit_andA hu.D hA] at hc
 have hno:¬h.Whole (u.st h):=fun w=>hc (congrArg _ ((hW _).1 w))
 clear hc hq0
 conv=>whnf
 dsimp only
 rw[hG0]
 refine a0d hn42 rfl ?_
 rintro _ ⟨N,hN,rfl⟩
 have hNl:N.length≤3600006:=a2X hN.len (a2X (a3E _ hl) (by decide))
 have hbeg:=SInn.begin i1 N
 clear hn42
 refine x5 ?_
 refine⟨ET,fun t=>ET.Ok h L u N t∧t.j≤N.length,fun t=>N.length-t.j,fun t=>[(6,.x (.swin 2 t.off 1 t.q.length)),(61,.int .i64 (t.j:Nat)),(37,.any),(40,.any),(41,.any),(43,.any),(44,.any)],
  fun t=>[(2,.row 85 1 (t.off+t.q.length) (fun i=>[.iptr ((t.G i).c h)]) true),(3,.map K18 true false t.dom (fun k=>[.int .i64 (t.c k)]) t.n t.g)],fun _=>[],
  ⟨q,off+1,G,0,tot,dom,c,n,g2⟩,⟨⟨⟨hbeg,fun j hj=>?_,i3,i4,by dsimp only;omega,by dsimp only;omega⟩,Nat.zero_le _⟩,some [some 0,some 1,some 2,some 3,some 4],?_⟩,?_⟩
 ·dsimp only at hj ⊢
  have:=i2 (j+1) (by simpa using hj)
  rw[show off+1+j=off+(j+1) by omega,this]
  simp
 ·refine x5 ?_
  refine⟨by dsimp only;rw[List.length_cons];omega,?_⟩
  refine x5 ?_
  refine⟨by dsimp only;rw[List.length_cons];omega,fun i _=>rfl,?_⟩
  refine x5 ?_
  refine⟨a0a (fun k _=>⟨a1R,fun _=>rfl⟩),?_⟩
  exact xc19
 ·rintro⟨tq,toff,tG,tj,ttot,td,tc,tn,tg⟩ ⟨⟨j1,j2,j3,j4,j5,j6⟩,j7⟩
  dsimp only at j1 j2 j3 j4 j5 j6 j7
  have hcapt:=SInv.cap g hn hl j1.inv.good j1.inv.nd
  rw[a0F,a0I] at hcapt
  unfold CAP at hcapt
  have htj:((tj:Nat):Int).toNat=tj:=by omega
  have hq:∀key,inR .i64 (cntV td tc key+1):=fun key=>by
   unfold cntV
   split
   ·rename_i h;have:=j4 key h;show(-9223372036854775808:Int)≤_∧_≤(9223372036854775807:Int);omega
   ·show(-9223372036854775808:Int)≤_∧_≤(9223372036854775807:Int);omega
  have hlk:=cntV_again td tc
  have i2':=j2
  refine x26 (fun hc=>?_) (fun hc=>?_)
  ·dsimp only at hc
   have hjl:tj<N.length:=by omega
   have hx:Known h (N.getD tj .root):=⟨hN.good _ (by rw[a0A,a0D hjl];exact a1F hjl),g,hn,hl⟩
   have hk41:=a0q.weak (key41 h (N.getD tj .root) hx.ord.len) (fun _ _ _ hd=>SR.weak hx.good hd)
   have hkey:kF (stF ((N.getD tj .root).st h))=stK ((N.getD tj .root).st h):=rfl
   have hnw:=cnt_one (dom:=td) (c:=tc) (k:=kF (stF ((N.getD tj .root).st h))) (fun k h=>(j4 k h).1)
   dsimp only
   rw[htj]
   generalize stF ((N.getD tj .root).st h)=f at *
   refine a0f hk41 rfl ?_
   refine x5 ?_
   (repeat' ((first|(refine And.intro (hq _) ?_)|(refine And.intro (hlk _) ?_)|(refine And.intro ⟨rfl,.inl rfl,rfl⟩ ?_)|fail);refine x5 ?_))
   intro g3
   refine x5 ?_
   (repeat' ((first|(refine And.intro (hq _) ?_)|(refine And.intro (hlk _) ?_)|(refine And.intro ⟨rfl,.inl rfl,rfl⟩ ?_)|fail);refine x5 ?_))
   refine a0d hk41 rfl ?_
   rintro _ rfl
   refine x26 (fun hc=>?_) (fun hc=>?_)
   (repeat' ((first|(refine And.intro (hq _) ?_)|(refine And.intro (hlk _) ?_)|(refine And.intro ⟨rfl,.inl rfl,rfl⟩ ?_)|fail);(repeat' ((conv=>whnf);first|(with_reducible first|apply spl|apply spl'|refine iJ ?_)<;>intro hc<;>try(exfalso;omega)|refine vcq ?_|refine dr 2005 ?_));all_goals((try conv=>whnf);try exact trivial)))
   ·have hnin:stK ((N.getD tj .root).st h)∉(L++u :: tq).map fun r=>stK (r.st h):=by
     rw[←j3,←hkey]
     exact hnw.1 hc
    clear hc hk41
    have hinn:=j1.new hjl hN.good hnin
    rw[a2D,List.cons_append] at hinn
    have hcap2:=SInv.cap g hn hl hinn.inv.good hinn.inv.nd
    rw[a0F,a0I,a0F,a1A] at hcap2
    unfold CAP at hcap2
    have hd:∀k,a0p td (kF f) k↔k∈(L++u :: (tq++[N.getD tj .root])).map fun r=>stK (r.st h):=fun k=>by
     unfold a0p
     rw[←List.cons_append,←a2D,a1L,a0M,←j3]
     simp only[a1Q,a3G,a0L,←hkey]
     exact Or.comm
    have hok:∀(o:Nat) (H:Nat→SR),o≤L.length+1→(∀j,j<(tq++[N.getD tj .root]).length→H (o+j)=(tq++[N.getD tj .root]).getD j .root)→ET.Ok h L u N ⟨tq++[N.getD tj .root],o,H,tj+1,ttot+1,a0p td (kF f),cntUp td tc (kF f),nPut td tn (kF f),g3⟩:=fun o H ho hH=>
     ⟨hinn,hH,hd,fun k hk=>cntUp_le j4 k hk,by dsimp only;omega,ho⟩
    have hget:∀j,j<(tq++[N.getD tj .root]).length→(j<tq.length∧(tq++[N.getD tj .root]).getD j .root=tq.getD j .root)∨(j=tq.length∧(tq++[N.getD tj .root]).getD j .root=N.getD tj .root):=fun j hj=>by
     simp only[a0F,a0I,a1S] at hj
     rcases a0J (show j≤tq.length by omega) with h|rfl
     ·exact .inl ⟨h,by simp[a0A,a0E h]⟩
     ·exact .inr ⟨rfl,by simp[a0A]⟩
    have htl:(tq++[N.getD tj .root]).length=tq.length+1:=by simp
    generalize N.getD tj .root=x at *
    clear j1 j2 j3 j4 hnw hd hq hlk hinn
    refine⟨?_,?_⟩
    ·refine x5 ?_
     refine⟨⟨tq++[x],toff,fun i=>if i<toff+tq.length then tG i else x,tj+1,ttot+1,a0p td (kF f),cntUp td tc (kF f),nPut td tn (kF f),g3⟩,⟨⟨hok _ _ j6 fun j hj=>?_,hjl⟩,by dsimp only;omega⟩,some [some 0,some 1,some 2,some 3,some 4],?_⟩
     ·rcases hget j hj with⟨h,e⟩|⟨rfl,e⟩
      ·rw[if_pos (by omega),e];exact i2' j h
      ·rw[if_neg (by omega),e]
     ·refine x5 ?_
      (first|refine⟨htl.symm,?_⟩|skip)
      refine x5 ?_
      (first|refine⟨by dsimp only;omega,?_⟩|skip)
      refine⟨fun i hi=>?_,?_⟩
      ·dsimp only
       unfold appF
       by_cases h:i<toff+tq.length
       ·rw[if_pos h,if_pos h]
       ·rw[if_neg h,if_neg h]
      ·refine x5 ?_
       refine⟨a0a (fun k _=>⟨a1R,fun h=>a3c td tc _ k h⟩),?_⟩
       exact xc19
    ·refine x5 ?_
     refine⟨⟨tq++[x],0,fun i=>if i<tq.length then tG (toff+i) else x,tj+1,ttot+1,a0p td (kF f),cntUp td tc (kF f),nPut td tn (kF f),g3⟩,⟨⟨hok _ _ (by omega) fun j hj=>?_,hjl⟩,by dsimp only;omega⟩,some [some 0,some 1,some 6,some 3,some 4],?_⟩
     ·rw[a2Y]
      rcases hget j hj with⟨h,e⟩|⟨rfl,e⟩
      ·rw[if_pos h,e];exact i2' j h
      ·rw[if_neg (by omega),e]
     ·refine x5 ?_
      (first|refine⟨htl.symm,?_⟩|skip)
      refine x5 ?_
      (first|refine⟨by dsimp only;omega,?_⟩|skip)
      refine⟨fun i hi=>?_,?_⟩
      ·dsimp only
       unfold appF
       by_cases h:i<tq.length
       ·rw[if_pos h,if_pos h]
       ·rw[if_neg h,if_neg h]
      ·refine x5 ?_
       refine⟨a0a (fun k _=>⟨a1R,fun h=>a3c td tc _ k h⟩),?_⟩
       exact xc19
   ·have hin:stK ((N.getD tj .root).st h)∈(L++u :: tq).map fun r=>stK (r.st h):=by
     rw[←j3,←hkey]
     exact a0T.1 fun q=>hc (hnw.2 q)
    refine⟨⟨tq,toff,tG,tj+1,ttot+1,a0p td (kF f),cntUp td tc (kF f),nPut td tn (kF f),g3⟩,⟨⟨⟨j1.old hjl hin,j2,fun k=>?_,fun k hk=>cntUp_le j4 k hk,by dsimp only;omega,j6⟩,hjl⟩,by dsimp only;omega⟩,some [some 0,some 1,some 2,some 3,some 4],?_⟩
    ·show(k=kF f∨td k)↔_
     rw[←j3]
     exact⟨fun q=>q.elim (fun e=>by rw[e,hkey];exact(j3 _).2 hin) id,.inr⟩
    ·refine x5 ?_
     refine⟨a0a (fun k _=>⟨a1R,fun h=>a3c td tc _ k h⟩),?_⟩
     exact xc19
  ·dsimp only at hc
   obtain rfl:tj=N.length:=by omega
   have hget:(L++u :: tq).getD L.length .root=u:=by simp[a0A]
   have hfin:=j1.done (by rw[a0F,a0I];omega) (by rw[hget];exact hN)
   have happ:L++u :: tq=L++[u]++tq:=by simp
   rw[happ] at hfin j3
   refine⟨⟨tq,L++[u],toff,tG,ttot,td,tc,tn,tg⟩,⟨⟨by dsimp only;rw[List.length_append,List.length_singleton];exact hfin,j2,j3,j4,by dsimp only;rw[List.length_append,List.length_singleton];omega,by dsimp only;rw[List.length_append,List.length_singleton];exact j6⟩,by dsimp only;rw[List.length_append,List.length_singleton];omega⟩,some [some 0,some 1,some 2,some 3,some 4],?_⟩
   dsimp only
   rw[outL_no hno]
   refine x5 ?_
   refine⟨a0a (fun k _=>⟨a1R,fun _=>rfl⟩),?_⟩
   exact xc19
theorem ends23 (hs:SortIm) (h:Hist) (g:h.Ok) (hn:h.n≤2) (hl:h.l.length≤6):a0q Tryz.prog 44 true [h.w] (fun v=>∃L,EndL h L∧v=.sl 1 L.length (a0u (srC h) .root L)):=
 (ends23A hs h g hn hl).2.2 (fun A f0 q L off G tot dom c n g1 g2 hA hW i1 i2 i3 i4 i5 i6 hq hc=>ends23y hs h g hn hl A f0 q L off G tot dom c n g1 g2 hA hW i1 i2 i3 i4 i5 i6 hq hc) (fun A f0 q L off G tot dom c n g1 g2 hA hW i1 i2 i3 i4 i5 i6 hq hc=>ends23n hs h g hn hl A f0 q L off G tot dom c n g1 g2 hA hW i1 i2 i3 i4 i5 i6 hq hc)
end Ho
end Go.Proofs
