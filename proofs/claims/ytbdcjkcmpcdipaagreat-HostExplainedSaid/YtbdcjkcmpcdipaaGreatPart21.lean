/- Own work: texts of the proof of a law (GwA, Hs5). No condition. -/
import Derived.Test.YtbdcjkcmpcdipaaGreatPart20
set_option linter.unusedVariables false
set_option linter.unusedSimpArgs false
namespace Go.Proofs
open Go Go.Sx
set_option maxRecDepth 100000
set_option maxHeartbeats 40000000
namespace Ho
noncomputable def skR (u:PS):List V:=skV (skI u)
structure DS where
 q:List PS
 L:List PS
 off:Nat
 G:Nat→Nat→Int
 tot:Nat
 dom:List Int→Prop
 c:List Int→Int
 n:Nat
 g:MG
structure DS.Ok (A:PS→Prop) (s:DS):Prop where
 inv:DInv A s.q s.L
 G:∀j,j<s.q.length→s.G (s.off+j)=skI (s.q.getD j PS.begin)
 dom:∀k,s.dom k↔k∈s.L.map skK
 c:∀k,s.dom k→1≤s.c k∧s.c k≤s.tot
 tot:s.tot+7*(65536-s.L.length)+s.q.length≤600000
 off:s.off≤s.tot
structure DT where
 q:List PS
 off:Nat
 G:Nat→Nat→Int
 D:List Nat
structure DT.Ok (A:PS→Prop) (u:PS) (L:List PS) (n0:Nat) (t:DT) (tot:Nat):Prop where
 inv:DInn A u t.q L t.D
 G:∀j,j<t.q.length→t.G (t.off+j)=skI (t.q.getD j PS.begin)
 D:t.D.Nodup∧∀b∈t.D,b<6∧u.can b
 lim:tot+7*(65536-(L.length+1))+t.q.length≤600000-6+t.D.length
 off:t.off≤tot
 ql:t.q.length≤n0+t.D.length
theorem cnt_more {dom:List Int→Prop} {c:List Int→Int} {k:List Int} (h:∀k,dom k→1≤c k) :
  (1<@ite _ (a0p dom k k) (Classical.propDecidable _) (@ite _ (k=k) (Classical.propDecidable _) (cntV dom c k+1) (cntV dom c k)) 0)↔dom k:=by
 rw[if_pos (show a0p dom k k from .inl rfl),if_pos rfl]
 unfold cntV
 split
 ·rename_i hk
  have:=h k hk
  exact⟨fun _=>hk,fun _=>by omega⟩
 ·rename_i hk
  exact⟨fun e=>by omega,fun e=>absurd e hk⟩
theorem drained50 {P A:PS→Prop} (hP:ShOk P) (hA:∀u,A u→P u) (dom:List Int→Prop) (c:List Int→Int) (n:Nat) (g:MG) (hdom:∀k,dom k↔∃u,A u∧skK u=k) :
  Sx.Callee Tryz.prog 85 [.map 0] [.map K73 true false dom (fun k=>[.int .i64 (c k)]) n g]
   (fun v H=>∃(dom':List Int→Prop) (c':List Int→Int) (n':Nat) (g':MG),(∀k,dom' k↔∃u,ClD A u∧skK u=k)∧v=.map 1∧H=[.gone,.map K73 true false dom' (fun k=>[.int .i64 (c' k)]) n' g']):=by
 refine callee_ent Tryz.E_ok Tryz.func85 rfl (by kernel_rfl) ?_
 refine x4 ?_
 intro g0
 refine x4 ?_
 refine⟨List PS,fun l=>(∀u∈l,A u)∧(l.map skK).Nodup,fun l=>n-l.length,fun l=>[(4,.osl 3 l.length)],fun l=>[(2,.iter 0 g (fun k=>dom k∧k.length=K73.length) (l.map skK).reverse)],fun l=>[.row 130 73 l.length (a0u skR PS.begin l) true],[],⟨⟨by simp,by simp⟩,some [some 0,some 1,some 2,none],?_⟩,?_⟩
 ·refine x4 ?_
  refine⟨a0a (fun k _=>⟨a1R,fun _=>rfl⟩),?_⟩
  refine x4 ?_
  refine⟨a0a (fun k _=>⟨a1R,fun _=>rfl⟩),?_⟩
  exact xc16
 ·rintro l ⟨h1,h2⟩
  have hcap:l.length≤65536:=hP.cap l (fun u hu=>hA u (h1 u hu)) h2
  refine x4 ?_
  refine⟨fun k hk hd=>⟨hd,hk⟩,fun k hk hd hnk hcn=>?_,fun hall=>?_⟩
  ·obtain⟨u,hu,rfl⟩:=(hdom k).1 hd
   have hnk':skK u∉l.map skK:=fun q=>hnk (a1Y.2 q)
   have hnd2:(skK u :: (l.map skK).reverse).Nodup:=a2B.2 ⟨hnk,(List.reverse_perm _).nodup_iff.2 h2⟩
   have hlen:=Counted.le hcn hnd2 (fun k hk=>by
    rcases a0O.1 hk with rfl|hk
    ·exact⟨rfl,hd⟩
    ·obtain⟨v,hv,rfl⟩:=a1C.1 (a1Y.1 hk)
     exact⟨rfl,(hdom _).2 ⟨v,h1 v hv,rfl⟩⟩)
   simp only[a0I,List.length_reverse,a2M] at hlen
   refine x4 ?_
   refine And.intro ⟨rfl,hd,rfl⟩ ?_
   refine x4 ?_
   refine⟨l++[u],⟨⟨fun v hv=>?_,?_⟩,by dsimp only;rw[List.length_append];simp only[List.length_cons,List.length_nil];omega⟩,some [some 0,some 1,some 2,some 6],?_⟩
   ·rcases a0M.1 hv with q|q
    ·exact h1 v q
    ·rw[a0L.1 q];exact hu
   ·rw[a1L,a2N]
    refine⟨h2,by simp,fun a ha b hb=>?_⟩
    simp only[a1Q,a3G,a0L] at hb
    subst hb
    rintro rfl
    exact hnk' ha
   ·refine x4 ?_
    refine⟨by simp,?_⟩
    refine x4 ?_
    refine⟨a0a (fun k _=>⟨a1R,fun _=>rfl⟩),?_⟩
    refine x4 ?_
    refine⟨a0a (fun k _=>⟨a1R,fun _=>rfl⟩),?_⟩
    refine x4 ?_
    refine⟨by simp,?_⟩
    refine x4 ?_
    refine⟨by simp,a2d (c:=skR) (a:=u) (l:=l) rfl (fun _ _=>rfl),?_⟩
    exact xc16
  ·have hbase:DInv A l []:=by
    refine⟨fun v hv=>.base (h1 v hv),by simp,by simp,fun v hv=>.inr ?_,by simp⟩
    have:=hall (skK v) rfl ((hdom _).2 ⟨v,hv,rfl⟩)
    exact a1Y.1 this
   refine x4 ?_
   refine⟨DS,DS.Ok A,fun s=>7*(65536-s.L.length)+s.q.length,fun s=>[(4,.x (.swin 3 s.off 73 s.q.length))],
    fun s=>[(0,.gone),(1,.map K73 true false s.dom (fun k=>[.int .i64 (s.c k)]) s.n s.g),(2,.gone),(3,.row 130 73 (s.off+s.q.length) (fun i=>skV (s.G i)) true)],fun _=>[],
    ⟨l,[],0,fun i=>skI (l.getD i PS.begin),0,fun _=>False,fun _=>0,0,g0⟩,⟨⟨hbase,fun j hj=>by dsimp only;rw[Nat.zero_add],by simp,by simp,by dsimp only;simp;omega,by simp⟩,some [some 0,some 1,some 2,some 3],?_⟩,?_⟩
   ·refine x4 ?_
    refine⟨a0a (fun k _=>⟨a1R,fun h=>h.elim⟩),?_⟩
    exact xc16
   ·clear hbase hall h1 h2 hcap
    rintro⟨q,L,off,G,tot,dom1,c1,n1,g1⟩ ⟨i1,i2,i3,i4,i5,i6⟩
    dsimp only at i1 i2 i3 i4 i5 i6
    have hcapL:L.length≤65536:=hP.cap L (fun u hu=>(i1.hL u hu).ok hP hA) i1.nd
    have hq:∀key,inR .i64 (cntV dom1 c1 key+1):=fun key=>by
     unfold cntV
     split
     ·rename_i h;have:=i4 key h;show(-9223372036854775808:Int)≤_∧_≤(9223372036854775807:Int);omega
     ·show(-9223372036854775808:Int)≤_∧_≤(9223372036854775807:Int);omega
    have hlk:=cntV_again dom1 c1
    (repeat' ((conv=>whnf);first|(with_reducible first|apply spl|apply spl'|refine iJ ?_)<;>intro hc<;>try(exfalso;omega)|refine vcq ?_|refine dr 2004 ?_));all_goals(try conv=>whnf);try exact trivial
    ·dsimp only at hc
     obtain⟨u,q,rfl⟩:∃u q',q=u :: q':=by
      cases q with
      |nil=>simp at hc
      |cons u q=>exact⟨u,q,rfl⟩
     have hG0:G (off+Int.toNat 0)=skI u:=i2 0 (by simp)
     have hus:ClD A u:=i1.hq u (by simp)
     have huP:=hus.ok hP hA
     have hkey:skF (G (off+Int.toNat 0))=skK u:=by rw[hG0];rfl
     have hd52:NewC Tryz.prog 87 [.agg (skV (G (off+Int.toNat 0)))] (fun r H=>r=.map 0∧∃dom v n g,DrM u dom v∧H=[.map [.i64] false true dom (fun k=>skV (v k)) n g]):=by
      rw[hG0]
      exact drains52 hP huP
     have hnw:=cnt_more (k:=skF (G (off+Int.toNat 0))) (fun k h=>(i4 k h).1)
     refine And.intro (hq _) ?_
     refine x4 ?_
     (repeat' ((first|(refine And.intro (hq _) ?_)|(refine And.intro (hlk _) ?_)|(refine And.intro ⟨rfl,.inl rfl,rfl⟩ ?_));refine x4 ?_))
     intro g2
     refine x4 ?_
     (repeat' ((first|(refine And.intro (hq _) ?_)|(refine And.intro (hlk _) ?_)|(refine And.intro ⟨rfl,.inl rfl,rfl⟩ ?_));(repeat' ((conv=>whnf);first|(with_reducible first|apply spl|apply spl'|refine iJ ?_)<;>intro hc<;>try(exfalso;omega)|refine vcq ?_|refine dr 2004 ?_));all_goals((try conv=>whnf);try exact trivial)))
     ·have hyes:dom1 (skF (G (off+Int.toNat 0))):=hnw.1 hc
      clear hc
      have hin:skK u∈L.map skK:=by rw[←i3,←hkey];exact hyes
      have i5':tot+7*(65536-L.length)+(q.length+1)≤600000:=i5
      refine⟨⟨q,L,off+1,G,tot+1,a0p dom1 (skF (G (off+Int.toNat 0))),cntUp dom1 c1 (skF (G (off+Int.toNat 0))),nPut dom1 n1 (skF (G (off+Int.toNat 0))),g2⟩,⟨⟨i1.old hin,fun j hj=>?_,fun k=>?_,fun k hk=>?_,by dsimp only;omega,by dsimp only;omega⟩,by dsimp only;simp⟩,some [some 0,some 1,some 2,some 3],?_⟩
      ·dsimp only at hj ⊢
       have:=i2 (j+1) (by simpa using hj)
       rw[show off+1+j=off+(j+1) by omega,this]
       simp
      ·dsimp only
       rw[←i3]
       exact⟨fun h=>h.elim (fun e=>e▸hyes) id,.inr⟩
      ·have:=cntUp_le i4 k hk
       dsimp only
       omega
      ·refine x4 ?_
       refine⟨by dsimp only;rw[List.length_cons];omega,?_⟩
       refine x4 ?_
       refine⟨a0a (fun key _=>⟨a1R,fun h=>a3c dom1 c1 _ key h⟩),?_⟩
       refine x4 ?_
       refine⟨by dsimp only;rw[List.length_cons];omega,fun i hi=>rfl,?_⟩
       exact xc16
     ·have hno:¬dom1 (skF (G (off+Int.toNat 0))):=fun h=>hc (hnw.2 h)
      clear hc
      have hnin:skK u∉L.map skK:=by rw[←i3,←hkey];exact hno
      have hinn:=i1.new hnin
      have hL1:L.length+1≤65536:=by
       have:=hP.cap (L++[u]) (fun v hv=>by
        rcases a0M.1 hv with h|h
        ·exact(i1.hL v h).ok hP hA
        ·rw[a0L.1 h];exact huP) hinn.nd
       simpa using this
      have i5':tot+7*(65536-L.length)+(q.length+1)≤600000:=i5
      refine callee_new hd52 rfl ?_
      rintro _ _ ⟨rfl,dd,vd,nd,gd,hdr,rfl⟩
      refine x4 ?_
      refine⟨DT,fun t=>DT.Ok A u L q.length t (tot+1),fun t=>nd-t.D.length,fun t=>[(4,.x (.swin 3 t.off 73 t.q.length)),(6,.any),(20,.any),(21,.any),(22,.any),(23,.any),(24,.any),(25,.any),(26,.any),(27,.any),(28,.any),(29,.any),(30,.any),(31,.any),(32,.any),(33,.any),(34,.any),(35,.any),(36,.any),(37,.any),(38,.any)],
       fun t=>[(1,.map K73 true false (a0p dom1 (skF (G (off+Int.toNat 0)))) (fun k=>[.int .i64 (cntUp dom1 c1 (skF (G (off+Int.toNat 0))) k)]) (nPut dom1 n1 (skF (G (off+Int.toNat 0)))) g2),(3,.row 130 73 (t.off+t.q.length) (fun i=>skV (t.G i)) true),(4,.gone),(6,.iter 5 gd (fun k=>dd k∧k.length=1) (t.D.map fun(b:Nat)=>[(b:Int)]))],fun _=>[],
       ⟨q,off+1,G,[]⟩,⟨⟨hinn,fun j hj=>?_,by simp,by dsimp only;simp;omega,by dsimp only;omega,by simp⟩,some [some 0,some 1,some 2,some 3,some 4,some 5,some 6],?_⟩,?_⟩
      ·dsimp only at hj ⊢
       have:=i2 (j+1) (by simpa using hj)
       rw[show off+1+j=off+(j+1) by omega,this]
       simp
      ·refine x4 ?_
       refine⟨by dsimp only;rw[List.length_cons];omega,?_⟩
       refine x4 ?_
       refine⟨a0a (fun key _=>⟨a1R,fun h=>a3c dom1 c1 _ key h⟩),?_⟩
       refine x4 ?_
       refine⟨by dsimp only;rw[List.length_cons];omega,fun i hi=>rfl,?_⟩
       exact xc16
      ·clear hnw hlk hq hinn hno
       rintro⟨tq,toff,tG,D⟩ ⟨j1,j2,j3,j4,j5,j6⟩
       dsimp only at j1 j2 j3 j4 j5 j6
       refine x4 ?_
       refine⟨fun k hk hd=>⟨hd,hk⟩,fun k hk hd hnk hcn=>?_,fun hall=>?_⟩
       ·obtain⟨b,hb,rfl,hcan⟩:=(hdr.dom k).1 hd
        have hnb:b∉D:=fun h=>hnk (a1C.2 ⟨b,h,rfl⟩)
        have hnd2:(([(b:Int)]:List Int) :: D.map fun(b:Nat)=>[(b:Int)]).Nodup:=a2B.2 ⟨hnk,by
         rw[List.Nodup,a1P]
         exact j3.1.imp fun h e=>h (Int.ofNat.inj (List.cons.inj e).1)⟩
        have hlen:=Counted.le hcn hnd2 (fun k hk=>by
         rcases a0O.1 hk with rfl|hk
         ·exact⟨rfl,hd⟩
         ·obtain⟨b',hb',rfl⟩:=a1C.1 hk
          exact⟨rfl,(hdr.dom _).2 ⟨b',(j3.2 b' hb').1,rfl,(j3.2 b' hb').2⟩⟩)
        simp only[a0I,a2M] at hlen
        have hv:=hdr.val b hb hcan
        have hadd:=j1.add hb hcan
        have hD6:(b :: D).length≤6:=by
         have:=a1O (a2B.2 ⟨hnb,j3.1⟩) (l₂:=List.range 6) (fun x hx=>a1D.2 (by
          rcases a0O.1 hx with rfl|hx
          ·exact hb
          ·exact(j3.2 x hx).1))
         simpa using this
        have hok:∀(o:Nat) (H:Nat→Nat→Int),o≤tot+1→(∀j,j<(tq++[u.drainU b]).length→H (o+j)=skI ((tq++[u.drainU b]).getD j PS.begin))→DT.Ok A u L q.length ⟨tq++[u.drainU b],o,H,b :: D⟩ (tot+1):=fun o H ho hH=>
         ⟨hadd,hH,⟨a2B.2 ⟨hnb,j3.1⟩,fun x hx=>by
          rcases a0O.1 hx with rfl|hx
          ·exact⟨hb,hcan⟩
          ·exact j3.2 x hx⟩,by dsimp only;simp only[List.length_append,List.length_cons,List.length_nil];omega,ho,by dsimp only;simp only[List.length_append,List.length_cons,List.length_nil];omega⟩
        have hget:∀j,j<(tq++[u.drainU b]).length→(j<tq.length∧(tq++[u.drainU b]).getD j PS.begin=tq.getD j PS.begin)∨(j=tq.length∧(tq++[u.drainU b]).getD j PS.begin=u.drainU b):=fun j hj=>by
         simp only[a0F,a0I,a1S] at hj
         rcases a0J (show j≤tq.length by omega) with h|rfl
         ·exact .inl ⟨h,by simp[a0A,a0E h]⟩
         ·exact .inr ⟨rfl,by simp[a0A]⟩
        have htl:(tq++[u.drainU b]).length=tq.length+1:=by simp
        refine x4 ?_
        refine And.intro ⟨rfl,hd,hk⟩ ?_
        refine x4 ?_
        simp only[a0I] at hD6
        refine⟨by dsimp only;omega,?_,?_⟩
        ·refine x4 ?_
         refine⟨⟨tq++[u.drainU b],toff,fun i=>if i<toff+tq.length then tG i else vd [(b:Int)],b :: D⟩,⟨hok _ _ j5 fun j hj=>?_,by dsimp only;rw[List.length_cons];omega⟩,some [some 0,some 1,some 2,some 3,some 4,some 5,some 6],?_⟩
         ·rcases hget j hj with⟨h,e⟩|⟨rfl,e⟩
          ·rw[if_pos (by omega),e];exact j2 j h
          ·rw[if_neg (by omega),e];exact hv
         ·refine x4 ?_
          refine⟨a0a (fun k _=>⟨a1R,fun _=>rfl⟩),?_⟩
          refine x4 ?_
          refine⟨fun i hi=>?_,by dsimp only;omega,?_⟩
          ·dsimp only
           unfold appF
           by_cases h:i<toff+tq.length
           ·rw[if_pos h,if_pos h]
           ·rw[if_neg h,if_neg h]
            rfl
          ·exact xc16
           (repeat' ((first|(refine And.intro (a0a (fun k _=>⟨a1R,fun _=>rfl⟩)) ?_)|(refine And.intro rfl ?_));(repeat' ((conv=>whnf);first|(with_reducible first|apply spl|apply spl'|refine iJ ?_)<;>intro hc<;>try(exfalso;omega)|refine vcq ?_|refine dr 2004 ?_));all_goals((try conv=>whnf);try exact trivial)))
        ·refine x4 ?_
         refine⟨⟨tq++[u.drainU b],0,fun i=>if i<tq.length then tG (toff+i) else vd [(b:Int)],b :: D⟩,⟨hok _ _ (by omega) fun j hj=>?_,by dsimp only;rw[List.length_cons];omega⟩,some [some 0,some 1,some 2,some 9,some 4,some 5,some 6],?_⟩
         ·rw[a2Y]
          rcases hget j hj with⟨h,e⟩|⟨rfl,e⟩
          ·rw[if_pos h,e];exact j2 j h
          ·rw[if_neg (by omega),e];exact hv
         ·refine x4 ?_
          refine⟨a0a (fun k _=>⟨a1R,fun _=>rfl⟩),?_⟩
          refine x4 ?_
          refine⟨fun i hi=>?_,by dsimp only;omega,?_⟩
          ·dsimp only
           unfold appF
           by_cases h:i<tq.length
           ·rw[if_pos h,if_pos h]
           ·rw[if_neg h,if_neg h]
            rfl
          ·exact xc16
           (repeat' ((first|(refine And.intro (a0a (fun k _=>⟨a1R,fun _=>rfl⟩)) ?_)|(refine And.intro rfl ?_));(repeat' ((conv=>whnf);first|(with_reducible first|apply spl|apply spl'|refine iJ ?_)<;>intro hc<;>try(exfalso;omega)|refine vcq ?_|refine dr 2004 ?_));all_goals((try conv=>whnf);try exact trivial)))
       ·have hdone:=j1.done hP hA (fun b hb hc=>by
         have:=hall [(b:Int)] rfl ((hdr.dom _).2 ⟨b,hb,rfl,hc⟩)
         obtain⟨b',h1,h2⟩:=a1C.1 this
         have:b'=b:=Int.ofNat.inj (List.cons.inj h2).1
         exact this▸h1)
        have hD6:D.length≤6:=by
         have:=a1O j3.1 (l₂:=List.range 6) (fun x hx=>a1D.2 (j3.2 x hx).1)
         simpa using this
        refine x4 ?_
        refine⟨⟨tq,L++[u],toff,tG,tot+1,a0p dom1 (skF (G (off+Int.toNat 0))),cntUp dom1 c1 (skF (G (off+Int.toNat 0))),nPut dom1 n1 (skF (G (off+Int.toNat 0))),g2⟩,⟨⟨hdone,j2,fun k=>?_,fun k hk=>?_,by dsimp only;simp only[List.length_append,List.length_cons,List.length_nil];omega,j5⟩,by dsimp only;simp only[List.length_append,List.length_cons,List.length_nil];omega⟩,some [some 0,some 1,some 2,some 3],?_⟩
        ·dsimp only
         rw[a1L,a0M,←i3]
         simp only[a1Q,a3G,a0L]
         rw[←hkey]
         exact Or.comm
        ·have:=cntUp_le i4 k hk
         dsimp only
         omega
        ·refine x4 ?_
         (repeat' ((first|(refine And.intro (a0a (fun k _=>⟨a1R,fun _=>rfl⟩)) ?_)|(refine And.intro rfl ?_));exact xc16))
    ·have hq0:q=[]:=by
      cases q with
      |nil=>rfl
      |cons u q=>exact absurd (show(0:Int)<((u :: q).length:Nat) by simp) hc
     subst hq0
     refine⟨_,_,⟨dom1,c1,n1,g1,fun k=>?_,rfl,rfl⟩,some [some 0,some 1],?_⟩
     ·rw[i3]
      exact i1.all hP hA k
     ·refine x4 ?_
      refine⟨a0a (fun k _=>⟨a1R,fun _=>rfl⟩),?_⟩
      exact xc16
end Ho
end Go.Proofs
namespace Go.Proofs
open Go Go.Sx
set_option maxRecDepth 100000
set_option maxHeartbeats 4000000
namespace Ho
def K6:List IntKind:=List.replicate 6 .i64
def keyM (c:C6):List Int:=[c.a0,c.a1,c.a2,c.a3,c.a4,c.a5]
theorem keyM_inj {a b:C6} (h:keyM a=keyM b):a=b:=by
 obtain⟨a0,a1,a2,a3,a4,a5⟩:=a
 obtain⟨b0,b1,b2,b3,b4,b5⟩:=b
 unfold keyM at h
 simp only[List.cons.injEq,and_true] at h
 obtain⟨h0,h1,h2,h3,h4,h5⟩:=h
 subst h0 h1 h2 h3 h4 h5
 rfl
def ImS (l:List PS) (c:C6):Prop:=∃u∈l,c=u.M∨∃b:Nat,b<6∧u.can b∧c=u.M.set b (-2)
structure SeenM (l:List PS) (r:Option (PS×List Nat)) (dom:List Int→Prop):Prop where
 hd:∀key,dom key↔∃c,keyM c=key∧(ImS l c∨∃u D,r=some (u,D)∧(c=u.M∨∃b∈D,c=u.M.set b (-2)))
theorem SeenM.nil:SeenM [] none (fun _=>False):=⟨fun key=>⟨fun h=>h.elim,fun⟨c,_,h⟩=>by
 rcases h with⟨u,h,_⟩|⟨u,D,h,_⟩
 ·simp at h
 ·cases h⟩⟩
theorem SeenM.one {l:List PS} {dom:List Int→Prop} (h:SeenM l none dom) (u:PS):SeenM l (some (u,[])) (a0p dom (keyM u.M)):=by
 refine⟨fun key=>?_⟩
 unfold a0p
 rw[h.hd]
 constructor
 ·rintro(rfl|⟨c,rfl,g|⟨_,_,g,_⟩⟩)
  ·exact⟨u.M,rfl,.inr ⟨u,[],rfl,.inl rfl⟩⟩
  ·exact⟨c,rfl,.inl g⟩
  ·cases g
 ·rintro⟨c,rfl,g|⟨_,_,g,g2⟩⟩
  ·exact .inr ⟨c,rfl,.inl g⟩
  ·cases g
   rcases g2 with rfl|⟨b,hb,_⟩
   ·exact .inl rfl
   ·simp at hb
theorem SeenM.torn {l:List PS} {u:PS} {D:List Nat} {dom:List Int→Prop} (h:SeenM l (some (u,D)) dom) (b:Nat):SeenM l (some (u,b :: D)) (a0p dom (keyM (u.M.set b (-2)))):=by
 refine⟨fun key=>?_⟩
 unfold a0p
 rw[h.hd]
 constructor
 ·rintro(rfl|⟨c,rfl,g|⟨_,_,g,g2⟩⟩)
  ·exact⟨_,rfl,.inr ⟨u,_,rfl,.inr ⟨b,by simp,rfl⟩⟩⟩
  ·exact⟨c,rfl,.inl g⟩
  ·cases g
   refine⟨c,rfl,.inr ⟨u,_,rfl,?_⟩⟩
   rcases g2 with g2|⟨b',hb,g2⟩
   ·exact .inl g2
   ·exact .inr ⟨b',a1X _ hb,g2⟩
 ·rintro⟨c,rfl,g|⟨_,_,g,g2⟩⟩
  ·exact .inr ⟨c,rfl,.inl g⟩
  ·cases g
   rcases g2 with rfl|⟨b',hb,rfl⟩
   ·exact .inr ⟨_,rfl,.inr ⟨u,D,rfl,.inl rfl⟩⟩
   ·rcases a0O.1 hb with rfl|hb
    ·exact .inl rfl
    ·exact .inr ⟨_,rfl,.inr ⟨u,D,rfl,.inr ⟨b',hb,rfl⟩⟩⟩
theorem SeenM.done {l:List PS} {u:PS} {D:List Nat} {dom:List Int→Prop} (h:SeenM l (some (u,D)) dom) (hD:∀b,b∈D↔b<6∧u.can b):SeenM (l++[u]) none dom:=by
 refine⟨fun key=>?_⟩
 rw[h.hd]
 constructor
 ·rintro⟨c,rfl,⟨v,hv,g⟩|⟨_,_,g,g2⟩⟩
  ·exact⟨c,rfl,.inl ⟨v,a1I _ hv,g⟩⟩
  ·cases g
   refine⟨c,rfl,.inl ⟨u,by simp,?_⟩⟩
   rcases g2 with g2|⟨b,hb,g2⟩
   ·exact .inl g2
   ·exact .inr ⟨b,((hD b).1 hb).1,((hD b).1 hb).2,g2⟩
 ·rintro⟨c,rfl,⟨v,hv,g⟩|⟨_,_,g,_⟩⟩
  ·rcases a0M.1 hv with q|q
   ·exact⟨c,rfl,.inl ⟨v,q,g⟩⟩
   ·rw[a0L.1 q] at g
    refine⟨c,rfl,.inr ⟨u,D,rfl,?_⟩⟩
    rcases g with g|⟨b,h1,h2,g⟩
    ·exact .inl g
    ·exact .inr ⟨b,(hD b).2 ⟨h1,h2⟩,g⟩
  ·cases g
end Ho
end Go.Proofs
