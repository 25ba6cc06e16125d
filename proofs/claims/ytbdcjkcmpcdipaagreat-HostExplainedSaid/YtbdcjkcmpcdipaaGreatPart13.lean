/- Own work: texts of the proof of a law (Hm13, Hm14, Hm15, Hm16, Hm17, GwJ, Gm18, Gm19, Gw3, GwS). No condition. -/
import Derived.Test.YtbdcjkcmpcdipaaGreatPart12
set_option linter.unusedVariables false
set_option linter.unusedSimpArgs false
namespace Go.Proofs
open Go Go.Sx
set_option maxRecDepth 100000
set_option maxHeartbeats 4000000
namespace Ho
def ackF (h:Hist) (b:Nat):Nat→Int×Bool
 |0=>(-1,false)
 |i+1=>if(h.at' i).k=9 then(-1,(ackF h b i).2) else if(h.at' i).Puts∧(h.at' i).b=b then((i:Int),decide ((h.at' i).k=2)) else if(h.at' i).k=4 then((ackF h b i).1,true) else ackF h b i
theorem ackF_lt (h:Hist) (b:Nat):∀i,(ackF h b i).1<i
 |0=>by simp[ackF]
 |i+1=>by
  have:=ackF_lt h b i
  unfold ackF
  split
  ·dsimp only;omega
  ·split
   ·dsimp only;omega
   ·split
    ·dsimp only;omega
    ·omega
def Seq (h:Hist):Prop:=∀i,i<h.l.length→(h.at' i).t≠-1∧(0<i→¬(h.at' i).f<(h.at' (i-1)).t)
namespace Hist
variable {h:Hist}
theorem Ok.seq (g:h.Ok) (hs:Seq h):∀i,i<h.l.length→∀j,j<i→(h.at' j).t<(h.at' i).f:=by
 intro i
 induction i with
 |zero=>intro _ j hj;omega
 |succ i ih=>
  intro hi j hj
  have h1:=(hs (i+1) hi).2 (by omega)
  have h2:=g.two (i+1) hi i (by omega) (by omega)
  unfold Cmd.Bad at h2
  simp only[not_or] at h2
  rw[Nat.add_sub_cancel] at h1
  have h3:(h.at' i).t<(h.at' (i+1)).f:=by omega
  rcases a0J (show j≤i by omega) with q|rfl
  ·have h4:=ih (by omega) j q
   have hc:=g.cmd i (by omega)
   have ht:=(hs i (by omega)).1
   unfold Cmd.Ok at hc
   omega
  ·exact h3
theorem RchN_snoc {P:PS→Prop} {O:List Nat} {i:Nat} (hd:∀u (b:Nat),b<6→u.can b→P u→P (u.drainU b)) (hn:h.nn≤6) (ho:∀u,RchN h O u→P (u.orderU i (h.at' i).o)):∀u,RchN h (O++[i]) u→P u:=by
 intro u r
 generalize hO:O++[i]=O' at r
 induction r with
 |begin=>simp at hO
 |drain r hb hc ih=>exact hd _ _ (by omega) hc (ih hO)
 |@order O2 u i2 r _=>
  obtain⟨rfl,h2⟩:=List.append_inj' hO rfl
  cases h2
  exact ho u r
theorem Ok.ack (g:h.Ok) (hs:Seq h) {b:Nat} (hb:b<h.nn) {s:St} (r:h.Rea s) :
  ∃i,i≤h.l.length∧(∀j,j<h.l.length→(s.D.testBit j=true↔j<i))∧(0≤(ackF h b i).1→∀u,RchN h s.O u→PB (ackF h b i).1 b u∧((ackF h b i).2=true→QB (ackF h b i).1 b u)):=by
 have hnn:=g.nn
 have hb6:b<6:=by omega
 have next:∀(s:St) (i n:Nat),i≤h.l.length→(∀j,j<h.l.length→(s.D.testBit j=true↔j<i))→n<h.l.length→h.May s.D n→n=i:=by
  intro s i n hi hbits hn hm
  have h1:¬n<i:=fun q=>by have:=(hbits n hn).2 q;rw[hm.1] at this;cases this
  have h2:¬i<n:=fun q=>by
   have hil:i<h.l.length:=by omega
   have h3:=(hm.2 i hil).1
   have h4:s.D.testBit i=false:=by
    cases e:s.D.testBit i with
    |false=>rfl
    |true=>have:=(hbits i hil).1 e;omega
   exact h3 h4 (hs i hil).1 (g.seq hs n hn i q)
  omega
 have bits:∀(D i:Nat),i<h.l.length→(∀j,j<h.l.length→(D.testBit j=true↔j<i))→∀j,j<h.l.length→((D ||| 1 <<< i).testBit j=true↔j<i+1):=by
  intro D i _ hbits j hj
  rw[bit_or]
  have:=hbits j hj
  by_cases e:i=j
  ·simp[e]
  ·rw[show decide (i=j)=false by simpa using e,Bool.or_false,this]
   omega
 induction r with
 |begin=>exact⟨0,by omega,fun j hj=>by simp[st0],fun q=>by simp[ackF] at q⟩
 |@step s s2 r hstep ih=>
  obtain⟨i,hi,hbits,hack⟩:=ih
  have inv:=Rea.inv g r
  cases hstep with
  |@cmd n h1 h2 h3 h4=>
   obtain rfl:=next s i n hi hbits h1 h2
   refine⟨n+1,by omega,bits s.D n h1 hbits,?_⟩
   have hcn:=g.cmd n h1
   have htn:=(hs n h1).1
   have hlt:=ackF_lt h b n
   have hcache:=g.cache inv
   have hlen:∀u,RchN h s.O u→0<u.E.length:=fun u q=>((q.pn hcache).len hcache).1
   have ek:(h.at' n).o=((h.at' n).k,(h.at' n).b):=by unfold Cmd.o;rw[if_neg (fun q=>htn q.2)]
   unfold doO
   dsimp only
   have hf:ackF h b (n+1)=if(h.at' n).Puts∧(h.at' n).b=b then((n:Int),decide ((h.at' n).k=2)) else if(h.at' n).k=4 then((ackF h b n).1,true) else ackF h b n:=by
    show(if _ then _ else _)=_
    rw[if_neg h3]
   rw[hf]
   unfold Cmd.Ok at hcn
   by_cases hget:(h.at' n).k=10
   ·have hO:(if(h.at' n).isO=true then s.O++[n] else s.O)=s.O:=if_neg (by rw[Pre.isO_no (.inl hget)];simp)
    rw[hO,if_neg (show ¬((h.at' n).Puts∧(h.at' n).b=b) by unfold Cmd.Puts;omega),if_neg (show ¬(h.at' n).k=4 by omega)]
    exact hack
   ·have hO:(if(h.at' n).isO=true then s.O++[n] else s.O)=s.O++[n]:=if_pos (Pre.isO_of hget (fun q=>htn q.2))
    rw[hO]
    by_cases hp:(h.at' n).Puts∧(h.at' n).b=b
    ·rw[if_pos hp]
     dsimp only
     intro _
     have ho1:(h.at' n).o.1=1∨(h.at' n).o.1=2:=by rw[ek];exact hp.1
     have ho2:(h.at' n).o.2.toNat=b:=by rw[ek];show(h.at' n).b.toNat=b;rw[hp.2];simp
     have hPB:∀u,RchN h (s.O++[n]) u→PB n b u:=RchN_snoc (fun u b' h1 h2 h3=>h3.drain (by omega) hb6 h1 h2) hnn.2.2 fun u q=>PB.puts hb6 (hlen u q) (by omega) ho1 ho2
     refine fun u q=>⟨hPB u q,fun h2=>?_⟩
     have h2:(h.at' n).k=2:=by simpa using h2
     exact RchN_snoc (P:=QB n b) (fun u b' h1 h2 h3=>h3.drain hb6 h1 h2) hnn.2.2 (fun u q=>QB.force hb6 (hlen u q) (by omega) (by rw[ek];exact h2) ho2) u q
    ·rw[if_neg hp]
     have hoth:(h.at' n).o.1=1∨(h.at' n).o.1=2→(h.at' n).o.2.toNat<6∧(h.at' n).o.2.toNat≠b:=by
      rw[ek]
      intro q
      dsimp only at q ⊢
      unfold Cmd.Puts at hp
      omega
     by_cases h44:(h.at' n).k=4
     ·rw[if_pos h44]
      dsimp only
      intro hl0
      have hq:∀u,RchN h (s.O++[n]) u→QB (ackF h b n).1 b u:=RchN_snoc (fun u b' h1 h2 h3=>h3.drain hb6 h1 h2) hnn.2.2 fun u q=>PB.flush hl0 hb6 (hlen u q) (by rw[ek];exact h44) (hack hl0 u q).1
      exact fun u q=>⟨.inr (hq u q),fun _=>hq u q⟩
     ·rw[if_neg h44]
      intro hl0
      refine fun u q=>⟨RchN_snoc (P:=PB _ b) (fun u b' h1 h2 h3=>h3.drain hl0 hb6 h1 h2) hnn.2.2 (fun u q=>PB.other hl0 hb6 (hlen u q) hoth (hack hl0 u q).1) u q,fun h2=>?_⟩
      exact RchN_snoc (P:=QB _ b) (fun u b' h1 h2 h3=>h3.drain hb6 h1 h2) hnn.2.2 (fun u q=>QB.other hb6 (hlen u q) hoth ((hack hl0 u q).2 h2)) u q
  |@fall n im h1 h2 h3 h4=>
   obtain rfl:=next s i n hi hbits h1 h2
   refine⟨n+1,by omega,bits s.D n h1 hbits,fun q=>?_⟩
   have hf:ackF h b (n+1)=(-1,(ackF h b n).2):=if_pos h3
   rw[hf] at q
   dsimp only at q
   omega
theorem Ok.acked (g:h.Ok) (hs:Seq h) {b:Nat} (hb:b<h.nn) (hl:0≤(ackF h b h.l.length).1) (hsure:(ackF h b h.l.length).2=true) {v:Int} (hv:h.fl b v):v=(h.at' (ackF h b h.l.length).1.toNat).v:=by
 obtain⟨s,im,⟨hr,hw⟩,hi,rfl⟩:=hv
 obtain⟨i,hil,hbits,hack⟩:=g.ack hs hb hr
 have inv:=Rea.inv g hr
 have hnn:=g.nn
 have hcache:=g.cache inv
 have hie:i=h.l.length:=by
  rcases a0J hil with q|q
  ·have:=(hbits i q).1 (hw i q (hs i q).1);omega
  ·exact q
 subst hie
 rw[img_iff hcache] at hi
 obtain⟨c,⟨u,h1,h2⟩,rfl⟩:=hi
 have hQ:=(hack hl u ((rchN_iff hcache u).2 h1)).2 hsure
 have hc:c.get b=(ackF h b h.l.length).1:=by
  rcases h2 with rfl|⟨b',h6,_,hc,rfl⟩
  ·exact hQ.1
  ·rw[C6.get_set h6 (by omega),if_neg]
   ·exact hQ.1
   ·rintro rfl
    exact hc.2 (hQ.2 _)
 have e:(C6.first c h.nn).getD b 0=(ackF h b h.l.length).1:=by
  rw[←hc]
  simp[C6.first,a0A,hb]
 rw[e]
 unfold keep1
 rw[if_neg (by omega),if_neg (by omega)]
theorem Ok.img_ex (g:h.Ok) {s:St} (inv:Inv h s):∃im,h.Img s.O im:=by
 have hx:=g.cache inv
 have key:∀k,k≤s.O.length→∃u,PN h s.O k u:=by
  intro k
  induction k with
  |zero=>exact fun _=>⟨_,PN.begin⟩
  |succ k ih=>
   intro hk
   obtain⟨u,hu⟩:=ih (by omega)
   exact⟨_,hu.order hx (by omega)⟩
 obtain⟨u,hu⟩:=key s.O.length (a0U _)
 exact⟨_,(img_iff hx _).2 ⟨u.M,⟨u,hu,.inl rfl⟩,rfl⟩⟩
end Hist
end Ho
end Go.Proofs
namespace Go.Proofs
open Go Go.Sx
set_option maxRecDepth 100000
set_option maxHeartbeats 4000000
namespace Ho
structure Like (h k:Hist):Prop where
 n:k.n=h.n
 len:k.l.length=h.l.length
 kd:∀i,i<h.l.length→(k.at' i).k=(h.at' i).k∧((k.at' i).t=-1↔(h.at' i).t=-1)
 tf:∀i,i<h.l.length→∀j,j<h.l.length→(h.at' j).t≠-1→((k.at' j).t<(k.at' i).f↔(h.at' j).t<(h.at' i).f)
 ff:∀i,i<h.l.length→∀j,j<h.l.length→((k.at' i).f<(k.at' j).f↔(h.at' i).f<(h.at' j).f)
namespace Like
variable {h k:Hist}
theorem nn (e:Like h k):k.nn=h.nn:=by unfold Hist.nn;rw[e.n]
theorem may (e:Like h k) {D i:Nat} (hi:i<h.l.length) (hm:h.May D i):k.May D i:=by
 refine⟨hm.1,fun j hj=>?_⟩
 rw[e.len] at hj
 obtain⟨h1,h2⟩:=hm.2 j hj
 obtain⟨k1,k2⟩:=e.kd j hj
 refine⟨fun a b c=>?_,fun a b c=>h2 a (by rw[←k1];exact b) ((e.ff i hi j hj).1 c)⟩
 have b':(h.at' j).t≠-1:=fun q=>b (k2.2 q)
 exact h1 a b' ((e.tf i hi j hj b').1 c)
theorem whole (e:Like h k) {s s':St} (hD:s'.D=s.D) (w:h.Whole s):k.Whole s':=by
 intro j hj ht
 rw[e.len] at hj
 rw[hD]
 exact w j hj fun q=>ht ((e.kd j hj).2.2 q)
theorem isO (e:Like h k) {i:Nat} (hi:i<h.l.length):(k.at' i).isO=(h.at' i).isO:=by
 obtain⟨k1,k2⟩:=e.kd i hi
 unfold Cmd.isO
 rw[k1]
 have:((k.at' i).t == -1)=((h.at' i).t == -1):=by
  rw[Bool.eq_iff_iff]
  simpa using k2
 rw[this]
end Like
structure Same (h k:Hist):Prop extends Like h k where
 bv:∀i,i<h.l.length→(k.at' i).b=(h.at' i).b∧(k.at' i).v=(h.at' i).v
namespace Same
variable {h k:Hist}
theorem o (e:Same h k) {i:Nat} (hi:i<h.l.length):(k.at' i).o=(h.at' i).o:=by
 obtain⟨k1,k2⟩:=e.kd i hi
 unfold Cmd.o
 rw[k1,(e.bv i hi).1]
 by_cases q:(h.at' i).k=2∧(h.at' i).t=-1
 ·rw[if_pos q,if_pos ⟨q.1,k2.2 q.2⟩]
 ·rw[if_neg q,if_neg (fun g=>q ⟨g.1,k2.1 g.2⟩)]
theorem img (e:Same h k) {O:List Nat} (hO:∀i∈O,i<h.l.length) (im:List Int):k.Img O im↔h.Img O im:=by
 have:k.cache O=h.cache O:=by
  unfold Hist.cache
  rw[e.n,List.map_congr_left fun i hi=>e.o (hO i hi)]
 unfold Hist.Img
 rw[e.nn,this]
theorem puts (e:Same h k) {i:Nat} (hi:i<h.l.length):(k.at' i).Puts↔(h.at' i).Puts:=by unfold Cmd.Puts;rw[(e.kd i hi).1]
theorem resO (e:Same h k) (b z:Int):∀O:List Nat,(∀i∈O,i<h.l.length)→k.resO b z O=h.resO b z O:=by
 refine snoc_ind (fun _=>rfl) fun O i ih hO=>?_
 have hi:=hO i (by simp)
 rw[Hist.resO_snoc,Hist.resO_snoc,ih (fun j hj=>hO j (a1I _ hj)),(e.bv i hi).1,(e.bv i hi).2]
 simp only[e.puts hi]
theorem keep (e:Same h k) {K im:List Int} {O:List Nat} (hO:∀i∈O,i<h.l.length) (hat:∀b,b<h.nn→im.getD b 0=-1∨im.getD b 0=-2∨∃i:Nat,im.getD b 0=i∧i∈O∧(h.at' i).Puts∧(h.at' i).b=b):k.keep K im=h.keep K im:=by
 unfold Hist.keep
 rw[e.nn]
 refine List.map_congr_left fun b hb=>?_
 rw[a1D] at hb
 unfold Hist.keep1
 rcases hat b hb with g|g|⟨i,g,hi,hp,_⟩
 ·rw[g];rfl
 ·rw[g];rfl
 ·rw[g,if_neg (by omega),if_neg (by omega),if_neg (by omega),if_neg (by omega),a1N,(e.bv i (hO i hi)).2]
theorem rea (e:Same h k) (g:h.Ok) {s:St} (r:h.Rea s):k.Rea s:=by
 induction r with
 |begin=>
  have:h.st0=k.st0:=by unfold Hist.st0;rw[e.nn]
  rw[this];exact .begin
 |@step s s2 r hs ih=>
  have inv:=Hist.Rea.inv g r
  refine .step ih ?_
  cases hs with
  |@cmd i h1 h2 h3 h4=>
   have:h.doO s i=k.doO s i:=by unfold Hist.doO;rw[e.isO h1]
   rw[this]
   refine .cmd (by rw[e.len];exact h1) (e.may h1 h2) (by rw[(e.kd i h1).1];exact h3) ?_
   intro hk
   rw[(e.kd i h1).1] at hk
   obtain⟨g1,g2⟩:=h4 hk
   rw[(e.bv i h1).1,(e.bv i h1).2]
   refine⟨fun q=>g1 ((e.kd i h1).2.1 q),?_⟩
   rw[←g2]
   exact e.resO _ _ s.O fun j hj=>(inv.O j hj).1
  |@fall i im h1 h2 h3 h4=>
   have hO:∀j∈s.O,j<h.l.length:=fun j hj=>(inv.O j hj).1
   have:h.fall s i im=k.fall s i im:=by
    unfold Hist.fall
    rw[e.keep hO fun b hb=>Hist.Img.at g inv h4 hb]
   rw[this]
   exact .fall (by rw[e.len];exact h1) (e.may h1 h2) (by rw[(e.kd i h1).1];exact h3) ((e.img hO im).2 h4)
theorem ends (e:Same h k) (g:h.Ok) {s:St} (hs:h.End s):k.End s:=⟨e.rea g hs.1,e.whole rfl hs.2⟩
theorem symm (e:Same h k):Same k h:=by
 refine⟨⟨e.n.symm,e.len.symm,fun i hi=>?_,fun i hi j hj ht=>?_,fun i hi j hj=>?_⟩,fun i hi=>?_⟩<;>rw[e.len] at hi
 ·exact⟨(e.kd i hi).1.symm,(e.kd i hi).2.symm⟩
 ·rw[e.len] at hj
  exact(e.tf i hi j hj fun q=>ht ((e.kd j hj).2.2 q)).symm
 ·rw[e.len] at hj
  exact(e.ff i hi j hj).symm
 ·exact⟨(e.bv i hi).1.symm,(e.bv i hi).2.symm⟩
theorem rd (e:Same h k) (g:h.Ok) (gk:k.Ok) (b:Nat) (v:Int):k.rd b v↔h.rd b v:=by
 constructor
 ·rintro⟨s,hs,hv⟩
  refine⟨s,e.symm.ends gk hs,?_⟩
  rw[←hv]
  exact e.symm.resO _ _ s.O fun j hj=>((Hist.Rea.inv gk hs.1).O j hj).1
 ·rintro⟨s,hs,hv⟩
  refine⟨s,e.ends g hs,?_⟩
  rw[←hv]
  exact e.resO _ _ s.O fun j hj=>((Hist.Rea.inv g hs.1).O j hj).1
end Same
namespace Hist
variable {h:Hist}
theorem Ok.lie_uniq (g:h.Ok) {n m:Int} (hn:isLie h n) (hm:isLie h m):n=m:=by
 rcases hn with⟨h1,rfl⟩|⟨h1,i,hi,rfl,a1,a2,a3⟩
 ·rcases hm with⟨_,rfl⟩|⟨h2,_⟩
  ·rfl
  ·exact absurd h1 h2
 ·rcases hm with⟨h2,_⟩|⟨_,j,hj,rfl,b1,b2,b3⟩
  ·exact absurd h2 h1
  ·have e:(h.at' i).t=(h.at' j).t:=by
    have c1:¬(h.at' i).t<(h.at' j).t:=fun q=>a2 (b3 i hi a1 q)
    have c2:¬(h.at' j).t<(h.at' i).t:=fun q=>b2 (a3 j hj b1 q)
    omega
   by_cases hij:j=i
   ·rw[hij]
   ·have:=g.two i hi j hj hij
    unfold Cmd.Bad at this
    simp only[not_or,not_and] at this
    exact absurd e (this.2.2.1 a1)
end Hist
end Ho
end Go.Proofs
namespace Go.Proofs
open Go Go.Sx
set_option maxRecDepth 100000
set_option maxHeartbeats 4000000
namespace Ho
def sg (b:Nat):Nat:=if b=0 then 1 else if b=1 then 0 else b
end Ho
namespace PS
open Ho
end PS
namespace Ho
namespace Hist
variable {h:Hist}
end Hist
end Ho
end Go.Proofs
namespace Go.Proofs
open Go Go.Sx
set_option maxRecDepth 100000
set_option maxHeartbeats 4000000
namespace Ho
inductive SR where
 |root
 |node (s:St) (b:SR) (cmd:Nat) (im:Option C6)
namespace SR
variable (h:Hist)
def st:SR→St
 |root=>h.st0
 |node s _ _ _=>s
def Good:SR→Prop
 |root=>True
 |node s b cmd im=>b.Good∧cmd<h.l.length∧h.May (b.st h).D cmd∧
  (((h.at' cmd).k≠9∧im=none∧h.Fit (b.st h) cmd∧s=h.doO (b.st h) cmd)∨((h.at' cmd).k=9∧∃c,im=some c∧PosN h (b.st h).O c∧s=h.fall (b.st h) cmd (C6.first c h.nn)))
end SR
section
variable {h:Hist}
theorem SR.Good.rea (g:h.Ok):∀{r:SR},r.Good h→h.Rea (r.st h)
 |.root,_=>.begin
 |.node s b cmd im,hr=>by
  obtain⟨hb,hc,hm,hs⟩:=hr
  have hrb:=SR.Good.rea g hb
  have inv:=Hist.Rea.inv g hrb
  rcases hs with⟨h9,_,hf,rfl⟩|⟨h9,c,_,hp,rfl⟩
  ·exact .step hrb (.cmd hc hm h9 hf)
  ·exact .step hrb (.fall hc hm h9 ((img_iff (g.cache inv) _).2 ⟨c,hp,rfl⟩))
theorem St.ext' {s t:St} (h1:s.D=t.D) (h2:s.O=t.O) (h3:s.K=t.K):s=t:=by
 obtain⟨a,b,c⟩:=s
 obtain⟨a',b',c'⟩:=t
 dsimp only at h1 h2 h3
 subst h1 h2 h3
 rfl
def stK (s:St):List Int:=[(s.D:Int),(s.O.length:Int),(s.O.getD 0 0:Nat),(s.O.getD 1 0:Nat),(s.O.getD 2 0:Nat),(s.O.getD 3 0:Nat),(s.O.getD 4 0:Nat),(s.O.getD 5 0:Nat),(s.O.getD 6 0:Nat),(s.O.getD 7 0:Nat),(s.O.getD 8 0:Nat),(s.O.getD 9 0:Nat),
 s.K.getD 0 0,s.K.getD 1 0,s.K.getD 2 0,s.K.getD 3 0,s.K.getD 4 0,s.K.getD 5 0]
theorem stK_inj {s t:St} (hs:Inv h s) (ht:Inv h t) (g:h.Ok) (e:stK s=stK t):s=t:=by
 unfold stK at e
 simp only[List.cons.injEq,and_true] at e
 obtain⟨h4,h5,o0,o1,o2,o3,o4,o5,o6,o7,o8,o9,k0,k1,k2,k3,k4,k5⟩:=e
 have hO:∀i,i<10→((s.O.getD i 0:Nat):Int)=(t.O.getD i 0:Nat):=fun i hi=>by
  have:i=0∨i=1∨i=2∨i=3∨i=4∨i=5∨i=6∨i=7∨i=8∨i=9:=by omega
  rcases this with rfl|rfl|rfl|rfl|rfl|rfl|rfl|rfl|rfl|rfl<;>assumption
 have hK:∀i,i<6→s.K.getD i 0=t.K.getD i 0:=fun i hi=>by
  have:i=0∨i=1∨i=2∨i=3∨i=4∨i=5:=by omega
  rcases this with rfl|rfl|rfl|rfl|rfl|rfl<;>assumption
 have hlen:∀{s:St},Inv h s→s.O.length≤10:=fun hi=>by
  have:=a1O hi.nd (l₂:=List.range h.l.length) (fun i hi'=>a1D.2 (hi.O i hi').1)
  have:=g.len
  rw[List.length_range] at *
  omega
 have ls:=hlen hs
 have hnn:=g.nn
 refine St.ext' (by omega) (a1U (by omega) fun i a b=>?_) (a1U (by rw[hs.len,ht.len]) fun i a b=>?_)
 ·have:=hO i (by omega)
  rw[a0A,a0D a,a0A,a0D b] at this
  exact Int.ofNat.inj (by simpa using this)
 ·have:=hK i (by have:=hs.len;omega)
  rw[a0A,a0D a,a0A,a0D b] at this
  simpa using this
def codeO:List Nat→Nat
 |[]=>0
 |a :: l=>(a+1)+7*codeO l
theorem codeO_lt:∀l:List Nat,(∀a∈l,a<6)→codeO l<7 ^ l.length
 |[],_=>by simp[codeO]
 |a :: l,h=>by
  have h1:=codeO_lt l fun x hx=>h x (a1X _ hx)
  have h2:=h a (a2U ..)
  rw[a0I,Nat.pow_succ]
  unfold codeO
  omega
theorem codeO_inj:∀l m:List Nat,(∀a∈l,a<6)→(∀a∈m,a<6)→codeO l=codeO m→l=m
 |[],[],_,_,_=>rfl
 |[],b :: m,_,hm,e=>by unfold codeO at e;omega
 |a :: l,[],_,_,e=>by unfold codeO at e;omega
 |a :: l,b :: m,hl,hm,e=>by
  have h1:=hl a (a2U ..)
  have h2:=hm b (a2U ..)
  simp only[codeO] at e
  have e1:a=b:=by omega
  have e2:codeO l=codeO m:=by omega
  rw[e1,codeO_inj l m (fun x hx=>hl x (a1X _ hx)) (fun x hx=>hm x (a1X _ hx)) e2]
def KV (h:Hist) (v:Int):Prop:=v=0∨v=-1∨∃i,i<h.l.length∧v=(h.at' i).v
theorem Hist.Rea.kv (g:h.Ok) {s:St} (r:h.Rea s):∀b,KV h (s.K.getD b 0):=by
 induction r with
 |begin=>
  intro b
  left
  show(List.replicate h.nn (0:Int)).getD b 0=0
  rw[a0A,List.getElem?_replicate]
  split<;>rfl
 |@step s s2 r hs ih=>
  have inv:=Hist.Rea.inv g r
  cases hs with
  |cmd=>exact ih
  |@fall i im h1 h2 h3 h4=>
   intro b
   rcases a1B b h.nn with hb|hb
   ·show KV h ((h.keep s.K im).getD b 0)
    rw[Hist.keep_at hb]
    unfold Hist.keep1
    rcases Hist.Img.at g inv h4 hb with e|e|⟨q,e,hq,_⟩
    ·rw[e,if_pos rfl];exact ih b
    ·rw[e,if_neg (by omega),if_pos rfl];exact .inr (.inl rfl)
    ·rw[e,if_neg (by omega),if_neg (by omega)]
     exact .inr (.inr ⟨q,(inv.O q hq).1,by simp⟩)
   ·left
    show(h.keep s.K im).getD b 0=0
    rw[a0A,a0P (by rw[Hist.keep_len];exact hb)]
    rfl
def kc (h:Hist) (v:Int):Nat:=if v=0 then 6 else if v=-1 then 7 else h.l.findIdx fun c=>decide (c.v=v)
theorem kc_find {v:Int} (hv:∃i,i<h.l.length∧v=(h.at' i).v):∃hi:(h.l.findIdx fun c=>decide (c.v=v))<h.l.length,(h.l[h.l.findIdx fun c=>decide (c.v=v)]'hi).v=v:=by
 obtain⟨i,hi,rfl⟩:=hv
 have e:h.at' i=h.l[i]:=by unfold Hist.at';simp[List.getD_eq_getElem?_getD,hi]
 have h1:(h.l.findIdx fun c=>decide (c.v=(h.at' i).v))<h.l.length:=List.findIdx_lt_length.2 ⟨h.l[i],a1F hi,by rw[e];simp⟩
 refine⟨h1,?_⟩
 have:=List.findIdx_getElem (w:=h1)
 simpa using this
theorem kc_lt (hl:h.l.length≤6) {v:Int} (hv:KV h v):kc h v<8:=by
 unfold kc
 split
 ·omega
 ·split
  ·omega
  ·rename_i h1 h2
   rcases hv with q|q|q
   ·exact absurd q h1
   ·exact absurd q h2
   ·obtain⟨h3,_⟩:=kc_find q
    omega
theorem kc_inj (hl:h.l.length≤6) {v w:Int} (hv:KV h v) (hw:KV h w) (e:kc h v=kc h w):v=w:=by
 have key:∀{v:Int},KV h v→v≠0→v≠-1→∃i:Nat,i<6∧kc h v=i∧(h.at' i).v=v:=fun {v} hv h1 h2=>by
  obtain⟨h3,h4⟩:=kc_find ((hv.resolve_left h1).resolve_left h2)
  refine⟨h.l.findIdx fun c=>decide (c.v=v),by omega,by unfold kc;rw[if_neg h1,if_neg h2],?_⟩
  unfold Hist.at'
  rw[a0A,a0D h3]
  exact h4
 have z:kc h 0=6:=rfl
 have m:kc h (-1)=7:=rfl
 by_cases v0:v=0
 ·subst v0
  by_cases w0:w=0
  ·exact w0.symm
  ·by_cases w1:w=-1
   ·subst w1;omega
   ·obtain⟨i,h1,h2,_⟩:=key hw w0 w1;omega
 ·by_cases v1:v=-1
  ·subst v1
   by_cases w0:w=0
   ·subst w0;omega
   ·by_cases w1:w=-1
    ·exact w1.symm
    ·obtain⟨i,h1,h2,_⟩:=key hw w0 w1;omega
  ·obtain⟨i,h1,h2,h3⟩:=key hv v0 v1
   by_cases w0:w=0
   ·subst w0;omega
   ·by_cases w1:w=-1
    ·subst w1;omega
    ·obtain⟨j,k1,k2,k3⟩:=key hw w0 w1
     have:i=j:=by omega
     rw[←h3,←k3,this]
def stN (h:Hist) (s:St):Nat:=s.D+64*(codeO s.O+117649*(kc h (s.K.getD 0 0)+8*kc h (s.K.getD 1 0)))
def CAP:Nat:=481890304
theorem stN_lt (hl:h.l.length≤6) {s:St} (hi:Inv h s) (hk:∀b,KV h (s.K.getD b 0)):stN h s<CAP:=by
 have hO6:∀a∈s.O,a<6:=fun a ha=>by have:=(hi.O a ha).1;omega
 have hlen:s.O.length≤6:=by
  have:=a1O hi.nd (l₂:=List.range 6) (fun i hi'=>a1D.2 (hO6 i hi'))
  simpa using this
 have h1:=codeO_lt s.O hO6
 have h2:7 ^ s.O.length≤7 ^ 6:=a3L (by omega) hlen
 have hD:s.D<64:=by
  have:2 ^ h.l.length≤2 ^ 6:=a3L (by omega) hl
  have:=hi.D
  omega
 have k0:=kc_lt hl (hk 0)
 have k1:=kc_lt hl (hk 1)
 unfold stN CAP
 omega
theorem stN_inj (g:h.Ok) (hn:h.n≤2) (hl:h.l.length≤6) {s t:St} (hs:Inv h s) (ht:Inv h t) (ks:∀b,KV h (s.K.getD b 0)) (kt:∀b,KV h (t.K.getD b 0)) (e:stN h s=stN h t):s=t:=by
 have hO6:∀{s:St},Inv h s→∀a∈s.O,a<6:=fun hi a ha=>by have:=(hi.O a ha).1;omega
 have hlen:∀{s:St},Inv h s→s.O.length≤6:=fun {s} hi=>by
  have:=a1O hi.nd (l₂:=List.range 6) (fun i hi'=>a1D.2 (hO6 hi i hi'))
  simpa using this
 have hD:∀{s:St},Inv h s→s.D<64:=fun hi=>by
  have:2 ^ h.l.length≤2 ^ 6:=a3L (by omega) hl
  have:=hi.D
  omega
 have hnn:=g.nn
 have c1:=codeO_lt s.O (hO6 hs)
 have c2:=codeO_lt t.O (hO6 ht)
 have p1:7 ^ s.O.length≤7 ^ 6:=a3L (by omega) (hlen hs)
 have p2:7 ^ t.O.length≤7 ^ 6:=a3L (by omega) (hlen ht)
 have d1:=hD hs
 have d2:=hD ht
 have a0:=kc_lt hl (ks 0)
 have a1:=kc_lt hl (ks 1)
 have b0:=kc_lt hl (kt 0)
 have b1:=kc_lt hl (kt 1)
 unfold stN at e
 have eD:s.D=t.D:=by omega
 have eO:codeO s.O=codeO t.O:=by omega
 have e0:=kc_inj hl (ks 0) (kt 0) (by omega)
 have e1:=kc_inj hl (ks 1) (kt 1) (by omega)
 refine St.ext' eD (codeO_inj _ _ (hO6 hs) (hO6 ht) eO) (a1U (by rw[hs.len,ht.len]) fun i a b=>?_)
 have hi:i=0∨i=1:=by have:=hs.len;omega
 have key:s.K.getD i 0=t.K.getD i 0:=by rcases hi with rfl|rfl<;>assumption
 rw[a0A,a0D a,a0A,a0D b] at key
 simpa using key
structure SInv (h:Hist) (l:List SR) (i:Nat):Prop where
 good:∀r∈l,r.Good h
 nd:(l.map fun r=>stK (r.st h)).Nodup
 rt:stK h.st0∈l.map fun r=>stK (r.st h)
 le:i≤l.length
 cl:∀j,j<i→∀s,h.Step ((l.getD j .root).st h) s→stK s∈l.map fun r=>stK (r.st h)
theorem SInv.cap (g:h.Ok) (hn:h.n≤2) (hl:h.l.length≤6) {l:List SR} (hg:∀r∈l,r.Good h) (hnd:(l.map fun r=>stK (r.st h)).Nodup):l.length≤CAP:=by
 have h1:(l.map fun r=>stN h (r.st h)).Nodup:=by
  rw[List.Nodup,a1P] at hnd ⊢
  refine a3H ?_ hnd
  intro a b ha hb hne hc
  refine hne ?_
  rw[stN_inj g hn hl (Hist.Rea.inv g ((hg a ha).rea g)) (Hist.Rea.inv g ((hg b hb).rea g)) (((hg a ha).rea g).kv g) (((hg b hb).rea g).kv g) hc]
 have:=a1p (m:=List.range CAP) h1 (fun c hc=>by
  obtain⟨r,hr,rfl⟩:=a1C.1 hc
  exact a1D.2 (stN_lt hl (Hist.Rea.inv g ((hg r hr).rea g)) (((hg r hr).rea g).kv g)))
 simpa using this
theorem SInv.all (g:h.Ok) {l:List SR} (hi:SInv h l l.length) {s:St} (hr:h.Rea s):∃r∈l,r.st h=s:=by
 have key:stK s∈l.map fun r=>stK (r.st h):=by
  induction hr with
  |begin=>exact hi.rt
  |@step s s2 hr hs ih=>
   obtain⟨r,h1,h2⟩:=a1C.1 ih
   have h3:r.st h=s:=stK_inj (Hist.Rea.inv g ((hi.good r h1).rea g)) (Hist.Rea.inv g hr) g h2
   obtain⟨j,hj,rfl⟩:=a1G h1
   refine hi.cl j hj s2 ?_
   have e:l.getD j .root=l[j]:=by simp[a0A,hj]
   rw[e,h3]
   exact hs
 obtain⟨r,h1,h2⟩:=a1C.1 key
 exact⟨r,h1,stK_inj (Hist.Rea.inv g ((hi.good r h1).rea g)) (Hist.Rea.inv g hr) g h2⟩
theorem SInv.one (h:Hist):SInv h [.root] 0:=⟨fun r hr=>by rw[a0L.1 hr];trivial,by simp,by simp[SR.st],by simp,fun j hj=>by omega⟩
theorem SInv.new {l:List SR} {i:Nat} (hi:SInv h l i) {r:SR} (hr:r.Good h) (hn:stK (r.st h)∉l.map fun r=>stK (r.st h)):SInv h (l++[r]) i:=by
 refine⟨fun x hx=>?_,?_,?_,?_,fun j hj s hs=>?_⟩
 ·rcases a0M.1 hx with q|q
  ·exact hi.good x q
  ·rw[a0L.1 q];exact hr
 ·rw[a1L,a2N]
  refine⟨hi.nd,by simp,fun a ha b hb=>?_⟩
  simp only[a1Q,a3G,a0L] at hb
  subst hb
  rintro rfl
  exact hn ha
 ·rw[a1L]
  exact a1I _ hi.rt
 ·rw[a0F]
  have:=hi.le
  omega
 ·have hjl:j<l.length:=by have:=hi.le;omega
  have e:(l++[r]).getD j .root=l.getD j .root:=by simp[a0A,a0E hjl]
  rw[e] at hs
  rw[a1L]
  exact a1I _ (hi.cl j hj s hs)
def StepI (h:Hist) (s:St) (i:Nat) (t:St):Prop:=h.May s.D i∧((h.at' i).k≠9∧h.Fit s i∧t=h.doO s i∨(h.at' i).k=9∧∃im,h.Img s.O im∧t=h.fall s i im)
theorem step_iff {s t:St}:h.Step s t↔∃i,i<h.l.length∧StepI h s i t:=by
 constructor
 ·rintro(⟨h1,h2,h3,h4⟩|⟨h1,h2,h3,h4⟩)
  ·exact⟨_,h1,h2,.inl ⟨h3,h4,rfl⟩⟩
  ·exact⟨_,h1,h2,.inr ⟨h3,_,h4,rfl⟩⟩
 ·rintro⟨i,h1,h2,⟨h3,h4,rfl⟩|⟨h3,im,h4,rfl⟩⟩
  ·exact .cmd h1 h2 h3 h4
  ·exact .fall h1 h2 h3 h4
structure NextL (h:Hist) (r:SR) (k:Nat) (L:List SR):Prop where
 good:∀x∈L,x.Good h
 all:∀i,i<k→∀t,StepI h (r.st h) i t→∃x∈L,x.st h=t
 len:L.length≤600001*k
theorem NextL.nil (h:Hist) (r:SR):NextL h r 0 []:=⟨fun _ hx=>(List.not_mem_nil hx).elim,fun i hi=>(Nat.not_lt_zero i hi).elim,a2A _⟩
theorem NextL.skip {r:SR} {k:Nat} {L:List SR} (hn:NextL h r k L) (hs:∀t,¬StepI h (r.st h) k t):NextL h r (k+1) L:=
 ⟨hn.good,fun i hi t ht=>by
  rcases a0J (show i≤k by omega) with q|rfl
  ·exact hn.all i q t ht
  ·exact absurd ht (hs t),a2X hn.len (a3E _ (Nat.le_succ _))⟩
theorem NextL.more {r:SR} {k:Nat} {L M:List SR} (hn:NextL h r k L) (hg:∀x∈M,x.Good h) (hs:∀t,StepI h (r.st h) k t→∃x∈M,x.st h=t) (hl:M.length≤600001):NextL h r (k+1) (L++M):=
 ⟨fun x hx=>(a0M.1 hx).elim (hn.good x) (hg x),fun i hi t ht=>by
  rcases a0J (show i≤k by omega) with q|rfl
  ·obtain⟨x,hx,e⟩:=hn.all i q t ht
   exact⟨x,a1I _ hx,e⟩
  ·obtain⟨x,hx,e⟩:=hs t ht
   exact⟨x,List.mem_append_right _ hx,e⟩,by rw[a0F,Nat.mul_succ];exact Nat.add_le_add hn.len hl⟩
structure SInn (h:Hist) (l:List SR) (i:Nat) (N:List SR) (j:Nat):Prop where
 inv:SInv h l i
 le:j≤N.length
 seen:∀m,m<j→stK ((N.getD m .root).st h)∈l.map fun r=>stK (r.st h)
theorem SInn.begin {l:List SR} {i:Nat} (hi:SInv h l i) (N:List SR):SInn h l i N 0:=⟨hi,by omega,fun m hm=>by omega⟩
theorem SInn.old {l N:List SR} {i j:Nat} (s:SInn h l i N j) (hj:j<N.length) (hk:stK ((N.getD j .root).st h)∈l.map fun r=>stK (r.st h)):SInn h l i N (j+1):=
 ⟨s.inv,by omega,fun m hm=>by
  rcases a0J (show m≤j by omega) with q|rfl
  ·exact s.seen m q
  ·exact hk⟩
theorem SInn.new {l N:List SR} {i j:Nat} (s:SInn h l i N j) (hj:j<N.length) (hg:∀x∈N,x.Good h) (hk:stK ((N.getD j .root).st h)∉l.map fun r=>stK (r.st h)):SInn h (l++[N.getD j .root]) i N (j+1):=
 ⟨s.inv.new (hg _ (by
  rw[a0A,a0D hj]
  exact a1F hj)) hk,by omega,fun m hm=>by
  rw[a1L]
  rcases a0J (show m≤j by omega) with q|rfl
  ·exact a1I _ (s.seen m q)
  ·exact List.mem_append_right _ (by simp)⟩
theorem SInn.done {l N:List SR} {i:Nat} (hil:i<l.length) (hN:NextL h (l.getD i .root) h.l.length N) (s:SInn h l i N N.length):SInv h l (i+1):=
 ⟨s.inv.good,s.inv.nd,s.inv.rt,hil,fun j hj t ht=>by
  rcases a0J (show j≤i by omega) with q|rfl
  ·exact s.inv.cl j q t ht
  ·obtain⟨c,h1,h2⟩:=step_iff.1 ht
   obtain⟨x,hx,rfl⟩:=hN.all c h1 t h2
   obtain⟨m,hm,rfl⟩:=a1G hx
   have:=s.seen m hm
   rwa [a0A,a0D hm] at this⟩
end
end Ho
end Go.Proofs
namespace Go.Proofs
open Go Go.Sx
set_option maxRecDepth 100000
set_option maxHeartbeats 4000000
namespace Ho
section
variable {h:Hist}
def allN (h:Hist):Nat→Nat
 |0=>0
 |i+1=>if(h.at' i).t=-1 then allN h i else allN h i ||| 1 <<< i
theorem allN_bit (h:Hist):∀k j,(allN h k).testBit j=true↔j<k∧(h.at' j).t≠-1
 |0,j=>by simp[allN]
 |k+1,j=>by
  unfold allN
  split
  ·rename_i e
   rw[allN_bit h k j]
   constructor
   ·rintro⟨a,b⟩;exact⟨by omega,b⟩
   ·rintro⟨a,b⟩
    refine⟨?_,b⟩
    rcases a0J (show j≤k by omega) with q|rfl
    ·exact q
    ·exact absurd e b
  ·rename_i e
   rw[Hist.bit_or,a2P,allN_bit h k j,decide_eq_true_iff]
   constructor
   ·rintro(⟨a,b⟩|rfl)
    ·exact⟨by omega,b⟩
    ·exact⟨by omega,e⟩
   ·rintro⟨a,b⟩
    rcases a0J (show j≤k by omega) with q|rfl
    ·exact .inl ⟨q,b⟩
    ·exact .inr rfl
theorem allN_lt (h:Hist) (hl:h.l.length≤6):∀k,k≤h.l.length→allN h k<64
 |0,_=>by simp[allN]
 |k+1,hk=>by
  have:=allN_lt h hl k (by omega)
  unfold allN
  split
  ·exact this
  ·exact Hist.bit_lt (n:=6) this (by omega)
theorem whole_iff {s:St}:h.Whole s↔s.D &&& allN h h.l.length=allN h h.l.length:=by
 constructor
 ·intro w
  apply Nat.eq_of_testBit_eq
  intro j
  rw[Nat.testBit_and]
  cases e:(allN h h.l.length).testBit j with
  |false=>simp
  |true=>
   obtain⟨a,b⟩:=(allN_bit h _ j).1 e
   rw[w j a b]
   rfl
 ·intro e i hi ht
  have h1:(allN h h.l.length).testBit i=true:=(allN_bit h _ i).2 ⟨hi,ht⟩
  rw[←e,Nat.testBit_and] at h1
  exact(Bool.and_eq_true_iff.1 h1).1
open Classical in
noncomputable def outL (h:Hist) (L:List SR):List SR:=L.filter fun r=>decide (h.Whole (r.st h))
theorem outL_yes {L:List SR} {r:SR} (hw:h.Whole (r.st h)):outL h (L++[r])=outL h L++[r]:=by
 unfold outL
 rw[a2J]
 simp[hw]
theorem outL_no {L:List SR} {r:SR} (hw:¬h.Whole (r.st h)):outL h (L++[r])=outL h L:=by
 unfold outL
 rw[a2J]
 simp[hw]
theorem outL_len (L:List SR):(outL h L).length≤L.length:=List.length_filter_le ..
structure EndL (h:Hist) (L:List SR):Prop where
 good:∀r∈L,r.Good h
 ends : ∀ s, h.End s ↔ ∃ r ∈ L, r.st h = s
 len:L.length≤481890304
theorem SInv.out (g:h.Ok) (hn:h.n≤2) (hl:h.l.length≤6) {l:List SR} (hi:SInv h l l.length):EndL h (outL h l):=by
 refine⟨fun r hr=>hi.good r (a3R.1 hr).1,fun s=>⟨fun⟨h1,h2⟩=>?_,?_⟩,a2X (outL_len l) (SInv.cap g hn hl hi.good hi.nd)⟩
 ·obtain⟨r,h3,rfl⟩:=hi.all g h1
  exact⟨r,List.mem_filter.2 ⟨h3,by simpa using h2⟩,rfl⟩
 ·rintro⟨r,hr,rfl⟩
  obtain⟨h1,h2⟩:=a3R.1 hr
  exact⟨(hi.good r h1).rea g,by simpa using h2⟩
end
end Ho
end Go.Proofs
namespace Go.Proofs
open Go Go.Sx
set_option maxRecDepth 100000
set_option maxHeartbeats 40000000
namespace Ho
def intC (n:Int):List V:=[.int .i64 n]
structure DD (m:List Int) (j:Nat) (D:List Int):Prop where
 asc:D.Pairwise (·<·)
 mem:∀x,x∈D↔x∈m.take j
 len:D.length≤j
theorem DD.le {m:List Int} {j:Nat} {D:List Int} (h:DD m j D) (hs:m.Pairwise (·≤·)) (hj:j<m.length):∀x∈D,x≤m.getD j 0:=by
 intro x hx
 obtain⟨i,hi,rfl⟩:=a1G ((h.mem x).1 hx)
 rw[a0V] at hi
 rw[List.getElem_take,a0A,a0D hj]
 exact a2C.1 hs i j (by omega) hj (by omega)
theorem DD.same {m:List Int} {j:Nat} {D:List Int} (h:DD m j D) (hj:j<m.length) (h0:0<j) (he:m.getD j 0=m.getD (j-1) 0):DD m (j+1) D:=by
 refine⟨h.asc,fun x=>?_,by have:=h.len;omega⟩
 rw[h.mem,a1H hj,a0M]
 refine⟨.inl,fun g=>g.elim id fun g=>?_⟩
 have e1:m[j]=m.getD j 0:=by simp[a0A,hj]
 have e2:m.getD (j-1) 0=m[j-1]:=by simp[a0A,show j-1<m.length by omega]
 rw[a0L.1 g,e1,he,e2]
 exact List.mem_take_iff_getElem.2 ⟨j-1,by omega,rfl⟩
theorem DD.new {m:List Int} {j:Nat} {D:List Int} (h:DD m j D) (hs:m.Pairwise (·≤·)) (hj:j<m.length) (he:0<j→m.getD j 0≠m.getD (j-1) 0):DD m (j+1) (D++[m.getD j 0]):=by
 refine⟨List.pairwise_append.2 ⟨h.asc,by simp,fun a ha b hb=>?_⟩,fun x=>?_,by have:=h.len;rw[a0F,a1A];omega⟩
 ·rw[a0L] at hb
  subst hb
  have h1:=h.le hs hj a ha
  obtain⟨i,hi,rfl⟩:=a1G ((h.mem a).1 ha)
  rw[a0V] at hi
  rw[List.getElem_take] at h1 ⊢
  have h0:0<j:=by omega
  have e2:m.getD (j-1) 0=m[j-1]:=by simp[a0A,show j-1<m.length by omega]
  have e1:m.getD j 0=m[j]:=by simp[a0A,hj]
  have h2:=he h0
  have h3:m[i]≤m[j-1]:=by
   rcases a0J (show i≤j-1 by omega) with q|q
   ·exact a2C.1 hs i (j-1) (by omega) (by omega) q
   ·simp only[q];omega
  have h4:m[j-1]≤m[j]:=a2C.1 hs (j-1) j (by omega) hj (by omega)
  omega
 ·have e1:m[j]=m.getD j 0:=by simp[a0A,hj]
  rw[a1H hj,a0M,a0M,h.mem,e1]
theorem DD.begin {m:List Int} (hm:0<m.length):DD m 1 [m.getD 0 0]:=by
 cases m with
 |nil=>simp at hm
 |cons a m=>exact⟨by simp,fun x=>by simp,by simp⟩
theorem asc_unique:∀{l m:List Int},l.Pairwise (·<·)→m.Pairwise (·<·)→(∀x,x∈l↔x∈m)→l=m
 |[],[],_,_,_=>rfl
 |[],b :: m,_,_,h=>absurd ((h b).2 (by simp)) (by simp)
 |a :: l,[],_,_,h=>absurd ((h a).1 (by simp)) (by simp)
 |a :: l,b :: m,h1,h2,h=>by
  rw[List.pairwise_cons] at h1 h2
  have hab:a=b:=by
   have ha:=(h a).1 (by simp)
   have hb:=(h b).2 (by simp)
   rcases a0O.1 ha with e|ha
   ·exact e
   rcases a0O.1 hb with e|hb
   ·exact e.symm
   have:=h1.1 b hb
   have:=h2.1 a ha
   omega
  subst hab
  rw[asc_unique h1.2 h2.2 fun x=>?_]
  have:=h x
  rw[a0O,a0O] at this
  constructor
  ·intro hx
   have h3:=h1.1 x hx
   exact(this.1 (.inr hx)).resolve_left (by omega)
  ·intro hx
   have h3:=h2.1 x hx
   exact(this.2 (.inr hx)).resolve_left (by omega)
def cpF (m D:List Int) (i:Nat):Int:=if i<D.length then D.getD i 0 else m.getD i 0
theorem cpF_start (m:List Int) (k:Nat) (hk:k≤m.length) (i:Nat):cpF m (m.take k) i=m.getD i 0:=by
 unfold cpF
 split
 ·rename_i h
  rw[a0V] at h
  simp[a0A,a3S (show i<k by omega)]
 ·rfl
theorem cpF_push (m D:List Int) (x:Int) (i:Nat):cpF m (D++[x]) i=if i=D.length then x else cpF m D i:=by
 unfold cpF
 rw[a0F,a1A]
 by_cases e:i=D.length
 ·subst e
  rw[if_pos (by omega),if_pos rfl]
  simp[a0A]
 ·rw[if_neg e]
  by_cases q:i<D.length
  ·rw[if_pos q,if_pos (by omega)]
   simp[a0A,a0E q]
  ·rw[if_neg q,if_neg (by omega)]
theorem cpF_hi {m D:List Int} {i:Nat} (h:D.length≤i):cpF m D i=m.getD i 0:=if_neg (by omega)
theorem cpF_lo {m D:List Int} {i:Nat} (h:i<D.length):cpF m D i=D.getD i 0:=if_pos h
theorem compact46 (m:List Int) (hs:m.Pairwise (·≤·)) (hm:0<m.length) (hl:m.length≤1000000000000000000) :
  Sx.Callee Tryz.prog 82 [.osl 0 m.length] [.row 3 1 m.length (a0u intC 0 m) true] (fun v H=>∃D,DD m m.length D∧v=.sl 1 D.length (a0u intC 0 D)∧H=[.gone]):=by
 refine callee_ent Tryz.E_ok Tryz.func82 rfl (by kernel_rfl) ?_
 (repeat' ((conv=>whnf);first|(with_reducible first|apply spl|apply spl'|refine iJ ?_)<;>intro hc<;>try(exfalso;omega)|refine vcq ?_|refine dr 10 ?_));all_goals(try conv=>whnf);try exact trivial
 ·refine⟨_,_,⟨m,?_,rfl,rfl⟩,some [some 0],?_⟩
  ·have h1:m.length=1:=by omega
   cases m with
   |nil=>simp at hm
   |cons a m=>
    obtain rfl:m=[]:=List.length_eq_zero_iff.1 (by simpa using h1)
    exact DD.begin hm
  ·exact xc20
 ·refine⟨Nat,fun k=>0<k∧k≤m.length∧DD m k (m.take k),fun k=>m.length-k,fun k=>[(3,.int .i64 (k:Nat))],fun _=>[],fun _=>[],1,⟨⟨by omega,by omega,?_⟩,some [some 0],?_⟩,?_⟩
  ·cases m with
   |nil=>simp at hm
   |cons a m=>simpa using DD.begin hm
  ·exact xc20
  ·rintro k ⟨hk0,hk,hD⟩
   have hk1:((k:Nat):Int).toNat=k:=by omega
   have hk2:((k:Nat)-1:Int).toNat=k-1:=by omega
   (repeat' ((conv=>whnf);first|(with_reducible first|apply spl|apply spl'|refine iJ ?_)<;>intro hc<;>try(exfalso;omega)|refine vcq ?_|refine dr 10 ?_));all_goals(try conv=>whnf);try exact trivial
   ·have hkl:k<m.length:=by omega
    have he:m.getD k 0=m.getD (k-1) 0:=by rw[hk1,hk2] at hc;exact hc
    have hdt:(m.take k).length=k:=by rw[a0V];omega
    refine⟨Nat×List Int,fun q=>(0<q.1∧k+q.1≤m.length)∧DD m (k+q.1) q.2∧q.2.length+1≤k+q.1∧k≤q.2.length,fun q=>m.length-q.1,fun q=>[(3,.int .i64 (q.2.length:Nat)),(5,.int .i64 (q.1:Nat)),(18,.any),(23,.any)],fun q=>[(0,.row 3 1 m.length (fun i=>[.int .i64 (cpF m q.2 i)]) true)],fun _=>[],(1,m.take k),⟨⟨⟨by omega,by dsimp only;omega⟩,hD.same hkl hk0 he,by dsimp only;omega,by dsimp only;omega⟩,some [some 0],?_⟩,?_⟩
    ·refine x25 ?_
     refine⟨fun i _=>by dsimp only;rw[cpF_start m k hk];rfl,?_⟩
     exact xc20
    ·rintro⟨j,D⟩ ⟨⟨hj0,hj⟩,hDj,hDl,hDk⟩
     dsimp only at hj0 hj hDj hDl hDk
     have hj1:((k:Nat):Int).toNat+((j:Nat):Int).toNat=k+j:=by omega
     have hj2:((k:Nat):Int).toNat+((j:Nat)-1:Int).toNat=k+j-1:=by omega
     (repeat' ((conv=>whnf);first|(with_reducible first|apply spl|apply spl'|refine iJ ?_)<;>intro hc<;>try(exfalso;omega)|refine vcq ?_|refine dr 10 ?_));all_goals(try conv=>whnf);try exact trivial
     ·dsimp only at hc
      rw[hj1,hj2,cpF_hi (by omega),cpF_hi (by omega)] at hc
      refine⟨(j+1,D++[m.getD (k+j) 0]),⟨⟨⟨by omega,by dsimp only;omega⟩,hDj.new hs (by omega) fun _=>hc,by dsimp only;rw[List.length_append,List.length_singleton];omega,by dsimp only;rw[List.length_append];omega⟩,by dsimp only;omega⟩,some [some 0],?_⟩
      refine x25 ?_
      refine⟨by dsimp only;rw[List.length_append,List.length_singleton];omega,?_⟩
      refine x25 ?_
      refine⟨fun i _=>?_,?_⟩
      ·dsimp only
       rw[cpF_push,hj1,cpF_hi (show D.length≤k+j by omega)]
       by_cases e:i=D.length
       ·rw[a2u (by omega),if_pos e]
        rfl
       ·rw[a2a (by omega),if_neg e]
      ·exact xc20
     ·dsimp only at hc
      rw[hj1,hj2,cpF_hi (by omega),cpF_hi (by omega)] at hc
      refine⟨(j+1,D),⟨⟨⟨by omega,by dsimp only;omega⟩,hDj.same (by omega) (by omega) (Classical.not_not.1 hc),by dsimp only;omega,hDk⟩,by dsimp only;omega⟩,some [some 0],?_⟩
      exact xc20
     ·dsimp only at hc
      obtain rfl:j=m.length-k:=by omega
      rw[show k+(m.length-k)=m.length by omega] at hDj
      refine⟨_,_,⟨D,hDj,rfl,rfl⟩,some [some 0],?_⟩
      refine x25 ?_
      refine⟨fun i hi=>?_,.inl rfl,?_⟩
      ·dsimp only at hi ⊢
       rw[if_neg (by omega),cpF_lo (by omega)]
       show _=[V.int .i64 (D.getD i 0)]
       rw[show Int.toNat 0+i=i by omega]
      ·exact xc20
   ·have hkl:k<m.length:=by omega
    have he:m.getD k 0≠m.getD (k-1) 0:=by rw[hk1,hk2] at hc;exact hc
    refine⟨k+1,⟨⟨by omega,hkl,?_⟩,by dsimp only;omega⟩,some [some 0],?_⟩
    ·have:=hD.new hs hkl fun _=>he
     rw[a1H hkl]
     rwa [show m.getD k 0=m[k] by simp[a0A,hkl]] at this
    ·exact xc20
   ·obtain rfl:k=m.length:=by omega
    rw[a3B] at hD
    refine⟨_,_,⟨m,hD,rfl,rfl⟩,some [some 0],?_⟩
    exact xc20
end Ho
end Go.Proofs
namespace Go.Proofs
open Go Go.Sx
set_option maxRecDepth 100000
set_option maxHeartbeats 4000000
namespace Ho
def Hist.Near (h:Hist):Prop:=h.l.length≤40∧(h.Ok→h.n≤2∧h.l.length≤6)
section
variable {h:Hist}
namespace Hist
theorem Ok.lie_ex (g:h.Ok):∃n,isLie h n:=by
 by_cases hl:h.Legal
 ·exact⟨-1,.inl ⟨hl,rfl⟩⟩
 ·rcases last_end (fun i=>(h.at' i).t≠-1∧¬(h.upto (h.at' i).t).Legal) h.l.length (fun i=>-(h.at' i).t) with q|⟨i,hi,⟨h1,h2⟩,h3⟩
  ·exact absurd (g.legal_of_ends fun i hi ht=>a1E fun hn=>q i hi ⟨ht,hn⟩) hl
  ·refine⟨i,.inr ⟨hl,i,hi,rfl,h1,h2,fun j hj htj hlt=>a1E fun hn=>?_⟩⟩
   have:=h3 j hj ⟨htj,hn⟩
   omega
open Classical in
noncomputable def lie (h:Hist):Int:=if e:∃n,isLie h n then e.choose else 0
theorem Ok.lie_spec (g:h.Ok):isLie h h.lie:=by
 unfold lie
 rw[dif_pos g.lie_ex]
 exact g.lie_ex.choose_spec
theorem Ok.lie_eq (g:h.Ok) {n:Int} (hn:isLie h n):n=h.lie:=g.lie_uniq hn g.lie_spec
end Hist
open Classical in
noncomputable def lstOf (P:Int→Prop):List Int:=((List.range 101).map fun(i:Nat)=>((i:Nat):Int)-1).filter fun v=>decide (P v)
open Classical in
theorem mem_lstOf {P:Int→Prop} {v:Int}:v∈lstOf P↔(-1≤v∧v≤99)∧P v:=by
 unfold lstOf
 rw[a3R,decide_eq_true_iff,a1C]
 refine and_congr_left fun _=>⟨?_,fun⟨a,b⟩=>⟨(v+1).toNat,a1D.2 (by omega),by show((v+1).toNat:Int)-1=v;omega⟩⟩
 rintro⟨i,hi,rfl⟩
 rw[a1D] at hi
 omega
theorem lstOf_asc (P:Int→Prop):(lstOf P).Pairwise (·<·):=by
 unfold lstOf
 refine List.Pairwise.filter _ ?_
 rw[a1P]
 exact List.pairwise_lt_range.imp fun h=>by omega
theorem eq_lstOf {P:Int→Prop} {D:List Int} (ha:D.Pairwise (·<·)) (hm:∀v,v∈D↔P v) (hr:∀v,P v→-1≤v∧v≤99):D=lstOf P:=
 asc_unique ha (lstOf_asc P) fun v=>by
  rw[mem_lstOf,hm]
  exact⟨fun q=>⟨hr v q,q⟩,fun q=>q.2⟩
namespace Hist
theorem Ok.rd_range (g:h.Ok) {b:Nat} (hb:b<h.nn) {v:Int} (hv:h.rd b v):-1≤v∧v≤99:=by
 obtain⟨s,e,rfl⟩:=hv
 have inv:=Rea.inv g e.1
 exact resO_range g (inv.K b hb) s.O fun i hi=>(inv.O i hi).1
open Classical in
noncomputable def errB (h:Hist) (b:Int):Int:=if h.Ok then if 0≤b∧b≤h.n-1 then 0 else 1 else 170
noncomputable def ifB (h:Hist) (b:Int) (P:Int→Prop):List Int:=if h.errB b=0 then lstOf P else []
noncomputable def errR (h:Hist) (b:Int) (P:Int→Prop):Int:=if h.errB b=0 then if lstOf P=[] then 3 else 0 else h.errB b
theorem errB_ok (g:h.Ok) {b:Int} (hb:0≤b∧b≤h.n-1):h.errB b=0:=by unfold errB;rw[if_pos g,if_pos hb]
theorem errB_arg (g:h.Ok) {b:Int} (hb:¬(0≤b∧b≤h.n-1)):h.errB b=1:=by unfold errB;rw[if_pos g,if_neg hb]
theorem errB_no (g:¬h.Ok) (b:Int):h.errB b=170:=by unfold errB;rw[if_neg g]
end Hist
end
end Ho
end Go.Proofs
namespace Go.Proofs
open Go Go.Sx
set_option maxRecDepth 100000
set_option maxHeartbeats 4000000
namespace Ho
def exH:Hist:=⟨1,[⟨1,0,5,1,4⟩,⟨10,0,0,2,3⟩,⟨9,0,0,6,6⟩,⟨10,0,5,7,8⟩]⟩
def exJ:Hist:=⟨1,[⟨2,0,5,1,2⟩,⟨9,0,0,3,3⟩,⟨10,0,0,4,5⟩]⟩
def exJ0:Hist:=⟨1,[⟨2,0,5,1,2⟩]⟩
def exJ1:Hist:=⟨1,[⟨2,0,5,1,2⟩,⟨9,0,0,3,3⟩]⟩
theorem exH_ok:exH.Ok:=by
 refine⟨by decide,by decide,fun i hi=>?_,fun i hi k hk hne=>?_⟩
 ·have:i=0∨i=1∨i=2∨i=3:=by have:i<4:=hi;omega
  rcases this with rfl|rfl|rfl|rfl<;>(unfold Cmd.Ok;decide)
 ·have h1:i=0∨i=1∨i=2∨i=3:=by have:i<4:=hi;omega
  have h2:k=0∨k=1∨k=2∨k=3:=by have:k<4:=hk;omega
  rcases h1 with rfl|rfl|rfl|rfl<;>rcases h2 with rfl|rfl|rfl|rfl<;>first|exact absurd rfl hne|(unfold Cmd.Bad;decide)
theorem exJ_ok:exJ.Ok:=by
 refine⟨by decide,by decide,fun i hi=>?_,fun i hi k hk hne=>?_⟩
 ·have:i=0∨i=1∨i=2:=by have:i<3:=hi;omega
  rcases this with rfl|rfl|rfl<;>(unfold Cmd.Ok;decide)
 ·have h1:i=0∨i=1∨i=2:=by have:i<3:=hi;omega
  have h2:k=0∨k=1∨k=2:=by have:k<3:=hk;omega
  rcases h1 with rfl|rfl|rfl<;>rcases h2 with rfl|rfl|rfl<;>first|exact absurd rfl hne|(unfold Cmd.Bad;decide)
theorem exJ0_ok:exJ0.Ok:=by
 refine⟨by decide,by decide,fun i hi=>?_,fun i hi k hk hne=>?_⟩
 ·obtain rfl:i=0:=by have:i<1:=hi;omega
  unfold Cmd.Ok;decide
 ·have:i<1:=hi
  have:k<1:=hk
  omega
theorem exJ1_ok:exJ1.Ok:=by
 refine⟨by decide,by decide,fun i hi=>?_,fun i hi k hk hne=>?_⟩
 ·have:i=0∨i=1:=by have:i<2:=hi;omega
  rcases this with rfl|rfl<;>(unfold Cmd.Ok;decide)
 ·have h1:i=0∨i=1:=by have:i<2:=hi;omega
  have h2:k=0∨k=1:=by have:k<2:=hk;omega
  rcases h1 with rfl|rfl<;>rcases h2 with rfl|rfl<;>first|exact absurd rfl hne|(unfold Cmd.Bad;decide)
theorem exJ0_rea:exJ0.Rea ⟨1,[0],[0]⟩:=by
 have h1:exJ0.May 0 0:=by
  refine⟨by decide,fun j hj=>?_⟩
  obtain rfl:j=0:=by have:j<1:=hj;omega
  decide
 exact .step .begin (.cmd (i:=0) (by decide) h1 (by decide) (fun q=>by revert q;decide))
theorem exJ0_end:exJ0.End ⟨1,[0],[0]⟩:=⟨exJ0_rea,fun i hi _=>by
 obtain rfl:i=0:=by have:i<1:=hi;omega
 rfl⟩
theorem exJ1_legal:exJ1.Legal:=by
 have h0:exJ1.Rea ⟨1,[0],[0]⟩:=by
  have h1:exJ1.May 0 0:=by
   refine⟨by decide,fun j hj=>?_⟩
   have:j=0∨j=1:=by have:j<2:=hj;omega
   rcases this with rfl|rfl<;>decide
  exact .step .begin (.cmd (i:=0) (by decide) h1 (by decide) (fun q=>by revert q;decide))
 have h1:exJ1.May 1 1:=by
  refine⟨by decide,fun j hj=>?_⟩
  have:j=0∨j=1:=by have:j<2:=hj;omega
  rcases this with rfl|rfl<;>decide
 obtain⟨im,him⟩:=exJ1_ok.img_ex (Hist.Rea.inv exJ1_ok h0)
 refine⟨_,.step h0 (.fall (i:=1) (im:=im) (by decide) h1 (by decide) him),fun i hi _=>?_⟩
 have:i=0∨i=1:=by have:i<2:=hi;omega
 show Nat.testBit (1 ||| 1 <<< 1) i=true
 rcases this with rfl|rfl<;>decide
theorem exJ_not:¬exJ.Legal:=by
 intro hl
 have a1:Add exJ0 exJ1 ⟨9,0,0,3,3⟩:=⟨⟨rfl,fun i hi=>by
  obtain rfl:i=0:=by have:i<1:=hi;omega
  rfl⟩,exJ0_ok,rfl,rfl,fun i hi=>by
  obtain rfl:i=0:=by have:i<1:=hi;omega
  decide⟩
 have a2:Add exJ1 exJ ⟨10,0,0,4,5⟩:=⟨⟨rfl,fun i hi=>by
  have:i=0∨i=1:=by have:i<2:=hi;omega
  rcases this with rfl|rfl<;>rfl⟩,exJ1_ok,rfl,rfl,fun i hi=>by
  have:i=0∨i=1:=by have:i<2:=hi;omega
  rcases this with rfl|rfl<;>decide⟩
 have h1:=(Add.next_fall a1 rfl (by decide) (by decide) a2 rfl (by decide) (by decide) (by decide)).1 hl
 have hs:Seq exJ0:=fun i hi=>by
  obtain rfl:i=0:=by have:i<1:=hi;omega
  decide
 have h2:=exJ0_ok.acked hs (b:=0) (by decide) (by decide) (by decide) h1
 revert h2
 decide
theorem exJ_lie:exJ.isLie 2:=by
 refine .inr ⟨exJ_not,2,by decide,rfl,by decide,?_,fun j hj ht hlt=>?_⟩
 ·have:exJ.upto (exJ.at' 2).t=exJ:=rfl
  rw[this]
  exact exJ_not
 ·have:j=0∨j=1∨j=2:=by have:j<3:=hj;omega
  rcases this with rfl|rfl|rfl
  ·have:exJ.upto (exJ.at' 0).t=exJ0:=rfl
   rw[this]
   exact⟨_,exJ0_end⟩
  ·have:exJ.upto (exJ.at' 1).t=exJ1:=rfl
   rw[this]
   exact exJ1_legal
  ·exact absurd hlt (by decide)
theorem exH_legal:exH.Legal:=by
 have b4:∀j,j<exH.l.length→j=0∨j=1∨j=2∨j=3:=fun j hj=>by have:j<4:=hj;omega
 have h1:exH.Rea ⟨2,[],[0]⟩:=.step .begin (.cmd (i:=1) (by decide) ⟨by decide,fun j hj=>by rcases b4 j hj with rfl|rfl|rfl|rfl<;>decide⟩ (by decide) (fun _=>by decide))
 have h2:exH.Rea ⟨3,[0],[0]⟩:=.step h1 (.cmd (i:=0) (by decide) ⟨by decide,fun j hj=>by rcases b4 j hj with rfl|rfl|rfl|rfl<;>decide⟩ (by decide) (fun q=>by revert q;decide))
 have hi:exH.Img [0] [0]:=by
  have hx:(exH.cache [0]).Ok:=exH_ok.cache (Hist.Rea.inv exH_ok h2)
  refine(img_iff hx _).2 ⟨_,⟨_,PN.drain (PN.order hx PN.begin (by decide)) (b:=0) (by decide) (by decide) (by decide),.inl rfl⟩,by decide⟩
 have h3:exH.Rea (exH.fall ⟨3,[0],[0]⟩ 2 [0]):=.step h2 (.fall (s:=⟨3,[0],[0]⟩) (i:=2) (by decide) ⟨by decide,fun j hj=>by rcases b4 j hj with rfl|rfl|rfl|rfl<;>decide⟩ (by decide) hi)
 replace h3:exH.Rea ⟨7,[],[5]⟩:=h3
 have h4:exH.Rea ⟨15,[],[5]⟩:=.step h3 (.cmd (i:=3) (by decide) ⟨by decide,fun j hj=>by rcases b4 j hj with rfl|rfl|rfl|rfl<;>decide⟩ (by decide) (fun _=>by decide))
 exact⟨_,h4,fun i hi _=>by rcases b4 i hi with rfl|rfl|rfl|rfl<;>rfl⟩
theorem exH_inv {s:St} (r:exH.Rea s):(s.D.testBit 3=true→s.D.testBit 2=true∧s.K.getD 0 0=5)∧(s.D.testBit 2=true→s.O=[]∧s.D.testBit 0=true∧s.D.testBit 1=true):=by
 induction r with
 |begin=>exact⟨fun q=>by revert q;decide,fun q=>by revert q;decide⟩
 |@step s s2 r hs ih=>
  obtain⟨i1,i2⟩:=ih
  cases hs with
  |@cmd i h1 h2 h3 h4=>
   have hi:i=0∨i=1∨i=2∨i=3:=by have:i<4:=h1;omega
   have m2:=(h2.2 2 (by decide)).2
   have e2:(exH.at' 2).f=6:=rfl
   have k2:(exH.at' 2).k=9:=rfl
   unfold Hist.doO
   dsimp only
   simp only[Hist.bit_or,a2P,decide_eq_true_iff]
   rcases hi with rfl|rfl|rfl|rfl
   ·have n2:¬s.D.testBit 2=true:=fun q=>m2 q k2 (by decide)
    have n3:¬s.D.testBit 3=true:=fun q=>n2 (i1 q).1
    exact⟨fun q=>absurd (q.resolve_right (by decide)) n3,fun q=>absurd (q.resolve_right (by decide)) n2⟩
   ·have n2:¬s.D.testBit 2=true:=fun q=>m2 q k2 (by decide)
    have n3:¬s.D.testBit 3=true:=fun q=>n2 (i1 q).1
    exact⟨fun q=>absurd (q.resolve_right (by decide)) n3,fun q=>absurd (q.resolve_right (by decide)) n2⟩
   ·exact absurd k2 h3
   ·have b2:s.D.testBit 2=true:=by
     cases e:s.D.testBit 2 with
     |true=>rfl
     |false=>exact absurd (by decide) ((h2.2 2 (by decide)).1 e (by decide))
    obtain⟨hO,h0,h1'⟩:=i2 b2
    have hres:s.K.getD 0 0=5:=by
     have:=(h4 rfl).2
     unfold Hist.res at this
     rw[hO] at this
     exact this
    have hno:(exH.at' 3).isO=false:=rfl
    rw[hno]
    exact⟨fun _=>⟨.inl b2,hres⟩,fun _=>⟨hO,.inl h0,.inl h1'⟩⟩
  |@fall i im h1 h2 h3 h4=>
   obtain rfl:i=2:=by
    have hi:i=0∨i=1∨i=2∨i=3:=by have:i<4:=h1;omega
    rcases hi with rfl|rfl|rfl|rfl
    ·exact absurd h3 (by decide)
    ·exact absurd h3 (by decide)
    ·rfl
    ·exact absurd h3 (by decide)
   have b:∀j,j=0∨j=1→s.D.testBit j=true:=fun j hj=>by
    cases e:s.D.testBit j with
    |true=>rfl
    |false=>
     rcases hj with rfl|rfl
     ·exact absurd (by decide) ((h2.2 0 (by decide)).1 e (by decide))
     ·exact absurd (by decide) ((h2.2 1 (by decide)).1 e (by decide))
   unfold Hist.fall
   dsimp only
   simp only[Hist.bit_or,a2P,decide_eq_true_iff]
   refine⟨fun q=>?_,fun _=>⟨trivial,.inl (b 0 (.inl rfl)),.inl (b 1 (.inr rfl))⟩⟩
   have:=(i1 (q.resolve_right (by decide))).1
   rw[h2.1] at this
   cases this
theorem exH_rd (v:Int):exH.rd 0 v↔v=5:=by
 have key:∀s,exH.End s→exH.res s 0=5:=fun s ⟨r,w⟩=>by
  have b3:=w 3 (by decide) (by decide)
  obtain⟨i1,i2⟩:=exH_inv r
  obtain⟨b2,hk⟩:=i1 b3
  unfold Hist.res
  rw[(i2 b2).1]
  exact hk
 constructor
 ·rintro⟨s,e,rfl⟩;exact key s e
 ·rintro rfl
  obtain⟨s,e⟩:=exH_legal
  exact⟨s,e,key s e⟩
theorem exH_lst:lstOf (exH.rd 0)=[5]:=(eq_lstOf (by simp) (fun v=>by rw[a0L,exH_rd]) (fun v q=>by rw[exH_rd] at q;omega)).symm
open Hist (cut)
theorem cut_take {h:Hist} {time:Int} {i:Nat} (hi:i<h.l.length):(h.l.take (i+1)).map (cut time)=(h.l.take i).map (cut time)++[cut time (h.at' i)]:=by
 rw[a1H hi,a1L]
 simp[Hist.at',a0A,hi]
theorem until27 (h:Hist) (g:h.Ok) (time:Int):a0q Tryz.prog 42 false [h.w,.int .i64 time] (·=(h.upto time).w):=by
 obtain⟨M,m1,m2,m3,m4⟩:=g.upto_take time
 have hlen:=g.len
 rw[m4]
 refine a0c Tryz.E_ok Tryz.func42 rfl (by kernel_rfl) ?_
 refine x1 ?_
 refine⟨Nat,fun i=>i≤M,fun i=>h.l.length-i,fun i=>[(14,.int .i64 (i:Nat))],fun i=>[(2,.cells 24 [.int .i64 h.n,.osl 3 ((h.l.take i).map (cut time)).length])],fun i=>[.row 48 5 ((h.l.take i).map (cut time)).length (a0u Cmd.c c0 ((h.l.take i).map (cut time))) true],0,⟨by omega,some [some 0,some 1,some 2,none],?_⟩,?_⟩
 ·exact xc3
 ·intro i hi
  have hi:i≤M:=hi
  have hti:((i:Nat):Int).toNat=i:=by omega
  have hq:∀j,i=j+1→False→False:=fun _ _ f=>f
  have hlq:((h.l.take i).map (cut time)).length≤10:=by simp;omega
  (repeat' ((conv=>whnf);first|(with_reducible first|apply spl|apply spl'|refine iJ ?_)<;>intro hc<;>try(exfalso;omega)|refine vcq ?_|fail));all_goals(try conv=>whnf);try exact trivial
  ·have hM:¬i<M:=fun h1=>by have:=m2 i h1;change time<(h.l.getD (↑i:Int).toNat c0).f at hc;rw[hti] at hc;change (h.l.getD i c0).f≤_ at this;omega
   obtain rfl:i=M:=by omega
   refine⟨_,rfl,?_⟩
   exact xc3
  ·have hil:i<h.l.length:=by omega
   rw[hti] at *
   have hf:¬time<(h.l.getD i c0).f:=by assumption
   have hiM:i<M:=by
    rcases a1B i M with h1|h1
    ·exact h1
    ·exact absurd (m3 i h1 hil) hf
   have e:=cut_take (time:=time) hil
   have hlt:((h.l.take (i+1)).map (cut time)).length=((h.l.take i).map (cut time)).length+1:=by rw[e];simp
   have hcell:(cut time (h.at' i)).c=[.int .i64 (h.l.getD i c0).k,.int .i64 (h.l.getD i c0).b,.int .i64 0,.int .i64 (h.l.getD i c0).f,.int .i64 (-1)]:=by
    unfold Hist.cut
    rw[if_pos (show time<(h.at' i).t by assumption),if_pos (show(h.at' i).k=10 by assumption)]
    rfl
   refine⟨i+1,⟨by omega,by dsimp only;omega⟩,some [some 0,some 1,some 2,some 6],?_⟩
   refine x1 ?_
   refine⟨fun k hk=>?_,?_⟩
   ·rw[e,←hcell]
    exact a2d (c:=Cmd.c) rfl (fun _ _=>rfl) k (by omega)
   ·exact xc3
  ·have hil:i<h.l.length:=by omega
   rw[hti] at *
   have hf:¬time<(h.l.getD i c0).f:=by assumption
   have hiM:i<M:=by
    rcases a1B i M with h1|h1
    ·exact h1
    ·exact absurd (m3 i h1 hil) hf
   have e:=cut_take (time:=time) hil
   have hlt:((h.l.take (i+1)).map (cut time)).length=((h.l.take i).map (cut time)).length+1:=by rw[e];simp
   have hcell:(cut time (h.at' i)).c=[.int .i64 (h.l.getD i c0).k,.int .i64 (h.l.getD i c0).b,.int .i64 (h.l.getD i c0).v,.int .i64 (h.l.getD i c0).f,.int .i64 (-1)]:=by
    unfold Hist.cut
    rw[if_pos (show time<(h.at' i).t by assumption),if_neg (show ¬(h.at' i).k=10 by assumption)]
    rfl
   refine⟨i+1,⟨by omega,by dsimp only;omega⟩,some [some 0,some 1,some 2,some 6],?_⟩
   refine x1 ?_
   refine⟨fun k hk=>?_,?_⟩
   ·rw[e,←hcell]
    exact a2d (c:=Cmd.c) rfl (fun _ _=>rfl) k (by omega)
   ·exact xc3
  ·have hil:i<h.l.length:=by omega
   rw[hti] at *
   have hf:¬time<(h.l.getD i c0).f:=by assumption
   have hiM:i<M:=by
    rcases a1B i M with h1|h1
    ·exact h1
    ·exact absurd (m3 i h1 hil) hf
   have e:=cut_take (time:=time) hil
   have hlt:((h.l.take (i+1)).map (cut time)).length=((h.l.take i).map (cut time)).length+1:=by rw[e];simp
   have hcell:(cut time (h.at' i)).c=[.int .i64 (h.l.getD i c0).k,.int .i64 (h.l.getD i c0).b,.int .i64 (h.l.getD i c0).v,.int .i64 (h.l.getD i c0).f,.int .i64 (h.l.getD i c0).t]:=by
    unfold Hist.cut
    rw[if_neg (show ¬time<(h.at' i).t by assumption)]
    rfl
   refine⟨i+1,⟨by omega,by dsimp only;omega⟩,some [some 0,some 1,some 2,some 6],?_⟩
   refine x1 ?_
   refine⟨fun k hk=>?_,?_⟩
   ·rw[e,←hcell]
    exact a2d (c:=Cmd.c) rfl (fun _ _=>rfl) k (by omega)
   ·exact xc3
  ·obtain rfl:i=M:=by omega
   refine⟨_,rfl,?_⟩
   exact xc3
theorem Hist.chk_ok {h:Hist} (g:h.chk=0):h.Ok:=by
 unfold Hist.chk at g
 split at g
 ·assumption
 ·exact absurd g (by decide)
theorem Hist.chk_of {h:Hist} (g:h.Ok):h.chk=0:=if_pos g
def zeroH:V:=.agg [.int .i64 0,.lit (.slice none 0 0)]
theorem Until11 (h:Hist) (hl:h.l.length≤1000000) (time:Int):a0q Tryz.prog 14 true [h.w,.int .i64 time]
  (fun r=>(h.Ok→0≤time∧time≤999→r=.tup [(h.upto time).w,.int .i64 0])∧(h.Ok→¬(0≤time∧time≤999)→r=.tup [zeroH,.int .i64 1])∧(¬h.Ok→r=.tup [zeroH,.int .i64 170])):=by
 refine a0c Tryz.E_ok Tryz.func14 rfl (by kernel_rfl) ?_
 refine x1 ?_
 refine a0d (Check22 h hl) rfl ?_
 rintro _ rfl
 refine x7 (fun hc=>?_) (fun hc=>?_)
 ·have hn:¬h.Ok:=fun g=>hc (by rw[Hist.chk_of g])
  have e:h.chk=170:=if_neg hn
  refine⟨_,⟨fun g=>absurd g hn,fun g=>absurd g hn,fun _=>rfl⟩,?_⟩
  rw[e]
  exact xc3
 ·have hok:h.Ok:=Hist.chk_ok (a0T.1 hc)
  refine a0d (within28 _ _ _) rfl ?_
  rintro _ rfl
  refine x7 (fun hc=>?_) (fun hc=>?_)
  ·refine⟨_,⟨fun _ g=>absurd g (by first|exact hc|omega),fun _ _=>rfl,fun g=>absurd hok g⟩,?_⟩
   exact xc3
  ·have ht:0≤time∧time≤999:=by omega
   refine a0d (until27 h hok time) rfl ?_
   rintro _ rfl
   refine x1 ?_
   refine⟨_,⟨fun _ _=>rfl,fun _ g=>absurd ht g,fun g=>absurd hok g⟩,?_⟩
   exact xc3
end Ho
end Go.Proofs
namespace Go.Proofs
open Go Go.Sx
set_option maxRecDepth 100000
set_option maxHeartbeats 40000000
namespace Ho
theorem chk_iff {h:Hist}:h.chk=0↔h.Ok:=⟨Hist.chk_ok,Hist.chk_of⟩
theorem far20 (h:Hist) (hl:h.l.length≤9223372036854775807):a0q Tryz.prog 9 false [h.w] (·=.prop (¬h.Near) (Classical.propDecidable _)):=by
 have hck:=chk_iff (h:=h)
 refine a0c Tryz.E_ok Tryz.func9 rfl (by kernel_rfl) ?_
 have hnear:h.Near↔h.l.length≤40∧(h.Ok→h.n≤2∧h.l.length≤6):=a1R
 refine x7 (fun hc=>?_) (fun hc=>?_)
 ·refine a0d (rcheck h (by omega)) rfl ?_
  rintro _ rfl
  refine x1 ?_
  refine⟨_,rfl,?_⟩
  refine⟨?_,trivial⟩
  rw[hck,hnear]
  constructor
  ·rintro⟨g,q⟩ ⟨_,r⟩
   have:=r g
   omega
  ·intro q
   by_cases g:h.Ok
   ·exact⟨g,a1E fun r=>q ⟨by omega,fun _=>by omega⟩⟩
   ·exact absurd ⟨by omega,fun gg=>absurd gg g⟩ q
 ·refine⟨_,rfl,?_⟩
  refine⟨fun q=>?_,trivial⟩
  have:=q.1
  omega
theorem valid7 (h:Hist) (hl:h.l.length≤9223372036854775807):a0q Tryz.prog 21 false [h.w] (·=.prop (h.Near∧h.Ok) (Classical.propDecidable _)):=by
 have hck:=chk_iff (h:=h)
 refine a0c Tryz.E_ok Tryz.func21 rfl (by kernel_rfl) ?_
 refine x1 ?_
 refine a0d (far20 h hl) rfl ?_
 rintro _ rfl
 refine x7 (fun hc=>?_) (fun hc=>?_)
 ·have hn:h.Near:=a0T.1 hc
  refine a0d (rcheck h (by have:=hn.1;omega)) rfl ?_
  rintro _ rfl
  refine x1 ?_
  refine⟨_,rfl,?_⟩
  exact⟨by rw[hck];exact⟨fun q=>⟨hn,q⟩,fun q=>q.2⟩,trivial⟩
 ·refine⟨_,rfl,?_⟩
  exact⟨fun q=>hc fun r=>r q.1,trivial⟩
theorem same17 (a b:List Int) (hl:a.length≤137438953472) (hm:b.length≤137438953472):a0q Tryz.prog 29 false [.sl 1 a.length (a0u intC 0 a),.sl 1 b.length (a0u intC 0 b)] (·=.prop (a=b) inferInstance):=by
 refine a0c Tryz.E_ok Tryz.func29 rfl (by kernel_rfl) ?_
 refine x7 (fun hc=>?_) (fun hc=>?_)
 ·refine⟨_,rfl,?_⟩
  refine⟨fun q=>?_,trivial⟩
  rw[q] at hc
  omega
 ·have hlen:a.length=b.length:=by omega
  clear hc
  refine⟨Nat,fun i=>i≤a.length∧∀j,j<i→a.getD j 0=b.getD j 0,fun i=>a.length-i,fun i=>[(5,.int .i64 (i:Nat))],fun _=>[],fun _=>[],0,⟨⟨by omega,fun j hj=>by omega⟩,none,?_⟩,?_⟩
  ·exact xc3
  ·rintro i ⟨hi,hI⟩
   have hi0:((i:Nat):Int).toNat=i:=by omega
   (repeat' ((conv=>whnf);first|(with_reducible first|apply spl|apply spl'|refine iJ ?_)<;>intro hc<;>try(exfalso;omega)|refine vcq ?_|refine dr 9 ?_));all_goals(try conv=>whnf);try exact trivial
   ·refine⟨_,rfl,?_⟩
    refine⟨fun q=>?_,trivial⟩
    rw[q] at hc
    exact hc rfl
   ·rw[hi0] at hc
    refine⟨i+1,⟨⟨by omega,fun j hj=>?_⟩,by dsimp only;omega⟩,none,?_⟩
    ·rcases a0J (show j≤i by omega) with q|rfl
     ·exact hI j q
     ·exact a0T.1 hc
    ·exact xc3
   ·obtain rfl:i=a.length:=by omega
    refine⟨_,rfl,?_⟩
    refine⟨a1U hlen fun j h1 h2=>?_,trivial⟩
    have:=hI j h1
    simpa [List.getD_eq_getElem?_getD,h1,h2] using this
end Ho
end Go.Proofs
