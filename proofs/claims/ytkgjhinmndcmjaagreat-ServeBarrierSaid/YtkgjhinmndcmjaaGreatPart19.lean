/- Own work: texts of the proof of a law (WpB, WpC). No condition. -/
import Derived.Test.YtkgjhinmndcmjaaGreatPart14
import Derived.Test.YtkgjhinmndcmjaaGreatPart15
import Derived.Test.YtkgjhinmndcmjaaGreatPart0
import Derived.Test.YtkgjhinmndcmjaaGreatPart11
set_option linter.unusedVariables false
set_option linter.unusedSimpArgs false
namespace Go.Proofs.Ca
open Go Go.Sx
set_option maxRecDepth 100000
set_option maxHeartbeats 1000000
def anyW:Nat→Nat→List (Nat×V)
 |_,0=>[]
 |a,n+1=>(a,.any) :: anyW (a+1) n
def codB (f:Nat→Nat):Nat→Nat
 |0=>0
 |n+1=>2*codB f n+f n
theorem codB_lt {f:Nat→Nat} (hf:∀q,f q≤1):∀n,codB f n<2 ^ n
 |0=>Nat.one_pos
 |n+1=>by
  have:=codB_lt hf n
  have:=hf n
  show 2*codB f n+f n<2 ^ (n+1)
  rw[Nat.pow_succ]
  omega
theorem codB_inj {f g:Nat→Nat} (hf:∀q,f q≤1) (hg:∀q,g q≤1):∀{n:Nat},codB f n=codB g n→∀q,q<n→f q=g q
 |0,_,q,hq=>absurd hq (Nat.not_lt_zero _)
 |n+1,h,q,hq=>by
  have h:2*codB f n+f n=2*codB g n+g n:=h
  have h1:=hf n
  have h2:=hg n
  rcases a0I (a2C hq) with e|rfl
  ·exact codB_inj hf hg (n:=n) (by omega) q e
  ·omega
def bitM (x:Cache) (u:PS) (q:Nat):Nat:=if u.M.get (x.l.getD q (0,0)).2.toNat=q then 1 else 0
def bitW (x:Cache) (u:PS) (q:Nat):Nat:=if q<16 then bitQ x u q else bitM x u (q-16)
theorem bitW_le (x:Cache) (u:PS) (q:Nat):bitW x u q≤1:=by
 unfold bitW bitM bitQ
 split<;>split<;>omega
theorem codeW_inj {x:Cache} (h16:x.l.length≤16) {k:Nat} (hk:k≤x.l.length) {u v:PS} {D D':List (Int×Int)} (hu:InvU x k u D) (hv:InvU x k v D') (h:codB (bitW x u) 32=codB (bitW x v) 32):u.same v:=by
 have key:=codB_inj (bitW_le x u) (bitW_le x v) h
 have kq:∀q,q<16→bitQ x u q=bitQ x v q:=fun q hq=>by
  have:=key q (by omega)
  unfold bitW at this
  rwa [if_pos hq,if_pos hq] at this
 have km:∀q,q<16→bitM x u q=bitM x v q:=fun q hq=>by
  have:=key (q+16) (by omega)
  unfold bitW at this
  rwa [if_neg (by omega),if_neg (by omega),Nat.add_sub_cancel] at this
 have cellEq:∀(u v:PS),InvC x k u→(∀q,q<16→bitQ x u q=bitQ x v q)→∀e b,b<6→(u.ep e).get b≠-3→(v.ep e).get b=(u.ep e).get b:=by
  intro u v hi hq e b hb hne
  rcases hi.cell e b hb with h1|⟨q,h1,h2,⟨_,h3⟩,h4⟩
  ·exact absurd h1 hne
  ·have h5:=hq q (by omega)
   unfold bitQ at h5
   rw[h4,h3,a0E,if_pos h2] at h5
   split at h5
   ·rename_i h6;rw[h6,h2]
   ·cases h5
 have medEq:∀(u v:PS),InvC x k u→(∀q,q<16→bitM x u q=bitM x v q)→∀b,b<6→u.M.get b≠-1→v.M.get b=u.M.get b:=by
  intro u v hi hq b hb hne
  rcases hi.med b hb with h1|⟨q,h1,h2,_,h3⟩
  ·exact absurd h1 hne
  ·have h5:=hq q (by omega)
   unfold bitM at h5
   rw[h3,a0E,if_pos h2] at h5
   split at h5
   ·rename_i h6;rw[h6,h2]
   ·cases h5
 refine⟨C6.ext' fun b hb=>?_,a2L (by rw[hu.len,hv.len]) fun e g1 g2=>C6.ext' fun b hb=>?_⟩
 ·by_cases h1:u.M.get b=-1
  ·by_cases h2:v.M.get b=-1
   ·rw[h1,h2]
   ·exact medEq v u hv.inv (fun q hq=>(km q hq).symm) b hb h2
  ·exact(medEq u v hu.inv km b hb h1).symm
 ·have e1:u.ep e=u.E[e]:=by unfold PS.ep;simp[List.getD_eq_getElem?_getD,g1]
  have e2:v.ep e=v.E[e]:=by unfold PS.ep;simp[List.getD_eq_getElem?_getD,g2]
  rw[←e1,←e2]
  by_cases h1:(u.ep e).get b=-3
  ·by_cases h2:(v.ep e).get b=-3
   ·rw[h1,h2]
   ·exact cellEq v u hv.inv (fun q hq=>(kq q hq).symm) e b hb h2
  ·exact(cellEq u v hu.inv kq e b hb h1).symm
theorem rch_capW {x:Cache} (hx:x.Ok) (h16:x.l.length≤16) (k:Nat) (l:List Trip) (hl:∀t∈l,t.Good x k) (hn:(l.map Trip.sh).Nodup):l.length≤4294967296:=by
 have h1:(l.map fun t=>codB (bitW x (uOf x k t)) 32).Nodup:=by
  rw[List.Nodup,a2Z] at hn ⊢
  refine List.Pairwise.imp_of_mem ?_ hn
  intro a b ha hb hne hc
  have ga:=uOf_spec hx (hl a ha)
  have gb:=uOf_spec hx (hl b hb)
  have hs:=codeW_inj h16 ga.1.le (ga.1.inv hx) (gb.1.inv hx) hc
  refine hne ?_
  show shS a.s=shS b.s
  rw[ga.2,gb.2]
  exact hs.tidy.shS
 have:=a1t (m:=List.range 4294967296) h1 (fun c hc=>by
  obtain⟨t,ht,rfl⟩:=a2V.1 hc
  exact a1F.2 (codB_lt (bitW_le x _) 32))
 rwa [a1L,a3Q] at this
end Go.Proofs.Ca
namespace Go.Proofs.Ca
open Go Go.Sx
set_option maxRecDepth 100000
set_option maxHeartbeats 4000000
theorem newP_ge {x:Cache} {q b:Nat}:∀{k},q<k→putQ x q b→(q:Int)≤newP x.l k b
 |k+1,hq,hp=>by
  rw[newP_succ]
  split
  ·omega
  ·rename_i h
   rcases a0I (show q≤k by omega) with g|rfl
   ·exact newP_ge g hp
   ·exact absurd ⟨hp.1,by have:=hp.2;omega⟩ h
theorem newP_put {x:Cache} (hx:x.Ok) {b:Nat}:∀{k},k≤x.l.length→newP x.l k b=-1∨∃q,q<k∧newP x.l k b=(q:Nat)∧putQ x q b
 |0,_=>.inl rfl
 |k+1,hk=>by
  rw[newP_succ]
  split
  ·rename_i h
   have:=hx.blk (show k<x.l.length by omega) h.1
   exact .inr ⟨k,by omega,rfl,h.1,by omega⟩
  ·rcases newP_put hx (show k≤x.l.length by omega) (b:=b) with g|⟨q,g1,g2,g3⟩
   ·exact .inl g
   ·exact .inr ⟨q,by omega,g2,g3⟩
theorem newest_all {x:Cache} (hx:x.Ok) {u:PS} {D:List (Int×Int)} (h:RchU x x.l.length u D) (hn:∀e,u.ep e=NO) {b:Nat} (hb:b<6):u.M.get b=newP x.l x.l.length b:=by
 have hm:=(h.inv hx).inv.med b hb
 rcases newP_put hx (a0K _) (b:=b) with g|⟨q,g1,g2,g3⟩
 ·rcases hm with k|⟨q,k1,k2,k3⟩
  ·omega
  ·have:=newP_ge k1 k3
   omega
 ·rcases(h.invB hx).kept q g1 b hb g3 with k|k
  ·rcases hm with m|⟨q',m1,m2,m3⟩
   ·omega
   ·have:=newP_ge m1 m3
    omega
  ·rw[hn,C6.get_all hb] at k
   omega
theorem RchU.posM {x:Cache} (hx:x.Ok) {u:PS} {D:List (Int×Int)} (h:RchU x x.l.length u D):PosI x u.M:=
 ⟨⟨⟨u.tidy,D⟩,u.M,false⟩,.inl ⟨rfl,u_rch hx h,rfl⟩,rfl⟩
end Go.Proofs.Ca
namespace Go.Proofs
open Go Go.Sx
open Ca (Wt epW IsCrs)
namespace Sv
def im (s:Sv) (o:List Nat) (k:Nat):Nat→Int:=Ca.medC s.W s.st.M o k
theorem nIx {s:Sv} (hx:s.x.Ok):s.x.n=(s.n:Nat):=by
 have:=hx.n
 show s.x.n=(s.x.n.toNat:Nat)
 omega
theorem im_rch {s:Sv} (hx:s.x.Ok) (o:List Nat):∀k,k≤s.W.length→∃u D,Ca.RchU s.x s.x.l.length u D∧Ca.Sim s.n (Ca.drC s.n s.W s.st o k) u:=by
 have hn:=nIx hx
 intro k
 induction k with
 |zero=>intro _;exact⟨_,_,Ca.runU_rch s.x _ (a0K _),Ca.Sim.run hx hn _ (a0K _)⟩
 |succ k ih=>
  intro hk
  have hg:Ca.GdR s.x s.n s.x.l.length (Ca.drC s.n s.W s.st o k):=ih (by omega)
  show Ca.GdR s.x s.n s.x.l.length (Ca.drS s.n (Ca.drC s.n s.W s.st o k) ((Ca.entC s.W o k).2.1:Nat))
  by_cases hc:Ca.canR s.n (Ca.drC s.n s.W s.st o k) ((Ca.entC s.W o k).2.1:Nat)
  ·exact hg.drain hx hn hc
  ·rw[Ca.drS_no hc]
   exact hg
theorem im_u {s:Sv} (hx:s.x.Ok) {o:List Nat} (ho:IsCrs s.W o) {k:Nat} (hk:k≤s.W.length):∃u D,Ca.RchU s.x s.x.l.length u D∧∀b,b<s.n→s.im o k b=u.M.get b:=by
 obtain⟨u,D,h1,h2⟩:=im_rch hx o k hk
 refine⟨u,D,h1,fun b hb=>?_⟩
 rw[←h2.M b hb]
 exact(congrFun (Ca.drC_at ho k hk).2.1 b).symm
theorem im_new {s:Sv} (hx:s.x.Ok) {o:List Nat} (ho:IsCrs s.W o) {b:Nat} (hb:b<s.n):s.im o s.W.length b=Ca.newP s.x.l s.x.l.length b:=by
 have hn:=nIx hx
 have hn6:=hx.n
 obtain⟨u,D,h1,h2⟩:=im_rch hx o s.W.length (a0K _)
 have hd:=Ca.drC_at ho s.W.length (a0K _)
 have hno:∀e,u.ep e=Ca.NO:=fun e=>Ca.C6.ext' fun j hj=>by
  rw[Ca.C6.get_all hj]
  by_cases hjn:j<s.n
  ·refine(h2.none_iff hjn (by omega)).1 ?_
   refine(hd.2.2.2 e j).trans ?_
   by_cases h0:s.st.ep e j=-1
   ·split
    ·rfl
    ·exact h0
   ·have he:e<s.st.E.length:=a0Q fun q=>h0 (by
     unfold Ca.RS.ep
     rw[a0A,a0V (by omega)]
     rfl)
    have hw:(e,j,s.st.ep e j)∈s.st.ents s.n:=Ca.RS.mem_ents.2 ⟨he,hjn,h0,rfl⟩
    obtain⟨q,hq,hqe⟩:=a1A hw
    obtain⟨i,hi,hie⟩:=a1A (ho.perm hq)
    have hil:i<s.W.length:=by
     have:=ho.len
     omega
    rw[if_pos]
    have hoi:o.getD i 0=q:=by rw[a0A,a0C hi];exact hie
    have hent:Ca.entC (s.st.ents s.n) o i=(e,j,s.st.ep e j):=by
     unfold Ca.entC
     rw[hoi,a0A,a0C hq]
     exact hqe
    exact⟨i,hil,by rw[hent],by rw[hent]⟩
  ·exact h2.hi e j (by omega) hj
 rw[←Ca.newest_all hx h1 hno (show b<6 by omega),←h2.M b hb]
 exact(congrFun hd.2.1 b).symm
def imL (s:Sv) (F:Nat→Int):List Int:=(List.range s.n).map F
theorem imL_len (s:Sv) (F:Nat→Int):(s.imL F).length=s.n:=by unfold imL;simp
theorem imL_get (s:Sv) (F:Nat→Int) {b:Nat} (hb:b<s.n):(s.imL F).getD b 0=F b:=by
 unfold imL
 rw[a0A,a1O,List.getElem?_range hb]
 rfl
theorem im_ge {s:Sv} (hx:s.x.Ok) {o:List Nat} (ho:IsCrs s.W o) {k:Nat} (hk:k≤s.W.length) {b:Nat} (hb:b<s.n):s.im o k b=-1∨∃q:Nat,q<s.x.l.length∧s.im o k b=q∧Ca.putQ s.x q b:=by
 have hn:=nIx hx
 have hn6:=hx.n
 obtain⟨u,D,h1,h2⟩:=im_u hx ho hk
 rw[h2 b hb]
 exact(h1.inv hx).inv.med b (by omega)
theorem im_img {s:Sv} (hx:s.x.Ok) {o:List Nat} (ho:IsCrs s.W o) {k:Nat} (hk:k≤s.W.length):Ca.IsImg s.x (s.imL (s.im o k)):=by
 have hn:=nIx hx
 refine⟨by rw[imL_len];exact hn.symm,fun b hb=>?_⟩
 rw[imL_len] at hb
 rw[imL_get s _ hb]
 rcases im_ge hx ho hk hb with q|⟨q,q1,q2,q3,q4⟩
 ·exact .inl q
 ·refine .inr (.inr ⟨by omega,?_⟩)
  rw[q2,a0E]
  exact⟨q3,q4⟩
theorem im_pos {s:Sv} (hx:s.x.Ok) {o:List Nat} (ho:IsCrs s.W o) {k:Nat} (hk:k≤s.W.length):Ca.IsPos s.x (s.imL (s.im o k)):=by
 obtain⟨u,D,h1,h2⟩:=im_u hx ho hk
 refine⟨u.M,h1.posM hx,fun b hb=>?_⟩
 rw[imL_len] at hb
 rw[imL_get s _ hb,h2 b hb]
theorem im_kept {s:Sv} (hx:s.x.Ok) {o:List Nat} (ho:IsCrs s.W o) {k:Nat} (hk:k≤s.W.length) {i:Nat} (hi:i<s.x.l.length) (h3:(s.x.l.getD i (0,0)).1=3) {b0:Nat} (hb0:b0<s.n) (hlt:(i:Int)<s.im o k b0) {q:Nat} (hq:q<i) {b:Nat} (hb:b<s.n) (hp:Ca.putQ s.x q b):(q:Int)≤s.im o k b:=by
 have hn:=nIx hx
 have hn6:=hx.n
 obtain⟨u,D,h1,h2⟩:=im_u hx ho hk
 rw[h2 b hb]
 rw[h2 b0 hb0] at hlt
 exact h1.barrier hx hi (.inl ⟨h3,b0,by omega,hlt⟩) hq (by omega) hp
theorem endW_small {s:Sv} (h:s.Ok) (hi:Bool) {o:List Nat} (ho:IsCrs s.W o):∀k,k≤s.W.length→0≤((s.qu s.W).stQ hi o k).2∧((s.qu s.W).stQ hi o k).2≤k*7000
 |0,_=>⟨a1Q _,a1Q _⟩
 |k+1,hk=>by
  have ih:=endW_small h hi ho k (by omega)
  have hq:=quW_ok h
  have hr:o.getD k 0<(s.qu s.W).rq.length:=by
   rw[qu_len]
   exact ho.getD_lt (by omega)
  have hT:=hq.d.t
  have hp:=Qu.pick_bnd hq hi ((s.qu s.W).stQ hi o k).1 ((s.qu s.W).cy ((s.qu s.W).req (o.getD k 0)).fr)
  have hrq:((s.qu s.W).req (o.getD k 0)).ct=1∧((s.qu s.W).req (o.getD k 0)).t0=0:=by
   have hm:=Qu.req_mem hr
   obtain⟨w,_,hw⟩:=a2V.1 hm
   rw[←hw]
   exact⟨rfl,rfl⟩
  have hn:=nextT_bnd (show 0<(s.qu s.W).d.T by omega) ((s.qu s.W).d.ang ((s.qu s.W).req (o.getD k 0)).fr.toNat) (max ((s.qu s.W).stQ hi o k).2 ((s.qu s.W).req (o.getD k 0)).t0+Qu.pick hi ((s.qu s.W).sek ((s.qu s.W).stQ hi o k).1 ((s.qu s.W).cy ((s.qu s.W).req (o.getD k 0)).fr)))
  have hru:0≤(s.qu s.W).rn hi (o.getD k 0)∧(s.qu s.W).rn hi (o.getD k 0)≤1000:=by
   unfold Qu.rn
   rw[hrq.1]
   have h1:=Dk.sumR_bnd _ 1000 ((s.qu s.W).req (o.getD k 0)).fr.toNat (Dk.dur_bnd hq.d) 1
   unfold Dk.run
   simp only[show(1:Int).toNat=1 from rfl,Nat.sub_self]
   have h2:sumR (fun i=>(s.qu s.W).d.gapK hi (kindS (s.qu s.W).d.H.toNat (s.qu s.W).d.S i)) (((s.qu s.W).req (o.getD k 0)).fr.toNat+1) 0=0:=rfl
   rw[h2]
   omega
  show 0≤(s.qu s.W).srv _ _ _ _∧(s.qu s.W).srv _ _ _ _≤_
  unfold Qu.srv
  rw[hrq.2] at hn ⊢
  push_cast
  omega
theorem all_may {s:Sv} (h:s.Ok) (hi:Bool) {o:List Nat} (ho:IsCrs s.W o):cntK (s.endW hi o) 100000 s.W.length=s.W.length:=by
 refine cntK_full fun i hi'=>?_
 have:=endW_small h hi ho (i+1) (by omega)
 have:=h.few
 show((s.qu s.W).stQ hi o (i+1)).2≤100000
 omega
end Sv
end Go.Proofs
