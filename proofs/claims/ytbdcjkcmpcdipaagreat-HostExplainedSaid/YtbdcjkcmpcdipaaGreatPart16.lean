/- Own work: texts of the proof of a law (Hs3, Hs4, GwE, GwF, GwG, Gw8). No condition. -/
import Derived.Test.YtbdcjkcmpcdipaaGreatPart15
set_option linter.unusedVariables false
set_option linter.unusedSimpArgs false
namespace Go.Proofs
open Go Go.Sx
set_option maxRecDepth 100000
set_option maxHeartbeats 4000000
namespace Ho
structure ShOk (P:PS→Prop):Prop where
 len:∀u,P u→0<u.E.length∧u.E.length≤7
 hi:∀u,P u→∀e b,2≤b→b<6→(u.ep e).get b=-3
 dr:∀u,P u→∀b,b<6→u.can b→P (u.drainU b)
 cap:∀l:List PS,(∀u∈l,P u)→(l.map skK).Nodup→l.length≤65536
inductive ClD (A:PS→Prop):PS→Prop
 |base {u:PS}:A u→ClD A u
 |dr {u:PS} {b:Nat}:ClD A u→b<6→u.can b→ClD A (u.drainU b)
theorem ClD.ok {A P:PS→Prop} (hP:ShOk P) (hA:∀u,A u→P u) {u:PS} (h:ClD A u):P u:=by
 induction h with
 |base h=>exact hA _ h
 |dr _ hb hc ih=>exact hP.dr _ ih _ hb hc
theorem can_same {P:PS→Prop} (hP:ShOk P) {u v:PS} (hu:P u) (hv:P v) (h:skK u=skK v) (b:Nat):(u.can b↔v.can b)∧skK (u.drainU b)=skK (v.drainU b):=by
 have hs:=skK_inj (by have:=hP.len u hu;omega) (by have:=hP.len v hv;omega) h
 exact⟨hs.can,same_skK (hs.drainU b)⟩
structure DrM (u:PS) (dom:List Int→Prop) (v:List Int→Nat→Int):Prop where
 dom:∀k,dom k↔∃b:Nat,b<6∧k=[(b:Int)]∧u.can b
 val:∀b:Nat,b<6→u.can b→v [(b:Int)]=skI (u.drainU b)
structure DInv (A:PS→Prop) (q L:List PS):Prop where
 hq:∀v∈q,ClD A v
 hL:∀v∈L,ClD A v
 nd:(L.map skK).Nodup
 base:∀v,A v→skK v∈L.map skK∨skK v∈q.map skK
 cl:∀v∈L,∀b,b<6→v.can b→skK (v.drainU b)∈L.map skK∨skK (v.drainU b)∈q.map skK
theorem DInv.old {A:PS→Prop} {u:PS} {q L:List PS} (h:DInv A (u :: q) L) (hu:skK u∈L.map skK):DInv A q L:=by
 refine⟨fun v hv=>h.hq v (a1X _ hv),h.hL,h.nd,fun v hv=>?_,fun v hv b hb hc=>?_⟩
 ·rcases h.base v hv with g|g
  ·exact .inl g
  ·rw[a1Q] at g
   rcases a0O.1 g with g|g
   ·exact .inl (g▸hu)
   ·exact .inr g
 ·rcases h.cl v hv b hb hc with g|g
  ·exact .inl g
  ·rw[a1Q] at g
   rcases a0O.1 g with g|g
   ·exact .inl (g▸hu)
   ·exact .inr g
structure DInn (A:PS→Prop) (u:PS) (q L:List PS) (D:List Nat):Prop where
 hq:∀v∈q,ClD A v
 hu:ClD A u
 hL:∀v∈L,ClD A v
 nd:((L++[u]).map skK).Nodup
 base:∀v,A v→skK v∈(L++[u]).map skK∨skK v∈q.map skK
 cl:∀v∈L,∀b,b<6→v.can b→skK (v.drainU b)∈(L++[u]).map skK∨skK (v.drainU b)∈q.map skK
 cu:∀b∈D,skK (u.drainU b)∈q.map skK
theorem DInv.new {A:PS→Prop} {u:PS} {q L:List PS} (h:DInv A (u :: q) L) (hu:skK u∉L.map skK):DInn A u q L []:=by
 have key:∀k,k∈L.map skK∨k∈(u :: q).map skK→k∈(L++[u]).map skK∨k∈q.map skK:=by
  intro k hk
  rw[a1L,a0M]
  rcases hk with g|g
  ·exact .inl (.inl g)
  ·rw[a1Q] at g
   rcases a0O.1 g with g|g
   ·exact .inl (.inr (by simp[g]))
   ·exact .inr g
 refine⟨fun v hv=>h.hq v (a1X _ hv),h.hq u (a2U ..),h.hL,?_,fun v hv=>key _ (h.base v hv),fun v hv b hb hc=>key _ (h.cl v hv b hb hc),by simp⟩
 rw[a1L,a2N]
 refine⟨h.nd,by simp,fun a ha c hc=>?_⟩
 simp only[a1Q,a3G,a0L] at hc
 subst hc
 rintro rfl
 exact hu ha
theorem DInn.add {A:PS→Prop} {u:PS} {q L:List PS} {D:List Nat} (h:DInn A u q L D) {b:Nat} (hb:b<6) (hc:u.can b):DInn A u (q++[u.drainU b]) L (b :: D):=by
 refine⟨fun v hv=>?_,h.hu,h.hL,h.nd,fun v hv=>(h.base v hv).imp id fun g=>?_,fun v hv b hb hc=>(h.cl v hv b hb hc).imp id fun g=>?_,fun b' hb'=>?_⟩
 ·rcases a0M.1 hv with g|g
  ·exact h.hq v g
  ·rw[a0L.1 g];exact .dr h.hu hb hc
 ·rw[a1L,a0M];exact .inl g
 ·rw[a1L,a0M];exact .inl g
 ·rw[a1L,a0M]
  rcases a0O.1 hb' with rfl|g
  ·exact .inr (by simp)
  ·exact .inl (h.cu b' g)
theorem DInn.done {A P:PS→Prop} (_hP:ShOk P) (_hA:∀u,A u→P u) {u:PS} {q L:List PS} {D:List Nat} (h:DInn A u q L D) (hall:∀b,b<6→u.can b→b∈D):DInv A q (L++[u]):=by
 refine⟨h.hq,fun v hv=>?_,h.nd,h.base,fun v hv b hb hc=>?_⟩
 ·rcases a0M.1 hv with g|g
  ·exact h.hL v g
  ·rw[a0L.1 g];exact h.hu
 ·rcases a0M.1 hv with g|g
  ·exact h.cl v g b hb hc
  ·rw[a0L.1 g] at hc ⊢
   exact .inr (h.cu b (hall b hb hc))
theorem DInv.all {A P:PS→Prop} (hP:ShOk P) (hA:∀u,A u→P u) {L:List PS} (h:DInv A [] L) (k:List Int):k∈L.map skK↔∃u,ClD A u∧skK u=k:=by
 constructor
 ·intro hk
  obtain⟨u,hu,rfl⟩:=a1C.1 hk
  exact⟨u,h.hL u hu,rfl⟩
 ·rintro⟨u,hu,rfl⟩
  induction hu with
  |base hu=>exact(h.base _ hu).elim id (fun g=>by simp at g)
  |@dr u b hu hb hc ih=>
   obtain⟨v,hv,e⟩:=a1C.1 ih
   obtain⟨g1,g2⟩:=can_same hP ((h.hL v hv).ok hP hA) (hu.ok hP hA) e b
   rw[←g2]
   exact(h.cl v hv b hb (g1.2 hc)).elim id (fun g=>by simp at g)
structure OrdOk (h:Hist) (O:List Nat):Prop where
 g:h.Ok
 n:h.n≤2
 l:h.l.length≤6
 hO:∀i∈O,i<h.l.length∧(h.at' i).isO=true∧(h.at' i).k≠9
 len:O.length≤6
namespace OrdOk
variable {h:Hist} {O:List Nat}
theorem cache (o:OrdOk h O):(h.cache O).Ok:=cache_ok_of o.g o.hO (by have:=o.len;omega)
theorem small (o:OrdOk h O):(h.cache O).Small:=⟨o.cache,by have:=o.n;show h.n≤3;omega,by rw[a3m];have:=o.len;omega⟩
theorem sh (o:OrdOk h O) (k:Nat):ShOk (PN h O k):=by
 have hx:=o.cache
 have hO:∀i∈O,i<h.l.length:=fun i hi=>(o.hO i hi).1
 refine⟨fun u hu=>?_,fun u hu e b h2 h6=>?_,fun u hu b hb hc=>hu.drain (hu.can_n o.g hO hx hb hc) hb hc,fun l hl hnd=>PN.cap o.small l hl ?_⟩
 ·have h1:=hu.len hx
  have h2:=hu.le
  have h3:=o.len
  omega
 ·have:=o.n
  exact(hu.hi o.g hO hx h6 (by omega)).2 e
 ·rw[List.Nodup,a1P] at hnd
  exact hnd.imp fun h1 h2=>h1 (same_skK h2)
end OrdOk
def AS (h:Hist) (O:List Nat):Nat→PS→Prop
 |0=>fun v=>v=PS.begin
 |k+1=>fun v=>∃u,ClD (AS h O k) u∧v=u.orderU (O.getD k 0:Nat) (h.at' (O.getD k 0)).o
theorem AS.pn {h:Hist} {O:List Nat} (o:OrdOk h O):∀k,k≤O.length→∀u,AS h O k u→PN h O k u
 |0,_,u,hu=>by rw[show u=PS.begin from hu];exact PN.begin
 |k+1,hk,u,hu=>by
  obtain⟨v,hv,rfl⟩:=hu
  exact(hv.ok (o.sh k) (AS.pn o k (by omega))).order o.cache (by omega)
theorem clD_pn {h:Hist} {O:List Nat} (o:OrdOk h O) {k:Nat} (hk:k≤O.length) (u:PS):ClD (AS h O k) u↔PN h O k u:=by
 refine⟨fun hu=>hu.ok (o.sh k) (AS.pn o k hk),fun hu=>?_⟩
 refine PN.rec' (P:=fun k u=>ClD (AS h O k) u) o.cache (.base rfl) (fun k u b hp ih hb hc=>?_) (fun k u hp ih hk=>.base ⟨u,ih,rfl⟩) k u hu
 exact .dr ih (by have:=o.g.n;omega) hc
theorem skI_begin:∀i,i<73→(if i<6 then -1 else if i=6 then 1 else if i<13 then -3 else 0:Int)=skI PS.begin i:=by
 refine skI_ext (fun b hb=>?_) ?_ (fun e b he hb=>?_)
 ·rw[if_pos hb]
  exact(C6.get_all hb).symm
 ·rfl
 ·rw[if_neg (by omega),if_neg (by omega)]
  show _=if e<1 then _ else 0
  by_cases h0:e=0
  ·subst h0
   rw[if_pos (by omega),if_pos (by omega)]
   exact(C6.get_all hb).symm
  ·rw[if_neg (by omega),if_neg (by omega)]
theorem order_same {P:PS→Prop} (hP:ShOk P) {u v:PS} (hu:P u) (hv:P v) (h:skK u=skK v) (n:Int) (o:Int×Int):skK (u.orderU n o)=skK (v.orderU n o):=by
 have hs:=skK_inj (by have:=hP.len u hu;omega) (by have:=hP.len v hv;omega) h
 exact same_skK (hs.orderU n o)
def natC (i:Nat):List V:=[.int .i64 i]
def imC (n:Nat) (c:C6):List V:=[.sl 1 n (fun b=>[.int .i64 (c.get b)])]
end Ho
end Go.Proofs
namespace Go.Proofs
open Go Go.Sx
set_option maxRecDepth 100000
set_option maxHeartbeats 40000000
namespace Ho
theorem bit_and1 {D n:Nat} (hD:D<64) (hn:n<6):bitsI .and .i64 ((D:Int).fdiv (2 ^ n)) 1=if D.testBit n then 1 else 0:=by
 have key:∀D:Fin 64,∀n:Fin 6,bitsI .and .i64 (((D.1:Nat):Int).fdiv (2 ^ n.1)) 1=if D.1.testBit n.1 then 1 else 0:=by decide +kernel
 exact key ⟨D,hD⟩ ⟨n,hn⟩
theorem bit_orN {D n:Nat} (hD:D<64) (hn:n<6):bitsI .or .i64 (D:Int) (1*2 ^ n)=(D ||| 1 <<< n:Nat):=by
 have key:∀D:Fin 64,∀n:Fin 6,bitsI .or .i64 ((D.1:Nat):Int) (1*2 ^ n.1)=(D.1 ||| 1 <<< n.1:Nat):=by decide +kernel
 exact key ⟨D,hD⟩ ⟨n,hn⟩
theorem bit_andA {D A:Nat} (hD:D<64) (hA:A<64):bitsI .and .i64 (D:Int) (A:Int)=(D &&& A:Nat):=by
 have key:∀D:Fin 64,∀A:Fin 64,bitsI .and .i64 ((D.1:Nat):Int) ((A.1:Nat):Int)=(D.1 &&& A.1:Nat):=by decide +kernel
 exact key ⟨D,hD⟩ ⟨A,hA⟩
def stX (D:Nat) (ov:V) (K:List Int) (bf cm im:V):List V:=[.int .i64 D,ov,.int .i64 (K.getD 0 0),.int .i64 (K.getD 1 0),.int .i64 (K.getD 2 0),.int .i64 (K.getD 3 0),.int .i64 (K.getD 4 0),.int .i64 (K.getD 5 0),bf,cm,im]
theorem was76 (D:Nat) (ov:V) (K:List Int) (bf cm im:V) (n:Nat) (hD:D<64) (hn:n<6):a0q Tryz.prog 139 false [.iptr (stX D ov K bf cm im),.int .i64 n] (·=.prop (D.testBit n=true) inferInstance):=by
 have h1:bitsI .and .i64 ((D:Int).fdiv (2 ^ ((n:Nat):Int).toNat)) 1=if D.testBit n then 1 else 0:=by rw[a1N];exact bit_and1 hD hn
 refine a0c Tryz.E_ok Tryz.func139 rfl (by kernel_rfl) ?_
 refine x11 ?_
 refine⟨⟨by omega,by show _≤64;omega⟩,?_⟩
 refine x11 ?_
 refine⟨_,rfl,?_⟩
 refine⟨?_,trivial⟩
 rw[h1]
 split
 ·rename_i h;exact⟨fun _=>h,fun _=>rfl⟩
 ·rename_i h;exact⟨fun e=>absurd e (by decide),fun e=>absurd e h⟩
theorem may58 (h:Hist) (g:h.Ok) (hl:h.l.length≤6) (D:Nat) (ov:V) (K:List Int) (bf cm im:V) (n:Nat) (hD:D<64) (hn:n<h.l.length):a0q Tryz.prog 99 false [.iptr (stX D ov K bf cm im),h.w,.int .i64 n] (·=.prop (h.May D n) (Classical.propDecidable _)):=by
 refine a0c Tryz.E_ok Tryz.func99 rfl (by kernel_rfl) ?_
 have hn0:((n:Nat):Int).toNat=n:=by omega
 have e0:h.l.getD ((n:Nat):Int).toNat c0=h.at' n:=by rw[hn0];rfl
 refine x11 ?_
 refine a0d (was76 D ov K bf cm im n hD (by omega)) rfl ?_
 rintro _ rfl
 refine x23 (fun hc=>?_) (fun hc=>?_)
 ·refine⟨_,rfl,?_⟩
  refine⟨fun e=>?_,trivial⟩
  rw[e.1] at hc
  cases hc
 ·have hbn:D.testBit n=false:=by simpa using hc
  clear hc
  refine⟨Nat,fun i=>i≤h.l.length∧∀j,j<i→(D.testBit j=false→(h.at' j).t≠-1→¬(h.at' j).t<(h.at' n).f)∧(D.testBit j=true→(h.at' j).k=9→¬(h.at' n).f<(h.at' j).f),fun i=>h.l.length-i,fun i=>[(21,.int .i64 (i:Nat))],fun _=>[],fun _=>[],0,⟨⟨by omega,fun j hj=>by omega⟩,some [some 0,some 1],?_⟩,?_⟩
  ·exact xc22
  ·rintro i ⟨hi,hj⟩
   have hti:((i:Nat):Int).toNat=i:=by omega
   have e1:h.l.getD ((i:Nat):Int).toNat c0=h.at' i:=by rw[hti];rfl
   refine x23 (fun hc=>?_) (fun hc=>?_)
   ·have hil:i<h.l.length:=by omega
    have hck:=g.cmd i hil
    refine a0d (was76 D ov K bf cm im i hD (by omega)) rfl ?_
    rintro _ rfl
    rw[e0,e1]
    generalize ec:h.at' n=cn at *
    (repeat' ((conv=>whnf);first|(with_reducible first|apply spl|apply spl'|refine iJ ?_)<;>intro hc<;>try(exfalso;omega)|refine vcq ?_|refine dr 2002 ?_));all_goals((try conv=>whnf);try exact trivial);(repeat' ((first|(refine a0d (a1n (h.at' i)) rfl ?_;rintro _ rfl)|(refine a0f (a1n (h.at' i)) rfl ?_)|(refine a0l (fun _=>a1n (h.at' i)) rfl ?_)|(refine a0d (was76 D ov K bf cm im i hD (by omega)) rfl ?_;rintro _ rfl)|(refine a0f (was76 D ov K bf cm im i hD (by omega)) rfl ?_)|(refine a0l (fun _=>was76 D ov K bf cm im i hD (by omega)) rfl ?_));refine x23 (fun hc=>?_) (fun hc=>?_)))
    ·refine⟨_,rfl,fun e=>?_,trivial⟩
     have:=(e.2 i hil).1 ((a3N _).mp (by assumption))
     rw[ec] at this
     omega
    ·refine⟨_,rfl,fun e=>?_,trivial⟩
     have:=(e.2 i hil).2 hc.1.1 hc.1.2
     rw[ec] at this
     omega
    ·rename_i hb hc1
     refine⟨i+1,⟨⟨by omega,fun j hj2=>?_⟩,by dsimp only;omega⟩,some [some 0,some 1],?_⟩
     ·rcases a0J (show j≤i by omega) with q|rfl
      ·exact hj j q
      ·exact⟨fun _ h1 h2=>hc1 ⟨by unfold Cmd.Ok at hck;omega,h2⟩,fun h1=>absurd h1 hb⟩
     ·exact xc22
    ·refine⟨_,rfl,fun e=>?_,trivial⟩
     have:=(e.2 i hil).2 hc.1.1 hc.1.2
     rw[ec] at this
     omega
    ·rename_i hc1
     refine⟨i+1,⟨⟨by omega,fun j hj2=>?_⟩,by dsimp only;omega⟩,some [some 0,some 1],?_⟩
     ·rcases a0J (show j≤i by omega) with q|rfl
      ·exact hj j q
      ·exact⟨fun h1=>absurd (by simp[h1]) hc1,fun h1 h2 h3=>hc ⟨⟨h1,h2⟩,h3⟩⟩
     ·exact xc22
   ·refine⟨_,rfl,?_,trivial⟩
    obtain rfl:i=h.l.length:=by omega
    exact⟨hbn,hj⟩
theorem result34_ne (h:Hist) (g:h.Ok) (D:Nat) (O:List Nat) (K:List Int) (bf cm im:V) (b:Nat) (hb:b<6) (hO:∀i∈O,i<h.l.length) (hlen:O.length≤10):a0q Tryz.prog 58 false [.iptr (stX D (.sl 1 O.length (a0u natC 0 O)) K bf cm im),h.w,.int .i64 b] (·=.int .i64 (h.resO b (K.getD b 0) O)):=by
 refine a0c Tryz.E_ok Tryz.func58 rfl (by kernel_rfl) ?_
 refine x11 ?_
 refine a2k Tryz.E_ok Tryz.func83 rfl (by kernel_rfl) ?_
 refine x11 ?_
 refine a2k Tryz.E_ok Tryz.func118 rfl (by kernel_rfl) ?_
 refine x11 ?_
 refine⟨Nat,fun k=>k≤O.length∧h.resO b (K.getD b 0) (O.take k)=h.resO b (K.getD b 0) O,fun k=>k,fun k=>[(3,.int .i64 ((k:Nat)-1))],fun _=>[],fun _=>[],O.length,⟨⟨by omega,by rw[a3B]⟩,some [some 0,some 1,some 2,some 3,some 4],?_⟩,?_⟩
 ·exact xc22
 ·rintro k ⟨hk,hr⟩
  have htk:((k:Nat)-1:Int).toNat=k-1:=by omega
  refine x23 (fun hc=>?_) (fun hc=>?_)
  ·have hk1:k-1<O.length:=by omega
   obtain⟨hid,hmem⟩:O.getD (k-1) 0<h.l.length∧O.getD (k-1) 0∈O:=by
    have:O.getD (k-1) 0∈O:=by
     rw[a0A,a0D hk1]
     exact a1F hk1
    exact⟨hO _ this,this⟩
   have hres:h.resO b (K.getD b 0) (O.take k)=if(h.at' (O.getD (k-1) 0)).Puts∧(h.at' (O.getD (k-1) 0)).b=b then(h.at' (O.getD (k-1) 0)).v else h.resO b (K.getD b 0) (O.take (k-1)):=by
    have:O.take k=O.take (k-1)++[O.getD (k-1) 0]:=by
     obtain⟨m,rfl⟩:∃m,k=m+1:=⟨k-1,by omega⟩
     have hk2:m<O.length:=hk1
     rw[List.take_add_one,Nat.add_sub_cancel,a0D hk2]
     simp[a0A,a0D hk2]
    rw[this,Hist.resO_snoc]
   rw[htk]
   have hik:((O.getD (k-1) 0:Nat):Int).toNat=O.getD (k-1) 0:=a1N _
   generalize O.getD (k-1) 0=n at *
   refine ycall_exec Tryz.E_ok rfl rfl rfl ?_
   have e1:h.l.getD ((n:Nat):Int).toNat c0=h.at' n:=by rw[a1N];rfl
   refine x11 ?_
   rw[e1]
   refine x11 ?_;(repeat' ((first|(refine a0d (puts48 (h.at' n)) rfl ?_;rintro _ rfl)|(refine a0f (puts48 (h.at' n)) rfl ?_)|(refine a0l (fun _=>puts48 (h.at' n)) rfl ?_));refine x23 (fun hc=>?_) (fun hc=>?_)))
   ·refine⟨_,rfl,?_⟩
    refine⟨?_,?_⟩
    ·rw[←hr,hres,if_pos hc]
    ·exact xc22
   ·refine⟨k-1,⟨⟨by omega,by rw[←hr,hres,if_neg hc]⟩,by dsimp only;omega⟩,some [some 0,some 1,some 2,some 3,some 4],?_⟩
    exact xc22
  ·have k0:k=0:=by omega
   subst k0
   rcases six hb with rfl|rfl|rfl|rfl|rfl|rfl<;>(refine x11 ?_;refine⟨_,rfl,?_⟩;refine⟨hr,?_⟩;exact xc22)
theorem a0q.weak {P:Program} {g:FuncId} {keep:Bool} {args cargs:List V} {R:V→Prop} (h:a0q P g keep cargs R) (hw:∀I w vals,DenL I [] w args vals→DenL I [] w cargs vals):a0q P g keep args R:=⟨h.1,fun I w vals hI hd=>h.2 I w vals hI (hw _ _ _ hd)⟩
def kpI (h:Hist) (K:List Int) (c:C6) (i b:Nat):Int:=if b<i then h.keep1 (K.getD b 0) (c.get b) else K.getD b 0
def kpV (h:Hist) (K:List Int) (c:C6) (i:Nat):List V:=[.int .i64 (kpI h K c i 0),.int .i64 (kpI h K c i 1),.int .i64 (kpI h K c i 2),.int .i64 (kpI h K c i 3),.int .i64 (kpI h K c i 4),.int .i64 (kpI h K c i 5)]
theorem kept37 (h:Hist) (g:h.Ok) (hn:h.n≤2) (D:Nat) (ov:V) (K:List Int) (bf cm im:V) (c:C6) (hcI:∀b,b<h.nn→c.get b=-1∨c.get b=-2∨∃i:Nat,c.get b=i∧i<h.l.length):a0q Tryz.prog 61 false [.iptr (stX D ov K bf cm im),h.w,.sl 1 h.nn (fun b=>[.int .i64 (c.get b)])] (·=.agg (kpV h K c h.nn)):=by
 refine a0c Tryz.E_ok Tryz.func61 rfl (by kernel_rfl) ?_
 have hnn:=g.nn
 have hlen:=g.len
 refine x1 ?_
 refine⟨Nat,fun i=>i≤h.nn,fun i=>h.nn-i,fun i=>[(16,.int .i64 (i:Nat))],fun i=>[(2,.cells 90 (kpV h K c i))],fun _=>[],0,⟨by omega,some [some 0,some 1,some 2],?_⟩,?_⟩
 ·exact xc3
 ·intro i hi
  by_cases hin:i<h.nn
  ·have hci:=hcI i hin
   have ks:∀b,kpI h K c (i+1) b=if b=i then h.keep1 (K.getD i 0) (c.get i) else kpI h K c i b:=fun b=>by
    unfold kpI
    by_cases e:b=i
    ·subst e;rw[if_pos (by omega),if_pos rfl]
    ·rw[if_neg e]
     by_cases q:b<i
     ·rw[if_pos q,if_pos (by omega)]
     ·rw[if_neg q,if_neg (by omega)]
   have kn:kpI h K c i i=K.getD i 0:=if_neg (by omega)
   have kst:=fun b=>(ks b).symm
   have hi2:i=0∨i=1:=by omega
   have kk:kpI h K c (i+1) i=if c.get ((i:Nat):Int).toNat=-1 then K.getD i 0 else if c.get ((i:Nat):Int).toNat=-2 then -1 else(h.at' (c.get ((i:Nat):Int).toNat).toNat).v:=by
    rw[ks,if_pos rfl,a1N]
    rfl
   have hci2:¬c.get ((i:Nat):Int).toNat=-1→¬c.get ((i:Nat):Int).toNat=-2→0≤c.get ((i:Nat):Int).toNat∧c.get ((i:Nat):Int).toNat<h.l.length:=by
    rw[a1N]
    intro h1 h2
    rcases hci with e|e|⟨k,e,hk⟩
    ·exact absurd e h1
    ·exact absurd e h2
    ·rw[e];omega
   clear hci
   clear hi hcI ks
   rcases hi2 with rfl|rfl
   all_goals refine x24 (fun hc hc=>?_) (fun hc hc hc=>?_) (fun hc hc hc=>?_)
   ·refine⟨1,⟨by omega,by dsimp only;omega⟩,some [some 0,some 1,some 2],?_⟩
    refine x1 ?_
    refine⟨by rw[kk,if_pos hc];exact kn,?_⟩
    exact xc3
   ·refine⟨1,⟨by omega,by dsimp only;omega⟩,some [some 0,some 1,some 2],?_⟩
    refine x1 ?_
    refine⟨by rw[kk,if_neg (by assumption),if_pos hc],?_⟩
    exact xc3
   ·refine⟨1,⟨by omega,by dsimp only;omega⟩,some [some 0,some 1,some 2],?_⟩
    refine x1 ?_
    refine⟨by rw[kk,if_neg (by assumption),if_neg hc];rfl,?_⟩
    exact xc3
   ·refine⟨2,⟨by omega,by dsimp only;omega⟩,some [some 0,some 1,some 2],?_⟩
    refine x1 ?_
    refine⟨by rw[kk,if_pos hc];exact kn,?_⟩
    exact xc3
   ·refine⟨2,⟨by omega,by dsimp only;omega⟩,some [some 0,some 1,some 2],?_⟩
    refine x1 ?_
    refine⟨by rw[kk,if_neg (by assumption),if_pos hc],?_⟩
    exact xc3
   ·refine⟨2,⟨by omega,by dsimp only;omega⟩,some [some 0,some 1,some 2],?_⟩
    refine x1 ?_
    refine⟨by rw[kk,if_neg (by assumption),if_neg hc];rfl,?_⟩
    exact xc3
  ·obtain rfl:i=h.nn:=by omega
   refine x1 (fun hc=>?_)
   refine⟨_,rfl,?_⟩
   exact xc3
def slO (O:List Nat):V:=.sl 1 O.length (a0u natC 0 O)
noncomputable def imV (h:Hist):Option C6→V
 |none=>.lit (.slice none 0 0)
 |some c=>.sl 1 h.nn (fun b=>[.int .i64 (c.get b)])
namespace SR
def cm:SR→Nat
 |root=>0
 |node _ _ c _=>c
def im:SR→Option C6
 |root=>none
 |node _ _ _ m=>m
def oV:SR→V
 |root=>.lit (.slice none 0 0)
 |node _ _ _ (some _)=>.lit (.slice none 0 0)
 |node s _ _ none=>slO s.O
noncomputable def bf (h:Hist):SR→V
 |root=>.lit (.pointer none)
 |node _ b _ _=>.iptr (stX (b.st h).D (slO (b.st h).O) (b.st h).K (bf h b) (.int .i64 b.cm) (imV h b.im))
noncomputable def c (h:Hist) (r:SR):List V:=stX (r.st h).D r.oV (r.st h).K (r.bf h) (.int .i64 r.cm) (imV h r.im)
noncomputable def cw (h:Hist) (r:SR):List V:=stX (r.st h).D (slO (r.st h).O) (r.st h).K (r.bf h) (.int .i64 r.cm) (imV h r.im)
end SR
theorem stX_lit {D:Nat} {O:List Nat} {K:List Int} {bf cm im:V} {r:List V} {I:Nat→Prop} {w:World} {vals:List Value} (h0:O=[]) (h:DenL I [] w (.iptr (stX D (.lit (.slice none 0 0)) K bf cm im) :: r) vals):DenL I [] w (.iptr (stX D (slO O) K bf cm im) :: r) vals:=by
 subst h0
 obtain⟨v,rest,rfl,⟨b,o,vs,h1,h2,h3,h4,h5⟩,hr⟩:=h
 obtain⟨v1,r1,rfl,d1,v2,r2,rfl,d2,hrest⟩:=h5
 exact⟨v,rest,rfl,⟨b,o,_,h1,h2,h3,h4,⟨v1,_,rfl,d1,v2,r2,rfl,.inl ⟨rfl,none,0,d2⟩,hrest⟩⟩,hr⟩
theorem SR.weak {h:Hist} {s:SR} (hs:s.Good h) {r:List V} {I:Nat→Prop} {w:World} {vals:List Value} (hd:DenL I [] w (.iptr (s.c h) :: r) vals):DenL I [] w (.iptr (s.cw h) :: r) vals:=by
 match s,hs,hd with
 |.root,_,hd=>exact stX_lit rfl hd
 |.node s b c none,_,hd=>exact hd
 |.node s b c (some im),hs,hd=>
  have:s.O=[]:=by
   rcases hs.2.2.2 with⟨_,h2,_⟩|⟨_,_,_,_,rfl⟩
   ·cases h2
   ·rfl
  exact stX_lit this hd
theorem stX_base {P:Program} {g:FuncId} {keep:Bool} {D:Nat} {K:List Int} {bf cm im:V} {r:List V} {R:V→Prop} (h:∀a cap,a0q P g keep (.iptr (stX D (.lit (.slice a 0 cap)) K bf cm im) :: r) R):a0q P g keep (.iptr (stX D (slO []) K bf cm im) :: r) R:=by
 refine⟨(h none 0).1,fun I w vals hI hd=>?_⟩
 obtain⟨v,rest,rfl,⟨b,o,vs,h1,h2,h3,h4,h5⟩,hr⟩:=hd
 obtain⟨v1,r1,rfl,d1,v2,r2,rfl,d2,hrest⟩:=h5
 have:∃a cap,v2=.slice a 0 cap:=by
  rcases d2 with⟨_,a,cap,e⟩|⟨b,o,cap,e,_⟩
  ·exact⟨a,cap,e⟩
  ·exact⟨_,cap,e⟩
 obtain⟨a,cap,rfl⟩:=this
 exact(h a cap).2 I w _ hI ⟨v,rest,rfl,⟨b,o,_,h1,h2,h3,h4,⟨v1,_,rfl,d1,_,r2,rfl,rfl,hrest⟩⟩,hr⟩
def DImp:List V→List V→Prop
 |[],[]=>True
 |a :: l,b :: m=>(∀(I:Nat→Prop) (w:World) (v:Value),Den I [] w a v→Den I [] w b v)∧DImp l m
 |_,_=>False
theorem denL_dimp {I:Nat→Prop} {w:World}:∀{l m:List V} {vs:List Value},DImp l m→DenL I [] w l vs→DenL I [] w m vs
 |[],[],_,_,h=>h
 |[],_ :: _,_,hd,_=>hd.elim
 |_ :: _,[],_,hd,_=>hd.elim
 |a :: l,b :: m,_,hd,h=>by
  obtain⟨v,rest,rfl,h1,h2⟩:=h
  exact⟨v,rest,rfl,hd.1 _ _ _ h1,denL_dimp hd.2 h2⟩
theorem den_iptr {I:Nat→Prop} {w:World} {v:Value} {l m:List V} (hd:DImp l m) (h:Den I [] w (.iptr l) v):Den I [] w (.iptr m) v:=by
 obtain⟨b,o,vs,h1,h2,h3,h4,h5⟩:=h
 exact⟨b,o,vs,h1,h2,h3,h4,denL_dimp hd h5⟩
theorem den_base {I:Nat→Prop} {w:World} {v:Value} {a:Option Addr} {cap:Nat} (h:Den I [] w (.lit (.slice a 0 cap)) v):Den I [] w (slO []) v:=.inl ⟨rfl,a,cap,h⟩
theorem a0q.soft {P:Program} {g:FuncId} {keep:Bool} {args:List V} {x y:V} (h:a0q P g keep args (·=x)) (hi:∀(I:Nat→Prop) (w:World) (v:Value),Den I [] w x v→Den I [] w y v):a0q P g keep args (·=y):=by
 refine⟨h.1,fun I w vals hI hd=>(h.2 I w vals hI hd).mono ?_⟩
 rintro e w' ⟨ret,v,h1,rfl,h3,h4⟩
 exact⟨y,v,h1,rfl,hi _ _ _ h3,h4⟩
def stF (s:St) (i:Nat):Int:=(stK s).getD i 0
def kF (f:Nat→Int):List Int:=[f 0,f 1,f 2,f 3,f 4,f 5,f 6,f 7,f 8,f 9,f 10,f 11,f 12,f 13,f 14,f 15,f 16,f 17]
def kV (f:Nat→Int):List V:=[.int .i64 (f 0),.int .i64 (f 1),.int .i64 (f 2),.int .i64 (f 3),.int .i64 (f 4),.int .i64 (f 5),.int .i64 (f 6),.int .i64 (f 7),.int .i64 (f 8),.int .i64 (f 9),.int .i64 (f 10),.int .i64 (f 11),.int .i64 (f 12),.int .i64 (f 13),.int .i64 (f 14),.int .i64 (f 15),.int .i64 (f 16),.int .i64 (f 17)]
theorem key41 (h:Hist) (r:SR) (hl:(r.st h).O.length≤6):a0q Tryz.prog 70 false [.iptr (r.cw h)] (·=.agg (kV (stF (r.st h)))):=by
 unfold SR.cw
 generalize r.bf h=bf
 generalize imV h r.im=im
 generalize r.cm=cm
 generalize r.st h=s at *
 refine a0c Tryz.E_ok Tryz.func70 rfl (by kernel_rfl) ?_
 have hcp:∀(i:Nat) (d:Decidable (i<min s.O.length ((10:Int)).toNat)),i<10→@ite Int (i<min s.O.length ((10:Int)).toNat) d ((s.O.getD i 0:Nat):Int) 0=((s.O.getD i 0:Nat):Int):=fun i d hi=>by
  split
  ·rfl
  ·rw[a0A,a0P (by omega)]
   rfl
 refine x12 ?_
 refine⟨_,rfl,?_⟩
 refine x12 ?_
 iterate 10 (refine⟨hcp _ _ (by omega),?_⟩;(repeat' ((conv=>whnf);first|(with_reducible first|apply spl|apply spl'|refine iJ ?_)<;>intro hc<;>try(exfalso;omega)|refine vcq ?_|refine dr 20 ?_|refine dr 15 ?_|refine dr 6 ?_));all_goals((try conv=>whnf);try exact trivial))
theorem do59_no (h:Hist) (g:h.Ok) (D:Nat) (O:List Nat) (K:List Int) (bf cm im:V) (n:Nat) (hD:D<64) (hn:n<h.l.length) (hn6:n<6) (hO:(h.at' n).isO=false):a0q Tryz.prog 100 true [.iptr (stX D (slO O) K bf cm im),h.w,.int .i64 n] (·=.iptr (stX (D ||| 1 <<< n) (slO O) K (.iptr (stX D (slO O) K bf cm im)) (.int .i64 n) (.lit (.slice none 0 0)))):=by
 have hn0:((n:Nat):Int).toNat=n:=by omega
 have e0:h.l.getD ((n:Nat):Int).toNat c0=h.at' n:=by rw[hn0];rfl
 have h1:bitsI .or .i64 (D:Int) (1*2 ^ ((n:Nat):Int).toNat)=(D ||| 1 <<< n:Nat):=by rw[hn0];exact bit_orN hD hn6
 have hck:=g.cmd n hn
 refine a0c Tryz.E_ok Tryz.func100 rfl (by kernel_rfl) ?_
 have h2:(0:Int)≤(n:Nat)∧((n:Nat):Int).toNat≤IntKind.i64.bits∧inR .i64 (1*2 ^ ((n:Nat):Int).toNat):=by
  rw[hn0]
  rcases six hn6 with rfl|rfl|rfl|rfl|rfl|rfl<;>(refine⟨by omega,by decide,?_⟩;unfold inR;decide)
 refine x12 ?_
 rw[e0]
 generalize h.at' n=c at *
 have hk:c.k=10∨(c.k=4∧c.t=-1):=by
  unfold Cmd.isO at hO
  simp at hO
  omega
 clear hO hck
 refine x12 ?_;(repeat' ((first|(refine a0d (a1n c) rfl ?_;rintro _ rfl)|(refine a0f (a1n c) rfl ?_)|(refine a0l (fun _=>a1n c) rfl ?_));refine x12 (fun hc=>?_)))
 refine⟨_,rfl,?_⟩
 exact xc31
theorem do59_yes (h:Hist) (g:h.Ok) (D:Nat) (O:List Nat) (K:List Int) (bf cm im:V) (n:Nat) (hD:D<64) (hn:n<h.l.length) (hn6:n<6) (hO:(h.at' n).isO=true) (hl:0<O.length∧O.length≤6):a0q Tryz.prog 100 true [.iptr (stX D (slO O) K bf cm im),h.w,.int .i64 n] (·=.iptr (stX (D ||| 1 <<< n) (slO (O++[n])) K (.iptr (stX D (slO O) K bf cm im)) (.int .i64 n) (.lit (.slice none 0 0)))):=by
 have hn0:((n:Nat):Int).toNat=n:=by omega
 have e0:h.l.getD ((n:Nat):Int).toNat c0=h.at' n:=by rw[hn0];rfl
 have h1:bitsI .or .i64 (D:Int) (1*2 ^ ((n:Nat):Int).toNat)=(D ||| 1 <<< n:Nat):=by rw[hn0];exact bit_orN hD hn6
 have hck:=g.cmd n hn
 have h2:(0:Int)≤(n:Nat)∧((n:Nat):Int).toNat≤IntKind.i64.bits∧inR .i64 (1*2 ^ ((n:Nat):Int).toNat):=by
  rw[hn0]
  rcases six hn6 with rfl|rfl|rfl|rfl|rfl|rfl<;>(refine⟨by omega,by decide,?_⟩;unfold inR;decide)
 refine a0c Tryz.E_ok Tryz.func100 rfl (by kernel_rfl) ?_
 refine x12 ?_
 rw[e0]
 generalize h.at' n=c at *
 have hk:c.k≠10∧¬(c.k=4∧c.t=-1):=by
  unfold Cmd.isO at hO
  simp at hO
  omega
 unfold Cmd.Ok at hck
 clear hO
 refine x12 ?_;(repeat' ((first|(refine a0d (a1n c) rfl ?_;rintro _ rfl)|(refine a0f (a1n c) rfl ?_)|(refine a0l (fun _=>a1n c) rfl ?_));refine x12 (fun hc=>?_)))
 clear hck hk
 refine a2k Tryz.E_ok Tryz.func88 rfl (by kernel_rfl) ?_
 refine x12 ?_
 refine⟨_,rfl,?_⟩
 refine x12 ?_
 refine⟨by simp,a2d (c:=natC) (a:=n) (l:=O) (Nat.zero_add _) (fun i _=>by unfold appF;rw[if_neg (by omega)];rfl),?_⟩
 exact xc31
theorem do59_lit (h:Hist) (g:h.Ok) (D:Nat) (K:List Int) (bf cm im:V) (n:Nat) (hD:D<64) (hn:n<h.l.length) (hn6:n<6) (hO:(h.at' n).isO=true) (a:Option Addr) (cap:Nat):a0q Tryz.prog 100 true [.iptr (stX D (.lit (.slice a 0 cap)) K bf cm im),h.w,.int .i64 n] (·=.iptr (stX (D ||| 1 <<< n) (slO [n]) K (.iptr (stX D (.lit (.slice a 0 cap)) K bf cm im)) (.int .i64 n) (.lit (.slice none 0 0)))):=by
 have hn0:((n:Nat):Int).toNat=n:=by omega
 have e0:h.l.getD ((n:Nat):Int).toNat c0=h.at' n:=by rw[hn0];rfl
 have h1:bitsI .or .i64 (D:Int) (1*2 ^ ((n:Nat):Int).toNat)=(D ||| 1 <<< n:Nat):=by rw[hn0];exact bit_orN hD hn6
 have hck:=g.cmd n hn
 have h2:(0:Int)≤(n:Nat)∧((n:Nat):Int).toNat≤IntKind.i64.bits∧inR .i64 (1*2 ^ ((n:Nat):Int).toNat):=by
  rw[hn0]
  rcases six hn6 with rfl|rfl|rfl|rfl|rfl|rfl<;>(refine⟨by omega,by decide,?_⟩;unfold inR;decide)
 refine a0c Tryz.E_ok Tryz.func100 rfl (by kernel_rfl) ?_
 cases a
 all_goals refine x12 ?_
 all_goals rw[e0]
 all_goals generalize h.at' n=c at *
 all_goals
  have hk:c.k≠10∧¬(c.k=4∧c.t=-1):=by
   unfold Cmd.isO at hO
   simp at hO
   omega
  unfold Cmd.Ok at hck
  clear hO
  refine x12 ?_;(repeat' ((first|(refine a0d (a1n c) rfl ?_;rintro _ rfl)|(refine a0f (a1n c) rfl ?_)|(refine a0l (fun _=>a1n c) rfl ?_));refine x12 (fun hc=>?_)))
  clear hck hk
  refine a2k Tryz.E_ok Tryz.func88 rfl (by kernel_rfl) ?_
  refine x12 ?_
  refine⟨_,rfl,?_⟩
  refine x12 ?_
  refine⟨fun i hi=>by(obtain rfl:i=0:=by omega);rfl,?_⟩
  exact xc31
theorem do59 (h:Hist) (r:SR) (g:h.Ok) (hr:(r.st h).O.length≤6) (n:Nat) (hD:(r.st h).D<64) (hn:n<h.l.length) (hn6:n<6):a0q Tryz.prog 100 true [.iptr (r.cw h),h.w,.int .i64 n] (·=.iptr ((SR.node (h.doO (r.st h) n) r n none).c h)):=by
 have key:∀O',(if(h.at' n).isO then(r.st h).O++[n] else(r.st h).O)=O'→SR.c h (.node (h.doO (r.st h) n) r n none)=stX ((r.st h).D ||| 1 <<< n) (slO O') (r.st h).K (.iptr (r.cw h)) (.int .i64 n) (.lit (.slice none 0 0)):=by
  rintro _ rfl
  rfl
 unfold SR.cw at *
 generalize r.bf h=bf at *
 generalize imV h r.im=im at *
 generalize (V.int .i64 r.cm)=cm at *
 generalize r.st h=s at *
 by_cases hO:(h.at' n).isO=true
 ·rw[key _ (if_pos hO)]
  by_cases h0:s.O=[]
  ·rw[h0]
   refine stX_base fun a cap=>?_
   refine a0q.soft (do59_lit h g s.D s.K bf cm im n hD hn hn6 hO a cap) fun I w v hd=>den_iptr ?_ hd
   refine⟨fun _ _ _ h=>h,fun _ _ _ h=>h,fun _ _ _ h=>h,fun _ _ _ h=>h,fun _ _ _ h=>h,fun _ _ _ h=>h,fun _ _ _ h=>h,fun _ _ _ h=>h,fun _ _ _ h=>den_iptr ?_ h,fun _ _ _ h=>h,fun _ _ _ h=>h,trivial⟩
   exact⟨fun _ _ _ h=>h,fun _ _ _ h=>den_base h,fun _ _ _ h=>h,fun _ _ _ h=>h,fun _ _ _ h=>h,fun _ _ _ h=>h,fun _ _ _ h=>h,fun _ _ _ h=>h,fun _ _ _ h=>h,fun _ _ _ h=>h,fun _ _ _ h=>h,trivial⟩
  ·exact do59_yes h g s.D s.O s.K bf cm im n hD hn hn6 hO ⟨List.length_pos_iff.2 h0,hr⟩
 ·rw[key _ (if_neg hO)]
  exact do59_no h g s.D s.O s.K bf cm im n hD hn hn6 (by simpa using hO)
def domD (f:Nat→Int) (e b:Nat) (k:List Int):Prop:=∃b':Nat,b'<b∧k=[(b':Int)]∧f (7+6*e+b')≠-3
noncomputable def valD (f:Nat→Int) (e:Nat) (k:List Int):List V:=skV (wrF f e (k.headD 0).toNat)
def a2q (f:Nat→Int) (e:Nat):Prop:=∀e',e'<e→∀b,b<6→f (7+6*e'+b)=-3
structure DrH (f:Nat→Int) (L:Nat) (H:List O):Prop where
 h:(∃e n g,e<L∧a2q f e∧¬a2q f (e+1)∧H=[.map [.i64] false true (domD f e 6) (valD f e) n g])∨(∃g,a2q f L∧H=[.map [.i64] false true (fun _=>False) (valD f 0) 0 g])
theorem a2v {f:Nat→Int} {e:Nat} (h:a2q f e) (h2:f (7+6*e+0)=-3∧f (7+6*e+1)=-3∧f (7+6*e+2)=-3∧f (7+6*e+3)=-3∧f (7+6*e+4)=-3∧f (7+6*e+5)=-3):a2q f (e+1):=by
 intro e' he b hb
 rcases a0J (show e'≤e by omega) with h3|rfl
 ·exact h e' h3 b hb
 ·rcases six hb with rfl|rfl|rfl|rfl|rfl|rfl
  ·exact h2.1
  ·exact h2.2.1
  ·exact h2.2.2.1
  ·exact h2.2.2.2.1
  ·exact h2.2.2.2.2.1
  ·exact h2.2.2.2.2.2
theorem emptyD_at {f:Nat→Int} {e:Nat} (h:a2q f (e+1)):f (7+6*e+0)=-3∧f (7+6*e+1)=-3∧f (7+6*e+2)=-3∧f (7+6*e+3)=-3∧f (7+6*e+4)=-3∧f (7+6*e+5)=-3:=
 ⟨h e (by omega) 0 (by omega),h e (by omega) 1 (by omega),h e (by omega) 2 (by omega),h e (by omega) 3 (by omega),h e (by omega) 4 (by omega),h e (by omega) 5 (by omega)⟩
theorem a2r {f:Nat→Int} {e b:Nat} (h:f (7+6*e+b)≠-3) (k:List Int):a0p (domD f e b) [(b:Int)] k↔domD f e (b+1) k:=by
 unfold a0p domD
 constructor
 ·rintro(rfl|⟨b',h1,h2,h3⟩)
  ·exact⟨b,by omega,rfl,h⟩
  ·exact⟨b',by omega,h2,h3⟩
 ·rintro⟨b',h1,h2,h3⟩
  rcases a0J (show b'≤b by omega) with h4|rfl
  ·exact .inr ⟨b',h4,h2,h3⟩
  ·exact .inl h2
theorem a0h {f:Nat→Int} {e b:Nat} (h:f (7+6*e+b)=-3) (k:List Int):domD f e b k↔domD f e (b+1) k:=by
 unfold domD
 constructor
 ·rintro⟨b',h1,h2,h3⟩
  exact⟨b',by omega,h2,h3⟩
 ·rintro⟨b',h1,h2,h3⟩
  rcases a0J (show b'≤b by omega) with h4|rfl
  ·exact⟨b',h4,h2,h3⟩
  ·exact absurd h h3
theorem skV_map (f:Nat→Int):skV f=(List.range 73).map fun i=>V.int .i64 (f i):=rfl
theorem mrgL_sk (p:Prop) (f g:Nat→Int):mrgL p (skV f) (skV g)=skV (@ite _ p (Classical.propDecidable _) f g):=by
 have key:∀l:List Nat,pickDL p (l.map fun i=>V.int .i64 (f i)) (l.map fun i=>V.int .i64 (g i))=some (l.map fun i=>V.int .i64 (@ite _ p (Classical.propDecidable _) (f i) (g i))):=by
  intro l
  induction l with
  |nil=>rfl
  |cons a l ih=>simp only[a1Q,pickDL,ih];simp[pickD]
 unfold mrgL
 rw[skV_map,skV_map,key,skV_map]
 by_cases hp:p<;>simp[hp]
theorem a2p {f:Nat→Int} {e b:Nat} {k:List Int}:valPut (valD f e) [(b:Int)] (skV (wrF f e b)) k=valD f e k:=by
 unfold valPut
 by_cases h:k=[(b:Int)]
 ·subst h
  unfold valD
  rw[mrgL_sk,if_pos rfl]
  simp
 ·unfold valD
  rw[mrgL_sk,if_neg h]
noncomputable def drainsA (f:Nat→Int) (L:Nat) (hL:L≤7) (hf:f 6=L) :
  {G:MG→Nat→MG→Prop // (∀g0 e g,e≤L→a2q f e→G g0 e g)→NewC Tryz.prog 87 [.agg (skVL L f)] (fun r H=>r=.map 0∧DrH f L H)}:=by
 constructor
 case property=>
  intro hG
  refine newC_ent Tryz.E_ok Tryz.func87 rfl (by kernel_rfl) ?_
  refine x1 ?_
  intro g0
  refine x1 ?_
  refine⟨Nat×MG,fun q=>q.1≤L∧a2q f q.1,fun q=>L-q.1,fun q=>[(11,.int .i64 (q.1:Nat))],fun q=>[(1,.map [.i64] false true (fun _=>False) (valD f 0) 0 q.2)],fun _=>[],(0,g0),⟨⟨by dsimp only;omega,fun e' he=>by dsimp only at he;omega⟩,some [some 0,some 1],?_⟩,?_⟩
  ·refine x1 ?_
   refine⟨a0a (fun k _=>⟨a1R,fun h=>h.elim⟩),?_⟩
   exact xc3
  ·rintro⟨e,g⟩ ⟨h1,h2⟩
   exact hG g0 e g h1 h2
end Ho
end Go.Proofs
