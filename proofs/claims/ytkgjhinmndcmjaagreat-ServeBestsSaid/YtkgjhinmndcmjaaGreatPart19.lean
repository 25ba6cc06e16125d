/- Own work: texts of the proof of a law (WvK, Ws9, WsA, WsB, WsO, WsP, WvM). No condition. -/
import Derived.Test.YtkgjhinmndcmjaaGreatPart18
namespace Go.Proofs
open Go Go.Sx
set_option maxRecDepth 100000
set_option maxHeartbeats 40000000
def Tryz.EW:Go.Sx.Env:={size:=1} :: Tryz.E.tail
theorem Tryz.EW_ok:Go.Sx.ProgOk Tryz.EW Tryz.prog:=⟨a0z.flag (show a0z ({} :: Tryz.E.tail) Tryz.prog from Tryz.E_ok.env),Tryz.E_ok.mixed⟩
def Qu.DuR (q:Qu):Prop:=∀r,IntKind.i64.min≤(q.rq.getD r Rq.none).du∧(q.rq.getD r Rq.none).du≤IntKind.i64.max
theorem wrap_due {n:Int} (h1:IntKind.i64.min≤n) (h2:n≤IntKind.i64.max):(0≤IntKind.i64.wrap (n+1)∧IntKind.i64.wrap (n+1)≤100001)↔(-1≤n∧n≤100000):=by
 by_cases h:n=IntKind.i64.max
 ·subst h
  exact⟨fun g=>absurd g (by decide),fun g=>absurd g (by decide)⟩
 ·have e:IntKind.i64.wrap (n+1)=n+1:=wrap_in .i64 _ ⟨by omega,by omega⟩
  rw[e]
  omega
theorem wrap_nat {i:Nat} (h:i≤1000000):IntKind.i64.wrap ((i:Int)+1)=i+1:=wrap_in .i64 _ ⟨by show(-9223372036854775808:Int)≤_;omega,by show _≤(9223372036854775807:Int);omega⟩
def Qu.pre (q:Qu) (i:Nat):Int:=if i=0 then 0 else(q.rq.getD (i-1) Rq.none).t0
theorem Qu.pre_succ (q:Qu) (i:Nat):q.pre (i+1)=(q.rq.getD i Rq.none).t0:=by
 unfold Qu.pre
 rw[if_neg (by omega),Nat.add_sub_cancel]
theorem Check10 (q:Qu) (hz:q.d.Z.length≤1000000) (_hsk:q.sk.length≤1000000) (hrq:q.rq.length≤1000000) (hdu:q.DuR):a0h Tryz.prog 92 false [.agg q.c] (·=.int .i64 q.chk):=by
 refine a0a Tryz.EW_ok Tryz.func92 rfl (by kernel_rfl) ?_
 (repeat' ((conv=>whnf);first|(with_reducible first|apply spl|apply spl'|refine iJ ?_)<;>intro hc<;>try(exfalso;omega)|refine vcq ?_|fail));all_goals(try conv=>whnf);try exact trivial
 refine a0b (Check63 q.d hz) rfl ?_
 rintro _ rfl
 (repeat' ((conv=>whnf);first|(with_reducible first|apply spl|apply spl'|refine iJ ?_)<;>intro hc<;>try(exfalso;omega)|refine vcq ?_|fail));all_goals(try conv=>whnf);try exact trivial
 ·have hd:¬q.d.Ok:=fun h=>hc (Dk.chk_of h)
  rw[Qu.chk_dk hd,Dk.chk_no hd]
  refine⟨_,rfl,?_⟩
  (repeat' ((conv=>whnf);first|(with_reducible first|apply spl|apply spl'|refine iJ ?_)<;>intro hc<;>try(exfalso;omega)|refine vcq ?_|fail));all_goals(try conv=>whnf);try exact trivial
 ·have hd:q.d.Ok:=Dk.chk_ok (Classical.not_not.1 hc)
  clear hc
  refine a0b (size64 q.d hd) rfl ?_
  rintro _ rfl
  have hSl:=(q.d.S_len hd).1
  have hcn:=q.d.cnt_le hd
  (repeat' ((conv=>whnf);first|(with_reducible first|apply spl|apply spl'|refine iJ ?_)<;>intro hc<;>try(exfalso;omega)|refine vcq ?_|fail));all_goals((try conv=>whnf);try exact trivial);(repeat' ((first|(refine a0b (to65 _ _) rfl ?_;rintro _ rfl)|(refine a0c (to65 _ _) rfl ?_)|(refine a0g (fun _=>to65 _ _) rfl ?_));(repeat' ((conv=>whnf);first|(with_reducible first|apply spl|apply spl'|refine iJ ?_)<;>intro hc<;>try(exfalso;omega)|refine vcq ?_|fail));all_goals((try conv=>whnf);try exact trivial)))
  ·rw[Qu.chk_no hd (fun h=>by have:=h.cyl;have:=h.skl;have:=h.rql;have:=h.pas;omega)]
   refine⟨_,rfl,?_⟩
   (repeat' ((conv=>whnf);first|(with_reducible first|apply spl|apply spl'|refine iJ ?_)<;>intro hc<;>try(exfalso;omega)|refine vcq ?_|fail));all_goals(try conv=>whnf);try exact trivial
  ·refine⟨Nat,fun i=>i≤q.sk.length∧∀j,j<i→0≤(q.sk.getD j (0,0)).1∧(q.sk.getD j (0,0)).1≤(q.sk.getD j (0,0)).2∧(q.sk.getD j (0,0)).2≤5000,fun i=>q.sk.length-i,fun i=>[(54,.int .i64 (i:Nat))],fun _=>[],fun _=>[],0,⟨⟨by omega,fun j hj=>by omega⟩,none,?_⟩,?_⟩
   ·(repeat' ((conv=>whnf);first|(with_reducible first|apply spl|apply spl'|refine iJ ?_)<;>intro hc<;>try(exfalso;omega)|refine vcq ?_|fail));all_goals(try conv=>whnf);try exact trivial
   ·rintro i ⟨hi,hall⟩
    have hti:(i:Int).toNat=i:=Int.toNat_natCast i
    have hw:=wrap_nat (i:=i) (by omega)
    (repeat' ((conv=>whnf);first|(with_reducible first|apply spl|apply spl'|refine iJ ?_)<;>intro hc<;>try(exfalso;omega)|refine vcq ?_|fail));all_goals((try conv=>whnf);try exact trivial);(repeat' ((first|(refine a0b (to65 _ _) rfl ?_;rintro _ rfl)|(refine a0c (to65 _ _) rfl ?_)|(refine a0g (fun _=>to65 _ _) rfl ?_));(repeat' ((conv=>whnf);first|(with_reducible first|apply spl|apply spl'|refine iJ ?_)<;>intro hc<;>try(exfalso;omega)|refine vcq ?_|fail));all_goals((try conv=>whnf);try exact trivial)))
    ·rw[hti] at hc
     have hil:i<q.sk.length:=by omega
     rw[Qu.chk_no hd (fun h=>by have:=Qu.sk_at h hil;omega)]
     refine⟨_,rfl,?_⟩
     (repeat' ((conv=>whnf);first|(with_reducible first|apply spl|apply spl'|refine iJ ?_)<;>intro hc<;>try(exfalso;omega)|refine vcq ?_|fail));all_goals(try conv=>whnf);try exact trivial
    ·rw[hti] at hc
     have hil:i<q.sk.length:=by omega
     refine⟨i+1,⟨⟨by omega,fun j hj=>?_⟩,by dsimp only;omega⟩,some [some 0],?_⟩
     ·rcases Nat.lt_or_eq_of_le (show j≤i by omega) with g|rfl
      ·exact hall j g
      ·omega
     ·(repeat' ((conv=>whnf);first|(with_reducible first|apply spl|apply spl'|refine iJ ?_)<;>intro hc<;>try(exfalso;omega)|refine vcq ?_|fail));all_goals(try conv=>whnf);try exact trivial
    ·obtain rfl:i=q.sk.length:=by omega
     refine⟨Nat,fun i=>i≤q.rq.length∧∀j,j<i→q.RqOk (q.rq.getD j Rq.none)∧(0<j→(q.rq.getD (j-1) Rq.none).t0≤(q.rq.getD j Rq.none).t0),fun i=>q.rq.length-i,fun i=>[(74,.int .i64 (i:Nat)),(9,.int .i64 (q.pre i))],fun _=>[],fun _=>[],0,⟨⟨by omega,fun j hj=>by omega⟩,none,?_⟩,?_⟩
     ·(repeat' ((conv=>whnf);first|(with_reducible first|apply spl|apply spl'|refine iJ ?_)<;>intro hc<;>try(exfalso;omega)|refine vcq ?_|fail));all_goals(try conv=>whnf);try exact trivial
     ·rintro i ⟨hi,hreq⟩
      have hti:(i:Int).toNat=i:=Int.toNat_natCast i
      have hps:=q.pre_succ i
      have hw:=wrap_nat (i:=i) (by omega)
      have hwd:=wrap_due (hdu i).1 (hdu i).2
      (repeat' ((conv=>whnf);first|(with_reducible first|apply spl|apply spl'|refine iJ ?_)<;>intro hc<;>try(exfalso;omega)|refine vcq ?_|fail));all_goals(try conv=>whnf);try exact trivial
      ·have hil:i<q.rq.length:=by omega
       rw[hti]
       have hbad:∀(h:q.Ok),q.RqOk (q.rq.getD i Rq.none)∧q.pre i≤(q.rq.getD i Rq.none).t0:=fun h=>by
        refine⟨Qu.rq_at h hil,?_⟩
        have h1:=Qu.rq_at h hil
        unfold Qu.RqOk at h1
        unfold Qu.pre
        split
        ·exact h1.2.2.1.1
        ·exact Qu.rq_asc h hil (by omega)
       (repeat' ((conv=>whnf);first|(with_reducible first|apply spl|apply spl'|refine iJ ?_)<;>intro hc<;>try(exfalso;omega)|refine vcq ?_|fail));all_goals((try conv=>whnf);try exact trivial);(repeat' ((first|(refine a0b (to65 _ _) rfl ?_;rintro _ rfl)|(refine a0c (to65 _ _) rfl ?_)|(refine a0g (fun _=>to65 _ _) rfl ?_));(repeat' ((conv=>whnf);first|(with_reducible first|apply spl|apply spl'|refine iJ ?_)<;>intro hc<;>try(exfalso;omega)|refine vcq ?_|fail));all_goals((try conv=>whnf);try exact trivial)))
       ·rw[Qu.chk_no hd (fun h=>by
         obtain⟨h1,h3⟩:=hbad h
         unfold Qu.RqOk at h1
         have h4:=hwd.2 ⟨h1.2.2.2.1,h1.2.2.2.2⟩
         omega)]
        refine⟨_,rfl,?_⟩
        (repeat' ((conv=>whnf);first|(with_reducible first|apply spl|apply spl'|refine iJ ?_)<;>intro hc<;>try(exfalso;omega)|refine vcq ?_|fail));all_goals(try conv=>whnf);try exact trivial
       ·have hgood:q.RqOk (q.rq.getD i Rq.none)∧q.pre i≤(q.rq.getD i Rq.none).t0:=by
         have h5:0≤q.pre i:=by
          unfold Qu.pre
          split
          ·exact Int.le_refl _
          ·have:=(hreq (i-1) (by omega)).1
           unfold Qu.RqOk at this
           exact this.2.2.1.1
         have h4:-1≤(q.rq.getD i Rq.none).du∧(q.rq.getD i Rq.none).du≤100000:=hwd.1 (by omega)
         unfold Qu.RqOk
         omega
        refine⟨i+1,⟨⟨by omega,fun j hj=>?_⟩,by dsimp only;omega⟩,some [some 0],?_⟩
        ·rcases Nat.lt_or_eq_of_le (show j≤i by omega) with g|rfl
         ·exact hreq j g
         ·refine⟨hgood.1,fun g=>?_⟩
          have:=hgood.2
          unfold Qu.pre at this
          rwa [if_neg (by omega)] at this
        ·(repeat' ((conv=>whnf);first|(with_reducible first|apply spl|apply spl'|refine iJ ?_)<;>intro hc<;>try(exfalso;omega)|refine vcq ?_|fail));all_goals(try conv=>whnf);try exact trivial
         all_goals done
       ·rw[Qu.chk_no hd (fun h=>by
         obtain⟨h1,h3⟩:=hbad h
         unfold Qu.RqOk at h1
         omega)]
        refine⟨_,rfl,?_⟩
        (repeat' ((conv=>whnf);first|(with_reducible first|apply spl|apply spl'|refine iJ ?_)<;>intro hc<;>try(exfalso;omega)|refine vcq ?_|fail));all_goals(try conv=>whnf);try exact trivial
      ·obtain rfl:i=q.rq.length:=by omega
       have hq:q.Ok:=by
        have h1:=(show ¬(((¬(0≤q.cyl∧q.cyl≤(q.d.S.length:Int)-1)∨(q.sk.length:Int)≠q.d.S.length)∨6<(q.rq.length:Int))) by assumption)
        have h2:=(show ¬¬(0≤q.pas∧q.pas≤6) by assumption)
        refine⟨hd,by omega,by omega,by omega,by omega,Qu.all_getD hall,Qu.all_getD fun j hj=>(hreq j hj).1,fun j hj=>?_⟩
        have:=(hreq (j+1) hj).2 (by omega)
        rwa [Nat.add_sub_cancel] at this
       rw[Qu.chk_of hq]
       refine⟨_,rfl,?_⟩
       (repeat' ((conv=>whnf);first|(with_reducible first|apply spl|apply spl'|refine iJ ?_)<;>intro hc<;>try(exfalso;omega)|refine vcq ?_|fail));all_goals(try conv=>whnf);try exact trivial
  ·rw[Qu.chk_no hd (fun h=>by have:=h.cyl;have:=h.skl;have:=h.rql;have:=h.pas;omega)]
   refine⟨_,rfl,?_⟩
   (repeat' ((conv=>whnf);first|(with_reducible first|apply spl|apply spl'|refine iJ ?_)<;>intro hc<;>try(exfalso;omega)|refine vcq ?_|fail));all_goals(try conv=>whnf);try exact trivial
end Go.Proofs
namespace Go.Proofs
open Go Go.Sx
set_option maxRecDepth 100000
set_option maxHeartbeats 4000000
def Sv.c (s:Sv):List V:=[.int .i64 s.x.n,.sl 2 s.x.l.length (a0e Ca.oC (0,0) s.x.l),.int .i64 s.d.H,.int .i64 s.d.T,.sl 2 s.d.Z.length (a0e zC (0,0) s.d.Z),.int .i64 s.d.hk,.int .i64 s.d.ck,.int .i64 s.d.hs.1,.int .i64 s.d.hs.2,.int .i64 s.d.cs.1,.int .i64 s.d.cs.2,.sl 2 s.sk.length (a0e zC (0,0) s.sk),.int .i64 s.cyl,.sl 1 s.sec.length (a0e seC 0 s.sec)]
def Sv.qv (s:Sv):V:=.agg [.int .i64 s.d.H,.int .i64 s.d.T,.sl 2 s.d.Z.length (a0e zC (0,0) s.d.Z),.int .i64 s.d.hk,.int .i64 s.d.ck,.int .i64 s.d.hs.1,.int .i64 s.d.hs.2,.int .i64 s.d.cs.1,.int .i64 s.d.cs.2,.int .i64 s.cyl,.int .i64 0,.sl 2 s.sk.length (a0e zC (0,0) s.sk),.lit (.slice none 0 0)]
theorem line90 (s:Sv):a0h Tryz.prog 90 true [.agg s.c,.lit (.slice none 0 0)] (·=s.qv):=by
 refine a0a Tryz.E_ok Tryz.func90 rfl (by kernel_rfl) ?_
 unfold Sv.c Sv.qv
 (repeat' ((conv=>whnf);first|(with_reducible first|apply spl|apply spl'|refine iJ ?_)<;>intro hc<;>try(exfalso;omega)|refine vcq ?_|fail));all_goals(try conv=>whnf);try exact trivial
 refine⟨_,rfl,?_⟩
 (repeat' ((conv=>whnf);first|(with_reducible first|apply spl|apply spl'|refine iJ ?_)<;>intro hc<;>try(exfalso;omega)|refine vcq ?_|fail));all_goals(try conv=>whnf);try exact trivial
theorem checkN (s:Sv) (hz:s.d.Z.length≤1000000) (hsk:s.sk.length≤1000000):a0h Tryz.prog 92 false [s.qv] (·=.int .i64 (s.qu []).chk):=by
 refine a0h.view (Check10 (s.qu []) hz hsk (Nat.zero_le _) ?_) ?_
 ·intro r
  show IntKind.i64.min≤(Rq.none).du∧(Rq.none).du≤IntKind.i64.max
  decide
 ·unfold Qu.c Sv.qv Sv.qu
  dsimp only[List.map_nil,List.length_nil]
  (repeat' ((conv=>whnf);first|(with_reducible first|apply spl|apply spl'|refine iJ ?_)<;>intro hc<;>try(exfalso;omega)|refine vcq ?_|fail));all_goals(try conv=>whnf);try exact trivial
noncomputable def cntV (dom:List Int→Prop) (c:List Int→Int) (k:List Int):Int:=@ite _ (dom k) (Classical.propDecidable _) (c k) 0
noncomputable def cntUp (dom:List Int→Prop) (c:List Int→Int) (k:List Int) (k':List Int):Int:=@ite _ (k'=k) (Classical.propDecidable _) (cntV dom c k+1) (c k')
theorem used_iff {dom:List Int→Prop} {c:List Int→Int} {k:List Int} (h:∀k,dom k→c k=1) :
  (1<@ite _ (domPut dom k k) (Classical.propDecidable _) (@ite _ (k=k) (Classical.propDecidable _) (@ite _ (dom k) (Classical.propDecidable _) (c k) 0+1) (c k)) 0)↔dom k:=by
 rw[if_pos (show domPut dom k k from .inl rfl),if_pos rfl]
 by_cases g:dom k
 ·rw[if_pos g,h k g]
  exact⟨fun _=>g,fun _=>by omega⟩
 ·rw[if_neg g]
  exact⟨fun h=>by omega,fun h=>absurd h g⟩
theorem Sv.nI {s:Sv} (hx:s.x.Ok):(s.n:Int)=s.x.n:=by
 have h3:=hx.n
 unfold Sv.n
 omega
theorem isServing84 (s:Sv) (hd:s.d.Ok) (hx:s.x.Ok) (hsk:s.sk.length≤1000000) (hsec:s.sec.length≤1000000):a0h Tryz.prog 84 false [.agg s.c] (·=.prop s.SOk (Classical.propDecidable _)):=by
 have hcn:=s.d.cnt_le hd
 have hck:=checkN s (by have:=hd.z;omega) hsk
 refine a0a Tryz.E_ok Tryz.func84 rfl (by kernel_rfl) ?_
 unfold Sv.c
 (repeat' ((conv=>whnf);first|(with_reducible first|apply spl|apply spl'|refine iJ ?_)<;>intro hc<;>try(exfalso;omega)|refine vcq ?_|fail));all_goals(try conv=>whnf);try exact trivial
 refine a0b (Size81 s.d hd) rfl ?_
 rintro _ rfl
 (repeat' ((conv=>whnf);first|(with_reducible first|apply spl|apply spl'|refine iJ ?_)<;>intro hc<;>try(exfalso;omega)|refine vcq ?_|fail));all_goals(try conv=>whnf);try exact trivial
 intro g0
 (repeat' ((conv=>whnf);first|(with_reducible first|apply spl|apply spl'|refine iJ ?_)<;>intro hc<;>try(exfalso;omega)|refine vcq ?_|fail));all_goals(try conv=>whnf);try exact trivial
 refine⟨Nat×(List Int→Prop)×(List Int→Int)×Nat×MG,fun q=>q.1≤s.sec.length∧(∀k,q.2.1 k↔∃j,j<q.1∧[s.sec.getD j 0]=k)∧(∀k,q.2.1 k→q.2.2.1 k=1)∧(∀i,i<q.1→(0≤s.sec.getD i 0∧s.sec.getD i 0≤(s.d.cnt:Int)-1)∧∀k,k<i→s.sec.getD k 0≠s.sec.getD i 0),fun q=>s.sec.length-q.1,fun q=>[(18,.int .i64 (q.1:Nat))],fun q=>[(1,.map [.i64] false false q.2.1 (fun k=>[.int .i64 (q.2.2.1 k)]) q.2.2.2.1 q.2.2.2.2)],fun _=>[],(0,(fun _=>False),(fun _=>0),0,g0),⟨⟨by dsimp only;omega,by simp,by simp,fun i hi=>by dsimp only at hi;omega⟩,some [some 0,some 1],?_⟩,?_⟩
 ·(repeat' ((conv=>whnf);first|(with_reducible first|apply spl|apply spl'|refine iJ ?_)<;>intro hc<;>try(exfalso;omega)|refine vcq ?_|fail));all_goals(try conv=>whnf);try exact trivial
 ·rintro⟨i,dom,c,m,g⟩ ⟨h1,h2,h3,h4⟩
  dsimp only at h1 h2 h3 h4
  have hti:(i:Int).toNat=i:=Int.toNat_natCast i
  have hq:∀key,inR .i64 (cntV dom c key+1):=fun key=>by
   unfold cntV
   split
   ·rename_i h;have:=h3 key h;show(-9223372036854775808:Int)≤_∧_≤(9223372036854775807:Int);omega
   ·show(-9223372036854775808:Int)≤_∧_≤(9223372036854775807:Int);omega
  (repeat' ((conv=>whnf);first|(with_reducible first|apply spl|apply spl'|refine iJ ?_)<;>intro hc<;>try(exfalso;omega)|refine vcq ?_|fail));all_goals(try conv=>whnf);try exact trivial
  ·have hi:i<s.sec.length:=by dsimp only at hc;omega
   refine And.intro (hq _) ?_
   (repeat' ((conv=>whnf);first|(with_reducible first|apply spl|apply spl'|refine iJ ?_)<;>intro hc<;>try(exfalso;omega)|refine vcq ?_|fail));all_goals(try conv=>whnf);try exact trivial
   intro g1
   (repeat' ((conv=>whnf);first|(with_reducible first|apply spl|apply spl'|refine iJ ?_)<;>intro hc<;>try(exfalso;omega)|refine vcq ?_|fail));all_goals(try conv=>whnf);try exact trivial
   ·dsimp only at hc
    rw[used_iff h3,hti,h2] at hc
    have hno:¬s.SOk:=fun h=>by
     have h5:=h.rng i hi
     rcases hc with(h6|h6)|⟨j,h6,h7⟩
     ·omega
     ·omega
     ·exact h.nd i hi j h6 (List.cons.inj h7).1
    refine⟨_,rfl,?_⟩
    (repeat' ((conv=>whnf);first|(with_reducible first|apply spl|apply spl'|refine iJ ?_)<;>intro hc<;>try(exfalso;omega)|refine vcq ?_|fail));all_goals(try conv=>whnf);try exact trivial
   ·dsimp only at hc
    rw[used_iff h3,hti] at hc
    have hnd:¬dom [s.sec.getD i 0]:=fun h=>hc (.inr h)
    have hnd2:=hnd
    rw[h2] at hnd2
    rw[hti]
    refine⟨(i+1,domPut dom [s.sec.getD i 0],cntUp dom c [s.sec.getD i 0],nPut dom m [s.sec.getD i 0],g1),⟨⟨by dsimp only;omega,fun key=>?_,fun key hk=>?_,fun a ha=>?_⟩,by dsimp only;omega⟩,some [some 0,some 1],?_⟩
    ·dsimp only
     unfold domPut
     rw[h2]
     constructor
     ·rintro(rfl|⟨j,hj,e⟩)
      ·exact⟨i,by omega,rfl⟩
      ·exact⟨j,by omega,e⟩
     ·rintro⟨j,hj,e⟩
      rcases Nat.lt_or_eq_of_le (Nat.le_of_lt_succ hj) with g|rfl
      ·exact .inr ⟨j,g,e⟩
      ·exact .inl e.symm
    ·dsimp only at hk ⊢
     unfold cntUp cntV
     by_cases g:key=[s.sec.getD i 0]
     ·rw[if_pos g,if_neg hnd];rfl
     ·rw[if_neg g];exact h3 key (hk.resolve_left g)
    ·dsimp only at ha
     rcases Nat.lt_or_eq_of_le (Nat.le_of_lt_succ ha) with g|rfl
     ·exact h4 a g
     ·refine⟨by omega,fun k hk e=>hnd2 ⟨k,hk,by rw[e]⟩⟩
    ·(repeat' ((conv=>whnf);first|(with_reducible first|apply spl|apply spl'|refine iJ ?_)<;>intro hc<;>try(exfalso;omega)|refine vcq ?_|fail));all_goals(try conv=>whnf);try exact trivial
  ·have hil:i=s.sec.length:=by dsimp only at *;omega
   subst hil
   have hlq:=line90 s
   unfold Sv.c Sv.qv at hlq
   unfold Sv.qv at hck
   refine a0b hlq rfl ?_
   rintro _ rfl
   (repeat' ((conv=>whnf);first|(with_reducible first|apply spl|apply spl'|refine iJ ?_)<;>intro hc<;>try(exfalso;omega)|refine vcq ?_|fail));all_goals(try conv=>whnf);try exact trivial
   refine a0b hck rfl ?_
   rintro _ rfl
   have hiff:s.SOk↔(s.qu []).chk=0:=⟨fun h=>Qu.chk_of h.q,fun h=>⟨by have:=Sv.nI hx;omega,fun i hi=>(h4 i hi).1,fun i hi=>(h4 i hi).2,Qu.chk_ok h⟩⟩
   (repeat' ((conv=>whnf);first|(with_reducible first|apply spl|apply spl'|refine iJ ?_)<;>intro hc<;>try(exfalso;omega)|refine vcq ?_|fail));all_goals(try conv=>whnf);try exact trivial
   refine⟨_,rfl,?_⟩
   (repeat' ((conv=>whnf);first|(with_reducible first|apply spl|apply spl'|refine iJ ?_)<;>intro hc<;>try(exfalso;omega)|refine vcq ?_|fail));all_goals(try conv=>whnf);try exact trivial
   exact⟨hiff.symm,trivial⟩
  ·have hno:¬s.SOk:=fun h=>by
    have:=h.len
    have:=Sv.nI hx
    omega
   refine⟨_,rfl,?_⟩
   (repeat' ((conv=>whnf);first|(with_reducible first|apply spl|apply spl'|refine iJ ?_)<;>intro hc<;>try(exfalso;omega)|refine vcq ?_|fail));all_goals(try conv=>whnf);try exact trivial
theorem mul64 (n:Nat) (hn:n≤6):a0h Tryz.prog 162 false [.int .u64 1,.int .u64 (n:Nat)] (·=.tup [.int .u64 0,.int .u64 (n:Nat)]):=by
 refine a0a Tryz.E_ok Tryz.func162 rfl (by kernel_rfl) ?_
 have h:n=0∨n=1∨n=2∨n=3∨n=4∨n=5∨n=6:=by omega
 rcases h with rfl|rfl|rfl|rfl|rfl|rfl|rfl
 all_goals
  (repeat' ((conv=>whnf);first|(with_reducible first|apply spl|apply spl'|refine iJ ?_)<;>intro hc<;>try(exfalso;omega)|refine vcq ?_|fail));all_goals(try conv=>whnf);try exact trivial
  repeat(refine And.intro (by first|decide|(unfold inR;decide +kernel)|(show _∧_;decide +kernel)) ?_;(repeat' ((conv=>whnf);first|(with_reducible first|apply spl|apply spl'|refine iJ ?_)<;>intro hc<;>try(exfalso;omega)|refine vcq ?_|fail));all_goals((try conv=>whnf);try exact trivial))
  refine⟨_,rfl,?_⟩
  (repeat' ((conv=>whnf);first|(with_reducible first|apply spl|apply spl'|refine iJ ?_)<;>intro hc<;>try(exfalso;omega)|refine vcq ?_|fail));all_goals(try conv=>whnf);try exact trivial
theorem mul123 (n:Nat) (hn:n≤6):a0h Tryz.prog 123 false [.int .u64 1,.int .u64 (n:Nat)] (·=.tup [.int .u64 0,.int .u64 (n:Nat)]):=by
 refine a0a Tryz.E_ok Tryz.func123 rfl (by kernel_rfl) ?_
 (repeat' ((conv=>whnf);first|(with_reducible first|apply spl|apply spl'|refine iJ ?_)<;>intro hc<;>try(exfalso;omega)|refine vcq ?_|fail));all_goals(try conv=>whnf);try exact trivial
 refine a0b (mul64 n hn) rfl ?_
 rintro _ rfl
 (repeat' ((conv=>whnf);first|(with_reducible first|apply spl|apply spl'|refine iJ ?_)<;>intro hc<;>try(exfalso;omega)|refine vcq ?_|fail));all_goals(try conv=>whnf);try exact trivial
 refine⟨_,rfl,?_⟩
 (repeat' ((conv=>whnf);first|(with_reducible first|apply spl|apply spl'|refine iJ ?_)<;>intro hc<;>try(exfalso;omega)|refine vcq ?_|fail));all_goals(try conv=>whnf);try exact trivial
theorem rep85 (n:Nat) (hn:n≤6):Sx.Callee Tryz.prog 85 [.osl 0 1,.int .i64 (n:Nat)] [.row 3 1 1 (mdC (fun _=>-1)) false]
  (fun v H=>v=.osl 1 n∧H=[.row 3 1 1 (mdC (fun _=>-1)) false,.row 3 1 n (mdC (fun _=>-1)) false]):=by
 refine a0o Tryz.E_ok Tryz.func85 rfl (by kernel_rfl) ?_
 have hw:IntKind.u64.wrap (n:Int)=n:=by
  have h:n=0∨n=1∨n=2∨n=3∨n=4∨n=5∨n=6:=by omega
  rcases h with rfl|rfl|rfl|rfl|rfl|rfl|rfl<;>rfl
 have hw2:IntKind.i64.wrap (n:Int)=n:=by
  have h:n=0∨n=1∨n=2∨n=3∨n=4∨n=5∨n=6:=by omega
  rcases h with rfl|rfl|rfl|rfl|rfl|rfl|rfl<;>rfl
 have hr:inR .u64 (n:Int):=by unfold inR;exact⟨Int.natCast_nonneg n,Int.le_trans (by omega:(n:Int)≤6) (by decide)⟩
 have hr2:inR .i64 (n:Int):=inR64 (by omega) (by omega)
 (repeat' ((conv=>whnf);first|(with_reducible first|apply spl|apply spl'|refine iJ ?_)<;>intro hc<;>try(exfalso;omega)|refine vcq ?_|refine dr 2007 ?_));all_goals(try conv=>whnf);try exact trivial
 refine And.intro (by unfold inR;decide) ?_
 (repeat' ((conv=>whnf);first|(with_reducible first|apply spl|apply spl'|refine iJ ?_)<;>intro hc<;>try(exfalso;omega)|refine vcq ?_|refine dr 2007 ?_));all_goals(try conv=>whnf);try exact trivial
 refine a0b (mul123 n hn) rfl ?_
 rintro _ rfl
 (repeat' ((conv=>whnf);first|(with_reducible first|apply spl|apply spl'|refine iJ ?_)<;>intro hc<;>try(exfalso;omega)|refine vcq ?_|refine dr 2007 ?_));all_goals(try conv=>whnf);try exact trivial
 have hti:(n:Int).toNat=n:=Int.toNat_natCast n
 rw[hti]
 refine⟨Nat×(Nat→List V),fun q=>(q.1≤n∧(0<n→0<q.1))∧∀j,j<q.1→q.2 j=[.int .i64 (-1)],fun q=>n-q.1,fun q=>[(8,.int .i64 (q.1:Nat))],fun q=>[(1,.row 3 1 n q.2 false)],fun _=>[],(min 1 n,fun j=>if 0≤j∧j<0+min 1 n then mdC (fun _=>-1) (j-0) else [.int .i64 0]),⟨⟨⟨by dsimp only;omega,by dsimp only;omega⟩,fun j hj=>by dsimp only at hj ⊢;rw[if_pos ⟨by omega,by omega⟩];rfl⟩,some [some 0,some 1],?_⟩,?_⟩
 ·(repeat' ((conv=>whnf);first|(with_reducible first|apply spl|apply spl'|refine iJ ?_)<;>intro hc<;>try(exfalso;omega)|refine vcq ?_|refine dr 2007 ?_));all_goals(try conv=>whnf);try exact trivial
 ·rintro⟨k,f⟩ ⟨⟨h1,h2⟩,h3⟩
  dsimp only at h1 h2 h3
  have htk:(k:Int).toNat=k:=Int.toNat_natCast k
  (repeat' ((conv=>whnf);first|(with_reducible first|apply spl|apply spl'|refine iJ ?_)<;>intro hc<;>try(exfalso;omega)|refine vcq ?_|refine dr 2007 ?_));all_goals(try conv=>whnf);try exact trivial
  ·rw[htk]
   refine⟨(k+min (n-k) k,fun j=>if k≤j∧j<k+min (n-k) k then f (0+(j-k)) else f j),⟨⟨⟨by dsimp only;omega,fun _=>by dsimp only;omega⟩,fun j hj=>?_⟩,by dsimp only at *;omega⟩,some [some 0,some 1],?_⟩
   ·dsimp only at hj ⊢
    split
    ·exact h3 _ (by omega)
    ·exact h3 _ (by omega)
   ·(repeat' ((conv=>whnf);first|(with_reducible first|apply spl|apply spl'|refine iJ ?_)<;>intro hc<;>try(exfalso;omega)|refine vcq ?_|refine dr 2007 ?_));all_goals(try conv=>whnf);try exact trivial
    refine And.intro (fun j hj=>?_) ?_
    ·dsimp only
     have e:min ((k:Int)-0).toNat ((n:Int)-(k:Int)).toNat=min (n-k) k:=by omega
     rw[e]
     rfl
    ·(repeat' ((conv=>whnf);first|(with_reducible first|apply spl|apply spl'|refine iJ ?_)<;>intro hc<;>try(exfalso;omega)|refine vcq ?_|refine dr 2007 ?_));all_goals(try conv=>whnf);try exact trivial
  ·obtain rfl:k=n:=by dsimp only at *;omega
   refine⟨_,_,⟨rfl,rfl⟩,some [some 0,some 1],?_⟩
   (repeat' ((conv=>whnf);first|(with_reducible first|apply spl|apply spl'|refine iJ ?_)<;>intro hc<;>try(exfalso;omega)|refine vcq ?_|refine dr 2007 ?_));all_goals(try conv=>whnf);try exact trivial
   refine And.intro (fun j hj=>h3 j hj) ?_
   (repeat' ((conv=>whnf);first|(with_reducible first|apply spl|apply spl'|refine iJ ?_)<;>intro hc<;>try(exfalso;omega)|refine vcq ?_|refine dr 2007 ?_));all_goals(try conv=>whnf);try exact trivial
end Go.Proofs
namespace Go.Proofs
open Go Go.Sx
set_option maxRecDepth 100000
set_option maxHeartbeats 4000000
open Ca (Wt)
def Sv.ov (s:Sv):V:=.iptr [.int .i64 s.x.n,.sl 2 s.x.l.length (a0e Ca.oC (0,0) s.x.l),.int .i64 s.d.H,.int .i64 s.d.T,.sl 2 s.d.Z.length (a0e zC (0,0) s.d.Z),.int .i64 s.d.hk,.int .i64 s.d.ck,.int .i64 s.d.hs.1,.int .i64 s.d.hs.2,.int .i64 s.d.cs.1,.int .i64 s.d.cs.2,.sl 2 s.sk.length (a0e zC (0,0) s.sk),.int .i64 s.cyl,.sl 1 s.sec.length (a0e seC 0 s.sec),.sl 3 s.W.length (a0e wtC wt0 s.W),.sl 1 s.n (mdC s.st.M)]
open Classical in
noncomputable def Sv.err (s:Sv):Int:=if s.d.Ok then if s.x.Ok then if s.SOk then if s.W.length≤6 then 0 else 2 else 150 else s.x.chk else 10
theorem open45 (s:Sv) (hz:s.d.Z.length≤1000000) (hl:s.x.l.length≤1000000) (hsk:s.sk.length≤1000000) (hsec:s.sec.length≤1000000):a0h Tryz.prog 45 true [.agg s.c] (fun v=>(s.err=0∧v=.tup [s.ov,.int .i64 0])∨s.err≠0∧v=.tup [.lit (.pointer none),.int .i64 s.err]):=by
 have hck:=Check63 s.d hz
 have hcx:=Ca.check36 s.x hl
 unfold Ca.Cache.v at hcx
 refine a0a Tryz.E_ok Tryz.func45 rfl (by kernel_rfl) ?_
 unfold Sv.c
 (repeat' ((conv=>whnf);first|(with_reducible first|apply spl|apply spl'|refine iJ ?_)<;>intro hc<;>try(exfalso;omega)|refine vcq ?_|refine dr 2005 ?_));all_goals(try conv=>whnf);try exact trivial
 refine a0b hck rfl ?_
 rintro _ rfl
 (repeat' ((conv=>whnf);first|(with_reducible first|apply spl|apply spl'|refine iJ ?_)<;>intro hc<;>try(exfalso;omega)|refine vcq ?_|refine dr 2005 ?_));all_goals(try conv=>whnf);try exact trivial
 ·have hd:¬s.d.Ok:=fun h=>hc (Dk.chk_of h)
  have he:s.err=10:=by unfold Sv.err;rw[if_neg hd]
  have e:s.d.chk=10:=by unfold Dk.chk;rw[if_neg hd]
  rw[e]
  refine⟨_,.inr ⟨by rw[he];decide,rfl⟩,?_⟩
  rw[he]
  (repeat' ((conv=>whnf);first|(with_reducible first|apply spl|apply spl'|refine iJ ?_)<;>intro hc<;>try(exfalso;omega)|refine vcq ?_|refine dr 2005 ?_));all_goals(try conv=>whnf);try exact trivial
 ·have hd:s.d.Ok:=Dk.chk_ok (Classical.not_not.1 hc)
  refine a0b hcx rfl ?_
  rintro _ rfl
  (repeat' ((conv=>whnf);first|(with_reducible first|apply spl|apply spl'|refine iJ ?_)<;>intro hc<;>try(exfalso;omega)|refine vcq ?_|refine dr 2005 ?_));all_goals(try conv=>whnf);try exact trivial
  ·rename_i hc2
   have hx:¬s.x.Ok:=fun h=>hc (by unfold Ca.Cache.chk;rw[if_pos h])
   have he:s.err=s.x.chk:=by unfold Sv.err;rw[if_pos hd,if_neg hx]
   refine⟨_,.inr ⟨by rw[he];exact hc,rfl⟩,?_⟩
   rw[he]
   (repeat' ((conv=>whnf);first|(with_reducible first|apply spl|apply spl'|refine iJ ?_)<;>intro hc<;>try(exfalso;omega)|refine vcq ?_|refine dr 2005 ?_));all_goals(try conv=>whnf);try exact trivial
  ·have hx:s.x.Ok:=by
    have h:=Classical.not_not.1 hc
    unfold Ca.Cache.chk at h
    split at h
    ·assumption
    ·exact absurd h (by decide)
   have his:=isServing84 s hd hx hsk hsec
   unfold Sv.c at his
   refine a0b his rfl ?_
   rintro _ rfl
   (repeat' ((conv=>whnf);first|(with_reducible first|apply spl|apply spl'|refine iJ ?_)<;>intro hc<;>try(exfalso;omega)|refine vcq ?_|refine dr 2005 ?_));all_goals(try conv=>whnf);try exact trivial
   ·have he:s.err=150:=by unfold Sv.err;rw[if_pos hd,if_pos hx,if_neg hc]
    refine⟨_,.inr ⟨by rw[he];decide,rfl⟩,?_⟩
    rw[he]
    (repeat' ((conv=>whnf);first|(with_reducible first|apply spl|apply spl'|refine iJ ?_)<;>intro hc<;>try(exfalso;omega)|refine vcq ?_|refine dr 2005 ?_));all_goals(try conv=>whnf);try exact trivial
   ·have hso:s.SOk:=Classical.not_not.1 hc
    have hsm:=Sv.at_small hx (Nat.le_refl _)
    have hni:=Sv.nI hx
    rw[←hni]
    refine a0f [1] (rep85 s.n hsm.2.2.2.1) rfl ?_ ?_
    ·(repeat' ((conv=>whnf);first|(with_reducible first|apply spl|apply spl'|refine iJ ?_)<;>intro hc<;>try(exfalso;omega)|refine vcq ?_|refine dr 2005 ?_));all_goals(try conv=>whnf);try exact trivial
    ·rintro _ _ ⟨rfl,rfl⟩
     (repeat' ((conv=>whnf);first|(with_reducible first|apply spl|apply spl'|refine iJ ?_)<;>intro hc<;>try(exfalso;omega)|refine vcq ?_|refine dr 2005 ?_));all_goals(try conv=>whnf);try exact trivial
     rw[hni]
     refine a0f [3,2] (wait86 s hx) rfl ?_ ?_
     ·unfold Sv.o0
      (repeat' ((conv=>whnf);first|(with_reducible first|apply spl|apply spl'|refine iJ ?_)<;>intro hc<;>try(exfalso;omega)|refine vcq ?_|refine dr 2005 ?_));all_goals(try conv=>whnf);try exact trivial
     ·rintro _ _ ⟨rfl,nz,rfl⟩
      unfold Sv.o
      rcases nz with _|_
      ·(repeat' ((conv=>whnf);first|(with_reducible first|apply spl|apply spl'|refine iJ ?_)<;>intro hc<;>try(exfalso;omega)|refine vcq ?_|refine dr 2005 ?_));all_goals(try conv=>whnf);try exact trivial
       ·have he:s.err=2:=by unfold Sv.err;rw[if_pos hd,if_pos hx,if_pos hso,if_neg (by omega)]
        refine⟨_,.inr ⟨by rw[he];decide,rfl⟩,?_⟩
        rw[he]
        (repeat' ((conv=>whnf);first|(with_reducible first|apply spl|apply spl'|refine iJ ?_)<;>intro hc<;>try(exfalso;omega)|refine vcq ?_|refine dr 2005 ?_));all_goals(try conv=>whnf);try exact trivial
       ·have he:s.err=0:=by unfold Sv.err;rw[if_pos hd,if_pos hx,if_pos hso,if_pos (by omega)]
        refine⟨_,.inl ⟨he,rfl⟩,?_⟩
        unfold Sv.ov
        (repeat' ((conv=>whnf);first|(with_reducible first|apply spl|apply spl'|refine iJ ?_)<;>intro hc<;>try(exfalso;omega)|refine vcq ?_|refine dr 2005 ?_));all_goals(try conv=>whnf);try exact trivial
      ·(repeat' ((conv=>whnf);first|(with_reducible first|apply spl|apply spl'|refine iJ ?_)<;>intro hc<;>try(exfalso;omega)|refine vcq ?_|refine dr 2005 ?_));all_goals(try conv=>whnf);try exact trivial
       ·have he:s.err=2:=by unfold Sv.err;rw[if_pos hd,if_pos hx,if_pos hso,if_neg (by omega)]
        refine⟨_,.inr ⟨by rw[he];decide,rfl⟩,?_⟩
        rw[he]
        (repeat' ((conv=>whnf);first|(with_reducible first|apply spl|apply spl'|refine iJ ?_)<;>intro hc<;>try(exfalso;omega)|refine vcq ?_|refine dr 2005 ?_));all_goals(try conv=>whnf);try exact trivial
       ·have he:s.err=0:=by unfold Sv.err;rw[if_pos hd,if_pos hx,if_pos hso,if_pos (by omega)]
        refine⟨_,.inl ⟨he,rfl⟩,?_⟩
        unfold Sv.ov
        (repeat' ((conv=>whnf);first|(with_reducible first|apply spl|apply spl'|refine iJ ?_)<;>intro hc<;>try(exfalso;omega)|refine vcq ?_|refine dr 2005 ?_));all_goals(try conv=>whnf);try exact trivial
theorem entriesS (s:Sv) (hz:s.d.Z.length≤1000000) (hl:s.x.l.length≤1000000) (hsk:s.sk.length≤1000000) (hsec:s.sec.length≤1000000):a0h Tryz.prog 24 true [.agg s.c] (fun v=>(s.err=0∧v=.tup [.sl 3 s.W.length (a0e wtC wt0 s.W),.int .i64 0])∨s.err≠0∧v=.tup [.lit (.slice none 0 0),.int .i64 s.err]):=by
 have ho:=open45 s hz hl hsk hsec
 unfold Sv.c at ho ⊢
 refine a0a Tryz.E_ok Tryz.func24 rfl (by kernel_rfl) ?_
 (repeat' ((conv=>whnf);first|(with_reducible first|apply spl|apply spl'|refine iJ ?_)<;>intro hc<;>try(exfalso;omega)|refine vcq ?_|fail));all_goals(try conv=>whnf);try exact trivial
 refine a0b ho rfl ?_
 rintro _ (⟨he,rfl⟩|⟨he,rfl⟩)
 ·unfold Sv.ov
  (repeat' ((conv=>whnf);first|(with_reducible first|apply spl|apply spl'|refine iJ ?_)<;>intro hc<;>try(exfalso;omega)|refine vcq ?_|fail));all_goals(try conv=>whnf);try exact trivial
  refine⟨_,.inl ⟨he,rfl⟩,?_⟩
  (repeat' ((conv=>whnf);first|(with_reducible first|apply spl|apply spl'|refine iJ ?_)<;>intro hc<;>try(exfalso;omega)|refine vcq ?_|fail));all_goals(try conv=>whnf);try exact trivial
 ·(repeat' ((conv=>whnf);first|(with_reducible first|apply spl|apply spl'|refine iJ ?_)<;>intro hc<;>try(exfalso;omega)|refine vcq ?_|fail));all_goals(try conv=>whnf);try exact trivial
  refine⟨_,.inr ⟨he,rfl⟩,?_⟩
  (repeat' ((conv=>whnf);first|(with_reducible first|apply spl|apply spl'|refine iJ ?_)<;>intro hc<;>try(exfalso;omega)|refine vcq ?_|fail));all_goals(try conv=>whnf);try exact trivial
end Go.Proofs
namespace Go.Proofs
open Go Go.Sx
set_option maxRecDepth 100000
set_option maxHeartbeats 40000000
end Go.Proofs
