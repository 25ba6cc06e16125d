/- Own work: texts of the proof of a law (WvK). No condition. -/
import Derived.Test.YtkgjhinmndcmjaaGreatPart30
import Derived.Test.YtkgjhinmndcmjaaGreatPart0
import Derived.Test.YtkgjhinmndcmjaaGreatPart11
set_option linter.unusedVariables false
set_option linter.unusedSimpArgs false
namespace Go.Proofs
open Go Go.Sx
set_option maxRecDepth 100000
set_option maxHeartbeats 40000000
def Tryz.EW:Go.Sx.Env:={size:=1} :: Tryz.E.tail
theorem Tryz.EW_ok:Go.Sx.ProgOk Tryz.EW Tryz.prog:=⟨a1b.flag (show a1b ({} :: Tryz.E.tail) Tryz.prog from Tryz.E_ok.env),Tryz.E_ok.mixed⟩
def Qu.DuR (q:Qu):Prop:=∀r,IntKind.i64.min≤(q.rq.getD r Rq.none).du∧(q.rq.getD r Rq.none).du≤IntKind.i64.max
theorem wrap_due {n:Int} (h1:IntKind.i64.min≤n) (h2:n≤IntKind.i64.max):(0≤IntKind.i64.wrap (n+1)∧IntKind.i64.wrap (n+1)≤100001)↔(-1≤n∧n≤100000):=by
 by_cases h:n=IntKind.i64.max
 ·subst h
  exact⟨fun g=>absurd g (by decide),fun g=>absurd g (by decide)⟩
 ·have e:IntKind.i64.wrap (n+1)=n+1:=wrap_in .i64 _ ⟨by omega,by omega⟩
  rw[e]
  omega
theorem wrap_nat {i:Nat} (h:i≤1000000):IntKind.i64.wrap ((i:Int)+1)=i+1:=wrap_in .i64 _ ⟨by show(-9223372036854775808:Int)≤_;omega,by show _≤(9223372036854775807:Int);omega⟩
def Qu.pre (q:Qu) (i:Nat):Int:=if i=0 then 0 else(q.rq.getD (i-1) Rq.none).t0
theorem Qu.pre_succ (q:Qu) (i:Nat):q.pre (i+1)=(q.rq.getD i Rq.none).t0:=by
 unfold Qu.pre
 rw[if_neg (by omega),Nat.add_sub_cancel]
theorem Check10 (q:Qu) (hz:q.d.Z.length≤1000000) (_hsk:q.sk.length≤1000000) (hrq:q.rq.length≤1000000) (hdu:q.DuR):a0g Tryz.prog 92 false [.agg q.c] (·=.int .i64 q.chk):=by
 refine a0a Tryz.EW_ok Tryz.func92 rfl (by kernel_rfl) ?_
 refine x1 ?_
 refine a0b (Check63 q.d hz) rfl ?_
 rintro _ rfl
 refine x3 (fun hc=>?_) (fun hc=>?_)
 ·have hd:¬q.d.Ok:=fun h=>hc (Dk.chk_of h)
  rw[Qu.chk_dk hd,Dk.chk_no hd]
  refine⟨_,rfl,?_⟩
  exact xc0
 ·have hd:q.d.Ok:=Dk.chk_ok (a0O.1 hc)
  clear hc
  refine a0b (size64 q.d hd) rfl ?_
  rintro _ rfl
  have hSl:=(q.d.S_len hd).1
  have hcn:=q.d.cnt_le hd
  refine x1 ?_;(repeat' ((first|(refine a0b (to65 _ _) rfl ?_;rintro _ rfl)|(refine a0d (to65 _ _) rfl ?_)|(refine a0h (fun _=>to65 _ _) rfl ?_));refine x3 (fun hc=>?_) (fun hc=>?_)))
  ·rw[Qu.chk_no hd (fun h=>by have:=h.cyl;have:=h.skl;have:=h.rql;have:=h.pas;omega)]
   refine⟨_,rfl,?_⟩
   exact xc0
  ·refine⟨Nat,fun i=>i≤q.sk.length∧∀j,j<i→0≤(q.sk.getD j (0,0)).1∧(q.sk.getD j (0,0)).1≤(q.sk.getD j (0,0)).2∧(q.sk.getD j (0,0)).2≤5000,fun i=>q.sk.length-i,fun i=>[(54,.int .i64 (i:Nat))],fun _=>[],fun _=>[],0,⟨⟨by omega,fun j hj=>by omega⟩,none,?_⟩,?_⟩
   ·exact xc0
   ·rintro i ⟨hi,hall⟩
    have hti:(i:Int).toNat=i:=a0E i
    have hw:=wrap_nat (i:=i) (by omega)
    (repeat' ((conv=>whnf);first|(with_reducible first|apply spl|apply spl'|refine iJ ?_)<;>intro hc<;>try(exfalso;omega)|refine vcq ?_|fail));all_goals((try conv=>whnf);try exact trivial);(repeat' ((first|(refine a0b (to65 _ _) rfl ?_;rintro _ rfl)|(refine a0d (to65 _ _) rfl ?_)|(refine a0h (fun _=>to65 _ _) rfl ?_));refine x3 (fun hc=>?_) (fun hc=>?_)))
    ·rw[hti] at hc
     have hil:i<q.sk.length:=by omega
     rw[Qu.chk_no hd (fun h=>by have:=Qu.sk_at h hil;omega)]
     refine⟨_,rfl,?_⟩
     exact xc0
    ·rw[hti] at hc
     have hil:i<q.sk.length:=by omega
     refine⟨i+1,⟨⟨by omega,fun j hj=>?_⟩,by dsimp only;omega⟩,some [some 0],?_⟩
     ·rcases a0I (show j≤i by omega) with g|rfl
      ·exact hall j g
      ·omega
     ·exact xc0
    ·obtain rfl:i=q.sk.length:=by omega
     refine⟨Nat,fun i=>i≤q.rq.length∧∀j,j<i→q.RqOk (q.rq.getD j Rq.none)∧(0<j→(q.rq.getD (j-1) Rq.none).t0≤(q.rq.getD j Rq.none).t0),fun i=>q.rq.length-i,fun i=>[(74,.int .i64 (i:Nat)),(9,.int .i64 (q.pre i))],fun _=>[],fun _=>[],0,⟨⟨by omega,fun j hj=>by omega⟩,none,?_⟩,?_⟩
     ·exact xc0
     ·rintro i ⟨hi,hreq⟩
      have hti:(i:Int).toNat=i:=a0E i
      have hps:=q.pre_succ i
      have hw:=wrap_nat (i:=i) (by omega)
      have hwd:=wrap_due (hdu i).1 (hdu i).2
      refine x3 (fun hc=>?_) (fun hc=>?_)
      ·have hil:i<q.rq.length:=by omega
       rw[hti]
       have hbad:∀(h:q.Ok),q.RqOk (q.rq.getD i Rq.none)∧q.pre i≤(q.rq.getD i Rq.none).t0:=fun h=>by
        refine⟨Qu.rq_at h hil,?_⟩
        have h1:=Qu.rq_at h hil
        unfold Qu.RqOk at h1
        unfold Qu.pre
        split
        ·exact h1.2.2.1.1
        ·exact Qu.rq_asc h hil (by omega)
       refine x1 ?_;(repeat' ((first|(refine a0b (to65 _ _) rfl ?_;rintro _ rfl)|(refine a0d (to65 _ _) rfl ?_)|(refine a0h (fun _=>to65 _ _) rfl ?_));refine x3 (fun hc=>?_) (fun hc=>?_)))
       ·rw[Qu.chk_no hd (fun h=>by
         obtain⟨h1,h3⟩:=hbad h
         unfold Qu.RqOk at h1
         have h4:=hwd.2 ⟨h1.2.2.2.1,h1.2.2.2.2⟩
         omega)]
        refine⟨_,rfl,?_⟩
        exact xc0
       ·have hgood:q.RqOk (q.rq.getD i Rq.none)∧q.pre i≤(q.rq.getD i Rq.none).t0:=by
         have h5:0≤q.pre i:=by
          unfold Qu.pre
          split
          ·exact a1Q _
          ·have:=(hreq (i-1) (by omega)).1
           unfold Qu.RqOk at this
           exact this.2.2.1.1
         have h4:-1≤(q.rq.getD i Rq.none).du∧(q.rq.getD i Rq.none).du≤100000:=hwd.1 (by omega)
         unfold Qu.RqOk
         omega
        refine⟨i+1,⟨⟨by omega,fun j hj=>?_⟩,by dsimp only;omega⟩,some [some 0],?_⟩
        ·rcases a0I (show j≤i by omega) with g|rfl
         ·exact hreq j g
         ·refine⟨hgood.1,fun g=>?_⟩
          have:=hgood.2
          unfold Qu.pre at this
          rwa [if_neg (by omega)] at this
        ·exact xc0
         all_goals done
       ·rw[Qu.chk_no hd (fun h=>by
         obtain⟨h1,h3⟩:=hbad h
         unfold Qu.RqOk at h1
         omega)]
        refine⟨_,rfl,?_⟩
        exact xc0
      ·obtain rfl:i=q.rq.length:=by omega
       have hq:q.Ok:=by
        have h1:=(show ¬(((¬(0≤q.cyl∧q.cyl≤(q.d.S.length:Int)-1)∨(q.sk.length:Int)≠q.d.S.length)∨6<(q.rq.length:Int))) by assumption)
        have h2:=(show ¬¬(0≤q.pas∧q.pas≤6) by assumption)
        refine⟨hd,by omega,by omega,by omega,by omega,Qu.all_getD hall,Qu.all_getD fun j hj=>(hreq j hj).1,fun j hj=>?_⟩
        have:=(hreq (j+1) hj).2 (by omega)
        rwa [Nat.add_sub_cancel] at this
       rw[Qu.chk_of hq]
       refine⟨_,rfl,?_⟩
       exact xc0
  ·rw[Qu.chk_no hd (fun h=>by have:=h.cyl;have:=h.skl;have:=h.rql;have:=h.pas;omega)]
   refine⟨_,rfl,?_⟩
   exact xc0
end Go.Proofs
