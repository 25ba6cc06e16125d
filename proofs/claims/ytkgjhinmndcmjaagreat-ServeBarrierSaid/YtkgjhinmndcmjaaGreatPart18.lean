/- Own work: texts of the proof of a law (Ws2, WpK). No condition. -/
import Derived.Test.YtkgjhinmndcmjaaGreatPart16
import Derived.Test.YtkgjhinmndcmjaaGreatPart17
import Derived.Test.YtkgjhinmndcmjaaGreatPart14
import Derived.Test.YtkgjhinmndcmjaaGreatPart13
import Derived.Test.YtkgjhinmndcmjaaGreatPart0
import Derived.Test.YtkgjhinmndcmjaaGreatPart11
set_option linter.unusedVariables false
set_option linter.unusedSimpArgs false
namespace Go.Proofs
open Go Go.Sx
set_option maxRecDepth 100000
set_option maxHeartbeats 40000000
open Ca (Wt ltK putM)
def seC (n:Int):List V:=[.int .i64 n]
def Sv.o (s:Sv) (es N ms:Nat):List V:=[.int .i64 s.x.n,.sl 2 s.x.l.length (a0e Ca.oC (0,0) s.x.l),.int .i64 s.d.H,.int .i64 s.d.T,.sl 2 s.d.Z.length (a0e zC (0,0) s.d.Z),.int .i64 s.d.hk,.int .i64 s.d.ck,.int .i64 s.d.hs.1,.int .i64 s.d.hs.2,.int .i64 s.d.cs.1,.int .i64 s.d.cs.2,.sl 2 s.sk.length (a0e zC (0,0) s.sk),.int .i64 s.cyl,.sl 1 s.sec.length (a0e seC 0 s.sec),.osl es N,.osl ms s.n]
def mdC (M:Nat→Int) (b:Nat):List V:=[.int .i64 (M b)]
theorem is129 (w:Wt) (ep b:Nat) (k:Int):a0g Tryz.prog 129 false [.agg (wtC w),.iptr [.int .i64 (ep:Nat)],.iptr [.int .i64 k,.int .i64 (b:Nat)]] (·=.prop (w.1<ep∨w.2.1=b) inferInstance):=by
 refine a0a Tryz.E_ok Tryz.func129 rfl (by kernel_rfl) ?_
 refine x2 ?_
 refine⟨_,rfl,?_⟩
 exact xc4
theorem is130 (w:Wt):a0g Tryz.prog 130 false [.agg (wtC w)] (·=.kb true):=by
 refine a0a Tryz.E_ok Tryz.func130 rfl (by kernel_rfl) ?_
 refine x2 ?_
 refine⟨_,rfl,?_⟩
 exact xc4
def wrHF (s:Sv) (N m:Nat) (f:Nat→List V) (nz:Bool) (M:Nat→Int) (ep b:Nat) (k:Int):List O:=[.cells 107 (s.o 1 N 2),.row 59 3 m f nz,.row 3 1 s.n (mdC M) false,.cells 3 [.int .i64 (ep:Nat)],.cells 76 [.int .i64 k,.int .i64 (b:Nat)],.cells 89 [.ptr 0 0],.cells 191 [.fn (.func 129) [] [.ptr 3 0,.ptr 4 0]]]
theorem wr166F (s:Sv) (N m:Nat) (f:Nat→List V) (nz:Bool) (M:Nat→Int) (ep b:Nat) (k:Int) (w:Wt) (hw:w.2.1<s.n):Sx.Callee Tryz.prog 166 [.agg (wtC w),.ptr 6 0,.ptr 5 0] (wrHF s N m f nz M ep b k)
  (fun v H=>∃M',(M'=@ite _ (w.1<ep∨w.2.1=b) (Classical.propDecidable _) (putM M w) M)∧v=.prop (w.1<ep∨w.2.1=b) (Classical.propDecidable _)∧H=wrHF s N m f nz M' ep b k):=by
 cases nz
 all_goals
  refine a0k Tryz.E_ok Tryz.func166 rfl (by kernel_rfl) ?_
  unfold wrHF
  refine x2 ?_
  refine a0u (is129 w ep b k) ?_
  refine x2 ?_
  rintro _ rfl
  refine x30 (fun hc=>?_) (fun hc=>?_)
  ·refine⟨_,_,⟨_,rfl,rfl,rfl⟩,some [some 0,some 1,some 2,some 3,some 4,some 5,some 6],?_⟩
   rw[if_neg hc]
   exact xc4
  ·have hp:w.1<ep∨w.2.1=b:=a0O.1 hc
   have htw:((w.2.1:Nat):Int).toNat=w.2.1:=a0E _
   rw[htw]
   refine⟨_,_,⟨_,rfl,rfl,rfl⟩,some [some 0,some 1,some 2,some 3,some 4,some 5,some 6],?_⟩
   rw[if_pos hp]
   refine x2 ?_
   refine⟨fun j _=>?_,?_⟩
   ·unfold mdC putM
    dsimp only
    by_cases g:j=w.2.1
    ·rw[a0w g,if_pos g];rfl
    ·rw[a0t g,if_neg g]
   exact xc4
def wrHA (s:Sv) (N m:Nat) (f:Nat→List V) (nz:Bool) (M:Nat→Int):List O:=[.cells 107 (s.o 1 N 2),.row 59 3 m f nz,.row 3 1 s.n (mdC M) false,.cells 89 [.ptr 0 0],.cells 191 [.fn (.func 130) [] []]]
theorem wr166A (s:Sv) (N m:Nat) (f:Nat→List V) (nz:Bool) (M:Nat→Int) (w:Wt) (hw:w.2.1<s.n):Sx.Callee Tryz.prog 166 [.agg (wtC w),.ptr 4 0,.ptr 3 0] (wrHA s N m f nz M)
  (fun v H=>∃M',(M'=@ite _ True (Classical.propDecidable _) (putM M w) M)∧v=.prop True (Classical.propDecidable _)∧H=wrHA s N m f nz M'):=by
 cases nz
 all_goals
  refine a0k Tryz.E_ok Tryz.func166 rfl (by kernel_rfl) ?_
  unfold wrHA
  refine x2 ?_
  refine a0b (is130 w) rfl ?_
  rintro _ rfl
  refine x2 ?_
  have htw:((w.2.1:Nat):Int).toNat=w.2.1:=a0E _
  rw[htw]
  refine⟨_,_,⟨_,rfl,rfl,rfl⟩,some [some 0,some 1,some 2,some 3,some 4],?_⟩
  rw[if_pos trivial]
  refine x2 ?_
  refine⟨fun j _=>?_,?_⟩
  ·unfold mdC putM
   dsimp only
   by_cases g:j=w.2.1
   ·rw[a0w g,if_pos g];rfl
   ·rw[a0t g,if_neg g]
  exact xc4
end Go.Proofs
namespace Go.Proofs
open Go Go.Sx
set_option maxRecDepth 100000
set_option maxHeartbeats 40000000
open Ca (Wt epW IsCrs)
def anyS:Nat→Nat→List (Nat×V)
 |_,0=>[]
 |a,n+1=>(a,.any) :: anyS (a+1) n
theorem ex_succ {p:Nat→Prop} {b:Nat}:(∃j,j<b∧p j)∨p b↔∃j,j<b+1∧p j:=by
 constructor
 ·rintro(⟨j,h1,h2⟩|h)
  ·exact⟨j,by omega,h2⟩
  ·exact⟨b,by omega,h⟩
 ·rintro⟨j,h1,h2⟩
  rcases a0I (a2C h1) with q|rfl
  ·exact .inl ⟨j,q,h2⟩
  ·exact .inr h2
theorem kept40 (x:Ca.Cache) (hx:x.Ok) (n:Nat) (hn:x.n=n) (F:Nat→Int) (hF:∀i,i<x.l.length→(x.l.getD i (0,0)).1=3→∀b0,b0<n→(i:Int)<F b0→∀q,q<i→∀b,b<n→Ca.putQ x q b→(q:Int)≤F b):a0g Tryz.prog 40 false [x.v,.sl 1 n (mdC F)] (·=.kb true):=by
 have hn6:=hx.n
 have hl:=hx.len
 refine a0a Tryz.E_ok Tryz.func40 rfl (by kernel_rfl) ?_
 unfold Ca.Cache.v
 refine x1 ?_
 refine⟨Nat,fun i=>i≤x.l.length,fun i=>x.l.length-i,fun i=>[(5,.int .i64 (i:Nat))]++anyS 6 3++anyS 9 56,fun _=>[],fun _=>[],0,⟨a1X _,none,?_⟩,?_⟩
 ·exact xc0
 ·intro i hi
  have hi:i≤x.l.length:=hi
  have hti:((i:Nat):Int).toNat=i:=a0E i
  by_cases hil:i<x.l.length
  ·have hF:=hF i hil
   have hbk:=fun k (hk:k<i)=>hx.blkn hn (show k<x.l.length by omega)
   refine x3 (fun hc hc=>?_) (fun hc hc=>?_)
   ·rw[hti] at hc
    refine⟨i+1,⟨by omega,by dsimp only;omega⟩,none,?_⟩
    exact xc0
   ·rw[hti] at hc
    have h3:(x.l.getD i (0,0)).1=3:=by omega
    have hF:=hF h3
    clear hc
    refine⟨Nat,fun b=>b≤n,fun b=>n-b,fun b=>[(7,.int .i64 (b:Nat)),(6,.prop (∃j,j<b∧(i:Int)<F j) (Classical.propDecidable _))]++anyS 23 42,fun _=>[],fun _=>[],0,⟨a1X _,none,?_⟩,?_⟩
    ·exact xc0
    ·intro b hb
     have hb:b≤n:=hb
     have htb:((b:Nat):Int).toNat=b:=a0E b
     by_cases hbl:b<n
     ·refine x1 (fun hc=>?_)
      refine⟨b+1,⟨by omega,by dsimp only;omega⟩,none,?_⟩
      refine x1 ?_
      refine⟨by rw[htb];exact ex_succ,?_⟩
      exact xc0
     ·have e:b=n:=by omega
      subst e
      by_cases hbe:∃j,j<b∧(i:Int)<F j
      ·obtain⟨b0,hb0,hlt⟩:=hbe
       have hF:=hF b0 hb0 hlt
       have hP:∃j,j<b∧(i:Int)<F j:=⟨b0,hb0,hlt⟩
       refine x1 (fun hc=>?_)
       refine⟨Nat,fun q=>q≤i,fun q=>i-q,fun q=>[(8,.int .i64 (q:Nat))]++anyS 38 27,fun _=>[],fun _=>[],0,⟨a1X _,none,?_⟩,?_⟩
       ·exact xc0
       ·intro q hq
        have hq:q≤i:=hq
        have htq:((q:Nat):Int).toNat=q:=a0E q
        by_cases hql:q<i
        ·have hF:=hF q hql
         have hbk:=hbk q hql
         have hpq:∀b',Ca.putQ x q b'↔((x.l.getD q (0,0)).1=1∨(x.l.getD q (0,0)).1=2)∧(x.l.getD q (0,0)).2=b':=fun _=>a2W
         refine x3 (fun hc=>?_) (fun hc=>?_)
         ·rw[htq]
          clear hc
          refine a0b (Ca.puts35 (x.l.getD q (0,0))) rfl ?_
          rintro _ rfl
          refine x1 ?_
          refine⟨fun h=>by rw[htq];exact hbk h,?_⟩
          refine x3 (fun hc=>?_) (fun hc=>?_)
          ·rw[htq] at hc
           exfalso
           have h1:=hbk hc.1
           have h2:=hF (x.l.getD q (0,0)).2.toNat (by omega) ((hpq _).2 ⟨hc.1,by omega⟩)
           have h3:=hc.2
           omega
          ·refine⟨q+1,⟨by omega,by dsimp only;omega⟩,none,?_⟩
           exact xc0
         ·exact absurd ⟨by omega,hP⟩ hc
        ·refine x1 (fun hc=>?_)
         refine⟨i+1,⟨by omega,by dsimp only;omega⟩,none,?_⟩
         exact xc0
      ·refine x1 (fun hc=>?_)
       refine⟨Unit,fun _=>True,fun _=>0,fun _=>[(8,.int .i64 0)],fun _=>[],fun _=>[],(),⟨trivial,none,?_⟩,?_⟩
       ·exact xc0
       ·intro _ _
        refine x3 (fun hc=>?_) (fun hc=>?_)
        ·exact absurd hc.2 hbe
        ·refine⟨i+1,⟨by omega,by dsimp only;omega⟩,none,?_⟩
         exact xc0
  ·have e:i=x.l.length:=by omega
   subst e
   refine x1 (fun hc=>?_)
   refine⟨_,rfl,?_⟩
   exact xc0
end Go.Proofs
