/- Own work: texts of the proof of a law (Gw4, Hs2, Gw5). No condition. -/
import Derived.Test.YtbdcjkcmpcdipaaGreatPart13
set_option linter.unusedVariables false
set_option linter.unusedSimpArgs false
namespace Go.Proofs
open Go Go.Sx
set_option maxRecDepth 100000
set_option maxHeartbeats 40000000
namespace Ho
def fillC (n:Int) (i:Nat):C6:=⟨if 0<i then n else 0,if 1<i then n else 0,if 2<i then n else 0,if 3<i then n else 0,if 4<i then n else 0,if 5<i then n else 0⟩
theorem a1b (n:Int):a0q Tryz.prog 84 false [.int .i64 n] (·=.agg (C6.all n).c):=by
 refine a0c Tryz.E_ok Tryz.func84 rfl (by kernel_rfl) ?_
 refine x1 ?_
 refine⟨Nat,fun i=>i≤6,fun i=>6-i,fun i=>[(4,.int .i64 (i:Nat))],fun i=>[(0,.cells 90 (fillC n i).c)],fun _=>[],0,⟨by omega,some [some 0],?_⟩,?_⟩
 ·exact xc3
 ·intro i hi
  by_cases h6:i<6
  ·rcases six h6 with rfl|rfl|rfl|rfl|rfl|rfl
   ·refine x1 (fun hc=>?_)
    refine⟨1,⟨by dsimp only;omega,by dsimp only;omega⟩,some [some 0],?_⟩
    exact xc3
   ·refine x1 (fun hc=>?_)
    refine⟨2,⟨by dsimp only;omega,by dsimp only;omega⟩,some [some 0],?_⟩
    exact xc3
   ·refine x1 (fun hc=>?_)
    refine⟨3,⟨by dsimp only;omega,by dsimp only;omega⟩,some [some 0],?_⟩
    exact xc3
   ·refine x1 (fun hc=>?_)
    refine⟨4,⟨by dsimp only;omega,by dsimp only;omega⟩,some [some 0],?_⟩
    exact xc3
   ·refine x1 (fun hc=>?_)
    refine⟨5,⟨by dsimp only;omega,by dsimp only;omega⟩,some [some 0],?_⟩
    exact xc3
   ·refine x1 (fun hc=>?_)
    refine⟨6,⟨by dsimp only;omega,by dsimp only;omega⟩,some [some 0],?_⟩
    exact xc3
  ·obtain rfl:i=6:=by have hi:i≤6:=hi;omega
   refine x1 (fun hc=>?_)
   refine⟨_,rfl,?_⟩
   exact xc3
theorem seven {e:Nat} (h:e<7):e=0∨e=1∨e=2∨e=3∨e=4∨e=5∨e=6:=by omega
theorem write73f (f:Nat→Int) (e b:Nat) (he:e<7) (hb:b<6):Sx.Callee Tryz.prog 120 [.ptr 0 0,.int .i64 e,.int .i64 b] [.cells 130 (skV f)] (fun v H=>v=.tup []∧H=[.cells 130 (skV (wrF f e b))]):=by
 rcases seven he with rfl|rfl|rfl|rfl|rfl|rfl|rfl<;>rcases six hb with rfl|rfl|rfl|rfl|rfl|rfl
 all_goals
  refine a2k Tryz.E_ok Tryz.func120 rfl (by kernel_rfl) ?_
  (repeat' ((conv=>whnf);first|(with_reducible first|apply spl|apply spl'|refine iJ ?_)<;>intro hc<;>try(exfalso;omega)|refine vcq ?_|refine dr 1113101209112012 ?_));all_goals(try conv=>whnf);try exact trivial
  ·rw[wrF_there hc]
   rfl
  ·exact congrArg (fun f=>[O.cells 130 (skV f)]) (wrF_gone (a0T.1 hc)).symm
theorem write73 (u:PS) (hl:u.E.length≤7) (e b:Nat) (he:e<u.E.length) (hb:b<6):Sx.Callee Tryz.prog 120 [.ptr 0 0,.int .i64 e,.int .i64 b] [.cells 130 (skV (skI u))] (fun v H=>v=.tup []∧H=[.cells 130 (skV (skI (u.wr e b)))]):=by
 refine Callee.mono (write73f (skI u) e b (by omega) hb) ?_
 rintro v H ⟨rfl,rfl⟩
 exact⟨rfl,by rw[skV_congr (skI_wr u he hb)]⟩
theorem PS.wrB_len (s:PS) (e:Nat):∀b,(s.wrB e b).E.length=s.E.length
 |0=>rfl
 |b+1=>by rw[PS.wrB,PS.wr_len,PS.wrB_len s e b]
theorem PS.wrE_len (s:PS):∀e,(s.wrE e).E.length=s.E.length
 |0=>rfl
 |e+1=>by rw[PS.wrE,PS.wrB_len,PS.wrE_len s e]
theorem writeAll72 (u:PS) (hl:u.E.length≤7) (n:Nat) (hn:n≤u.E.length):Sx.Callee Tryz.prog 119 [.ptr 0 0,.int .i64 n] [.cells 130 (skV (skI u))] (fun v H=>v=.tup []∧H=[.cells 130 (skV (skI (u.wrE n)))]):=by
 refine a2k Tryz.E_ok Tryz.func119 rfl (by kernel_rfl) ?_
 refine x1 ?_
 refine⟨Nat,fun i=>i≤n,fun i=>n-i,fun i=>[(7,.int .i64 (i:Nat))],fun i=>[(0,.cells 130 (skV (skI (u.wrE i))))],fun _=>[],0,⟨by omega,some [some 0],?_⟩,?_⟩
 ·exact xc3
 ·intro i hi
  have hi:i≤n:=hi
  have hl1:=PS.wrE_len u i
  refine x7 (fun hc=>?_) (fun hc=>?_)
  ·refine⟨Nat,fun b=>b≤6,fun b=>6-b,fun b=>[(10,.int .i64 (b:Nat))],fun b=>[(0,.cells 130 (skV (skI ((u.wrE i).wrB i b))))],fun _=>[],0,⟨by omega,some [some 0],?_⟩,?_⟩
   ·exact xc3
   ·intro b hb
    have hb:b≤6:=hb
    have hl2:=PS.wrB_len (u.wrE i) i b
    refine x7 (fun hc=>?_) (fun hc=>?_)
    ·refine Callee.mono (write73 ((u.wrE i).wrB i b) (by omega) i b (by omega) (by omega)) ?_
     rintro _ _ ⟨rfl,rfl⟩
     refine x1 ?_
     refine⟨b+1,⟨by dsimp only;omega,by dsimp only;omega⟩,some [some 0],?_⟩
     exact xc3
    ·obtain rfl:b=6:=by omega
     refine x1 ?_
     refine⟨i+1,⟨by dsimp only;omega,by dsimp only;omega⟩,some [some 0],?_⟩
     exact xc3
  ·obtain rfl:i=n:=by omega
   exact xc3
end Ho
end Go.Proofs
namespace Go.Proofs
open Go Go.Sx
set_option maxRecDepth 100000
set_option maxHeartbeats 4000000
namespace Ho
def skVL (L:Int) (f:Nat→Int):List V:=[.int .i64 (f 0),.int .i64 (f 1),.int .i64 (f 2),.int .i64 (f 3),.int .i64 (f 4),.int .i64 (f 5),.int .i64 L,.int .i64 (f 7),.int .i64 (f 8),.int .i64 (f 9),.int .i64 (f 10),.int .i64 (f 11),.int .i64 (f 12),.int .i64 (f 13),.int .i64 (f 14),.int .i64 (f 15),.int .i64 (f 16),.int .i64 (f 17),.int .i64 (f 18),.int .i64 (f 19),.int .i64 (f 20),.int .i64 (f 21),.int .i64 (f 22),.int .i64 (f 23),.int .i64 (f 24),.int .i64 (f 25),.int .i64 (f 26),.int .i64 (f 27),.int .i64 (f 28),.int .i64 (f 29),.int .i64 (f 30),.int .i64 (f 31),.int .i64 (f 32),.int .i64 (f 33),.int .i64 (f 34),.int .i64 (f 35),.int .i64 (f 36),.int .i64 (f 37),.int .i64 (f 38),.int .i64 (f 39),.int .i64 (f 40),.int .i64 (f 41),.int .i64 (f 42),.int .i64 (f 43),.int .i64 (f 44),.int .i64 (f 45),.int .i64 (f 46),.int .i64 (f 47),.int .i64 (f 48),.int .i64 (f 49),.int .i64 (f 50),.int .i64 (f 51),.int .i64 (f 52),.int .i64 (f 53),.int .i64 (f 54),.int .i64 (f 55),.int .i64 (f 56),.int .i64 (f 57),.int .i64 (f 58),.int .i64 (f 59),.int .i64 (f 60),.int .i64 (f 61),.int .i64 (f 62),.int .i64 (f 63),.int .i64 (f 64),.int .i64 (f 65),.int .i64 (f 66),.int .i64 (f 67),.int .i64 (f 68),.int .i64 (f 69),.int .i64 (f 70),.int .i64 (f 71),.int .i64 (f 72)]
theorem skV_at {f:Nat→Int} {L:Int} (h:f 6=L):skV f=skVL L f:=by
 unfold skV skVL
 rw[h]
theorem putF_ok (u:PS) {L b:Nat} (hL:u.E.length=L+1) (hl:L+1≤7) (hb:b<6) (n:Int):∀i,i<73→(if i=7+6*L+b then n else skI u i)=skI (u.put b n) i:=by
 have hlen:(u.put b n).E.length=u.E.length:=PS.put_len u b n
 have hep:∀e,(u.put b n).ep e=if e=L then(u.ep L).set b n else u.ep e:=by
  intro e
  unfold PS.put PS.ep
  dsimp only
  rw[hL]
  simp only[a0A,a0H]
  have:L+1-1=L:=by omega
  rw[this]
  by_cases hh:L=e
  ·subst hh
   simp[hL]
  ·rw[if_neg hh,if_neg (fun g=>hh g.symm)]
 refine skI_ext (fun b' hb'=>?_) ?_ (fun e' b' he' hb'=>?_)
 ·rw[if_neg (by omega),skI_med u hb']
  rfl
 ·rw[if_neg (by omega),skI_len,hlen]
 ·rw[hlen,hep]
  by_cases he:e'=L
  ·subst he
   rw[if_pos (show e'<u.E.length by omega),if_pos rfl,C6.get_set hb hb']
   by_cases hbb:b'=b
   ·subst hbb;rw[if_pos rfl,if_pos rfl]
   ·rw[if_neg (show ¬7+6*e'+b'=7+6*e'+b by omega),if_neg hbb,skI_ep u (by omega) hb']
  ·rw[if_neg (by omega),if_neg he]
   split
   ·rename_i h;rw[skI_ep u h hb']
   ·rename_i h;rw[skI_out u (by omega) hb']
theorem barF_ok (u:PS) {L:Nat} (hL:u.E.length=L) (hl:L+1≤7):∀i,i<73→(if i=6 then((L+1:Nat):Int) else if 7+6*L≤i∧i<7+6*L+6 then -3 else skI u i)=skI ⟨u.M,u.E++[NO],u.W⟩ i:=by
 have hep:∀e,(⟨u.M,u.E++[NO],u.W⟩:PS).ep e=if e=L then NO else u.ep e:=by
  intro e
  unfold PS.ep
  dsimp only
  simp only[a0A]
  by_cases hh:e=L
  ·subst hh
   rw[if_pos rfl,a0R (by omega)]
   simp[hL]
  ·rw[if_neg hh]
   by_cases h2:e<L
   ·rw[a0E (by omega)]
   ·rw[a0P (by simp;omega),a0P (by omega)]
 refine skI_ext (fun b' hb'=>?_) ?_ (fun e' b' he' hb'=>?_)
 ·rw[if_neg (by omega),if_neg (by omega),skI_med u hb']
 ·rw[if_pos rfl]
  simp[hL]
 ·rw[if_neg (by omega),hep]
  simp only[a0F,a0I,a1S,hL]
  by_cases he:e'=L
  ·subst he
   rw[if_pos (by omega),if_pos (by omega),if_pos rfl]
   exact(C6.get_all hb').symm
  ·rw[if_neg (by omega),if_neg he]
   by_cases h:e'<L
   ·rw[if_pos (by omega),skI_ep u (by omega) hb']
   ·rw[if_neg (by omega),skI_out u (by omega) hb']
end Ho
end Go.Proofs
namespace Go.Proofs
open Go Go.Sx
set_option maxRecDepth 100000
set_option maxHeartbeats 40000000
namespace Ho
theorem ordB (u:PS) (L:Nat) (hL:u.E.length=L) (h0:0<L) (hl:L+1≤7) (c:Cmd) (hk:c.k=3) (n:Int) :
  a0q Tryz.prog 86 false [.agg (skV (skI u)),c.w,.int .i64 n] (·=.agg (skV (skI (u.orderU n c.o)))):=by
 have e1:u.orderU n c.o=⟨u.M,u.E++[NO],u.W⟩:=by
  have e:c.o=(3,c.b):=by unfold Cmd.o;rw[if_neg (by omega),hk]
  rw[e];rfl
 have e2:=skV_congr (barF_ok u hL hl)
 have h6:skI u 6=L:=by rw[skI_len,hL]
 rw[e1,←e2,skV_at h6]
 clear e1 e2
 generalize skI u=f at *
 have:L=1∨L=2∨L=3∨L=4∨L=5∨L=6:=by omega
 clear h6 hL
 rcases this with rfl|rfl|rfl|rfl|rfl|rfl
 all_goals
  refine a0c Tryz.E_ok Tryz.func86 rfl (by kernel_rfl) ?_
  refine x29 (fun hc=>?_);(repeat' ((first|(refine a0d (a1b (-3)) rfl ?_;rintro _ rfl)|(refine a0f (a1b (-3)) rfl ?_)|(refine a0l (fun _=>a1b (-3)) rfl ?_));refine x29 ?_));(all_goals(try(refine⟨_,rfl,?_⟩;exact xc32)))
  
theorem ordF (u:PS) (L:Nat) (hL:u.E.length=L) (hl:L≤7) (c:Cmd) (hk:c.k=4) (n:Int) :
  a0q Tryz.prog 86 false [.agg (skV (skI u)),c.w,.int .i64 n] (·=.agg (skV (skI (u.orderU n c.o)))):=by
 have e1:u.orderU n c.o=u.wrE u.E.length:=by
  have e:c.o=(4,c.b):=by unfold Cmd.o;rw[if_neg (by omega),hk]
  rw[e];rfl
 have hw:=writeAll72 u (by omega) u.E.length (a0U _)
 have h6:skI u 6=(u.E.length:Int):=skI_len u
 rw[e1]
 rw[skV_at h6] at hw ⊢
 refine a0c Tryz.E_ok Tryz.func86 rfl (by kernel_rfl) ?_
 refine x29 (fun hc hc=>?_)
 refine a0e [0] hw rfl ?_ ?_
 ·exact xc32
 ·rintro _ _ ⟨rfl,rfl⟩
  refine x29 ?_
  refine⟨_,rfl,?_⟩
  exact xc32
end Ho
end Go.Proofs
