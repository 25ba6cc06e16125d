/- Own work: texts of the proof of a law (GrH, HrC, GrJ, GrK, GrO, Gp1, Gp2, Gp3, Gp5). No condition. -/
import Derived.Test.YtbdcjkcmpcdipaaGreatGrRXPart32
set_option linter.unusedVariables false
set_option linter.unusedSimpArgs false
namespace Go.Proofs
open Go Go.Sx
set_option maxRecDepth 100000
set_option maxHeartbeats 40000000
namespace Ho
abbrev IE:=Nat×(Nat→Int)
def lC (e:IE):List V:=[.sl 1 e.1 (iF e.2)]
def ie0:IE:=(0,fun _=>0)
def anyS:Nat→Nat→List (Nat×V)
 |_,0=>[]
 |a,n+1=>(a,.any) :: anyS (a+1) n
theorem PosI.lo {h:Hist} (g:h.Ok) {r:RT} (gr:RW h r) {f:Nat→Int} {c:C6} (hp:PosI (h.cache r.O) c) (hf:Fits h.nn f c):∀b,b<h.nn→-2≤f b∧(0≤f b→(f b).toNat<r.O.length):=by
 have h6:=g.nn
 have hl:(h.cache r.O).l.length=r.O.length:=a2M ..
 intro b hb
 rw[hf b hb]
 rcases hp.holds (gr.cache g) (show b<6 by omega) with q|q|⟨q,h1,q,_⟩<;>omega
end Ho
end Go.Proofs
namespace Go.Proofs
open Go Go.Sx
set_option maxRecDepth 100000
set_option maxHeartbeats 4000000
namespace Ho
variable {h:Hist}
theorem pos1_neg {O:List Nat} {n:Int} (hn:n<0):∀k,pos1 O n k=[]
 |0=>rfl
 |k+1=>by rw[pos1_no (by omega),pos1_neg hn k]
theorem getD_inj {O:List Nat} (hd:O.Nodup) {a b:Nat} (ha:a<O.length) (hb:b<O.length) (e:O.getD a 0=O.getD b 0):a=b:=by
 rw[a0A,a0A,a0D ha,a0D hb] at e
 have e:O[a]=O[b]:=e
 rcases Nat.lt_trichotomy a b with q|q|q
 ·exact absurd e (a2C.1 hd a b ha hb q)
 ·exact q
 ·exact absurd e.symm (a2C.1 hd b a hb ha q)
theorem pos1_one {O:List Nat} (hd:O.Nodup) {q:Nat} (hq:q<O.length):∀k,k≤O.length→pos1 O (O.getD q 0:Nat) k=if q<k then [(q:Int)] else []
 |0,_=>by simp[pos1]
 |k+1,hk=>by
  have ih:=pos1_one hd hq k (by omega)
  by_cases e:k=q
  ·subst e
   rw[pos1_yes rfl,ih,if_neg (Nat.lt_irrefl _),if_pos (Nat.lt_succ_self _)]
   rfl
  ·rw[pos1_no (fun u=>e (getD_inj hd (by omega) hq (by omega))),ih]
   by_cases h2:q<k
   ·rw[if_pos h2,if_pos (by omega)]
   ·rw[if_neg h2,if_neg (by omega)]
theorem part_num {O:List Nat} (hd:O.Nodup) {v:Int} (hv:v=-1∨v=-2∨∃q:Nat,q<O.length∧v=q):part O (num O v)=[v]:=by
 unfold part num
 rcases hv with rfl|rfl|⟨q,hq,rfl⟩
 ·rw[if_pos (by omega),pos1_neg (by omega)];rfl
 ·rw[if_pos (by omega),pos1_neg (by omega)];rfl
 ·rw[if_neg (by omega),a1N,pos1_one hd hq _ (a0U _),if_pos hq,if_neg (by omega)]
  rfl
theorem poss_of (gh:h.Ok) {r:RT} (g:RW h r) {c:C6} (hp:PosN h r.O c):PossX h r (C6.first c h.nn)∧(r.fall h 0 (fX h r (C6.first c h.nn))).K=h.keep r.K (C6.first c h.nn)∧∃c0,PosI (h.cache r.O) c0∧Fits h.nn (fX h r (C6.first c h.nn)) c0:=by
 have hc:=g.cache gh
 have h6:=gh.nn
 have hl:(h.cache r.O).l.length=r.O.length:=a2M ..
 obtain⟨c0,hp0,rfl⟩:=(posN_iff hc c).1 hp
 have hv:∀b,b<h.nn→c0.get b=-1∨c0.get b=-2∨∃q:Nat,q<r.O.length∧c0.get b=q:=by
  intro b hb
  rcases hp0.holds hc (show b<6 by omega) with q|q|⟨q,h1,q2,_⟩
  ·exact .inr (.inl q)
  ·exact .inl q
  ·exact .inr (.inr ⟨q,by omega,q2⟩)
 have hat:∀b,b<h.nn→(C6.first (c0.ren (num r.O)) h.nn).getD b 0=num r.O (c0.get b):=by
  intro b hb
  unfold C6.first
  simp[a0A,hb]
  exact C6.ren_get _ _ (by omega)
 have hidx:∀k,k≤h.nn→idxL r.O (C6.first (c0.ren (num r.O)) h.nn) k=(List.range k).map c0.get:=by
  intro k
  induction k with
  |zero=>intro _;rfl
  |succ k ih=>
   intro hk
   rw[idxL_succ,ih (by omega),hat k (by omega),part_num (g.ond gh) (hv k (by omega)),List.range_succ,a1L]
   rfl
 have hX:=hidx h.nn (a0U _)
 have hgx:∀b,b<h.nn→((List.range h.nn).map c0.get).getD b 0=c0.get b:=by
  intro b hb
  simp[a0A,hb]
 have hfit:Fits h.nn (fX h r (C6.first (c0.ren (num r.O)) h.nn)) c0:=by
  intro b hb
  unfold fX
  rw[hX,hgx b hb]
 refine⟨⟨?_,⟨?_,fun b hb=>?_⟩,c0,hp0,fun b hb=>?_⟩,?_,c0,hp0,hfit⟩
 ·unfold C6.first
  rw[a2M,List.length_range]
  exact h6.1
 ·rw[hX,a2M,List.length_range]
  exact h6.1
 ·rw[hX,a2M,List.length_range] at hb
  rw[hX,hgx b hb]
  rcases hp0.holds hc (show b<6 by omega) with q|q|⟨q,h1,q2,h3,h4⟩
  ·exact .inr (.inl q)
  ·exact .inl q
  ·refine .inr (.inr ?_)
   rw[q2,a1N]
   exact⟨by omega,h3,h4⟩
 ·rw[hX,a2M,List.length_range] at hb
  rw[hX,hgx b hb]
 ·unfold RT.fall Hist.keep
  apply List.map_congr_left
  intro b hb
  rw[a1D] at hb
  have h2:-2≤fX h r (C6.first (c0.ren (num r.O)) h.nn) b:=by
   rw[hfit b hb]
   rcases hv b hb with q|q|⟨q,_,q⟩<;>omega
  rw[kf_keep r h2,hfit b hb,hat b hb]
def ordS:SR→List Int
 |.root=>[]
 |.node _ b cmd _=>ordS b++[(cmd:Int)]
def imsS (h:Hist):SR→List (List Int)
 |.root=>[]
 |.node _ b _ im=>imsS h b++(match im with|none=>[]|some c=>[C6.first c h.nn])
def rtS (h:Hist):SR→RT
 |.root=>RT.begin h
 |.node _ b cmd im=>(match im with|none=>(rtS h b).doO h cmd|some c=>(rtS h b).fall h cmd (fX h (rtS h b) (C6.first c h.nn)))
theorem rtS_ok (gh:h.Ok):∀{r:SR},r.Good h→(rtS h r).st=r.st h∧RW h (rtS h r)∧∀o ims,isx h (rtS h r) o ims→isx h (RT.begin h) (ordS r++o) (imsS h r++ims)
 |.root,_=>⟨rfl,RW.begin h,fun _ _ hx=>hx⟩
 |.node s b cmd im,hr=>by
  obtain⟨hb,hc,hm,hs⟩:=hr
  obtain⟨e,g,hx⟩:=rtS_ok gh hb
  have eO:(rtS h b).O=(b.st h).O:=congrArg St.O e
  have hmd:MayD h (rtS h b).d cmd:=mayD_iff.2 (by
   have eD:bitsL (rtS h b).d=(b.st h).D:=congrArg St.D e
   rw[eD];exact hm)
  rcases hs with⟨h9,rfl,hf,rfl⟩|⟨h9,c,rfl,hp,rfl⟩
  ·have hfx:FitX h (rtS h b) cmd:=fun k10 _=>by rw[e];exact(hf k10).2
   refine⟨?_,g.doO hc hmd h9 hfx,fun o ims hy=>?_⟩
   ·change ((rtS h b).doO h cmd).st=_
    rw[do_st,e]
    rfl
   ·have:=hx ((cmd:Int) :: o) ims ⟨⟨by omega,by omega⟩,by rw[a1N];exact hmd,by rw[a1N];exact hfx,.inl ⟨by rw[a1N];exact h9,by rw[a1N];exact hy⟩⟩
    unfold ordS imsS
    rw[a2D,List.append_nil]
    exact this
  ·rw[←eO] at hp
   obtain⟨hpx,hk,c0,hp0,hfit⟩:=poss_of gh g hp
   refine⟨?_,g.fall gh hc hmd h9 hp0 hfit,fun o ims hy=>?_⟩
   ·refine St.ext' ?_ rfl ?_
    ·change bitsL ((rtS h b).d++[cmd])=_
     rw[bitsL_snoc]
     have eD:bitsL (rtS h b).d=(b.st h).D:=congrArg St.D e
     rw[eD]
     rfl
    ·change ((rtS h b).fall h 0 _).K=_
     rw[hk]
     have eK:(rtS h b).K=(b.st h).K:=congrArg St.K e
     rw[eK]
     rfl
   ·have:=hx ((cmd:Int) :: o) (C6.first c h.nn :: ims) ⟨⟨by omega,by omega⟩,by rw[a1N];exact hmd,fun k10=>by rw[a1N] at k10;omega,.inr ⟨by rw[a1N];exact h9,_,_,rfl,hpx,by rw[a1N];exact hy⟩⟩
    unfold ordS imsS
    rw[a2D,a2D]
    exact this
end Ho
end Go.Proofs
namespace Go.Proofs
open Go Go.Sx
set_option maxRecDepth 100000
set_option maxHeartbeats 40000000
namespace Ho
def revF {α:Type} (n i:Nat) (F:Nat→α) (k:Nat):α:=if k<i∨n≤k+i then F (n-1-k) else F k
theorem revF_step {α:Type} (F:Nat→α) {n i k:Nat} (hi:i<n-1-i) (hk:k<n):revF n (i+1) F k=if k=n-1-i then revF n i F i else if k=i then revF n i F (n-1-i) else revF n i F k:=by
 unfold revF
 by_cases a:k=n-1-i
 ·rw[if_pos a,if_pos (by omega),if_neg (by omega)]
  congr 1
  omega
 ·rw[if_neg a]
  by_cases b:k=i
  ·rw[if_pos b,if_pos (by omega),if_neg (by omega),b]
  ·rw[if_neg b]
   by_cases c:k<i∨n≤k+i
   ·rw[if_pos (by omega),if_pos c]
   ·rw[if_neg (by omega),if_neg c]
theorem revF_end {α:Type} (F:Nat→α) {n i k:Nat} (hi:¬i<n-1-i) (h2:2*i≤n+1) (hk:k<n):revF n i F k=revF n n F k:=by
 unfold revF
 rw[if_pos (show k<n∨n≤k+n by omega)]
 by_cases c:k<i∨n≤k+i
 ·rw[if_pos c]
 ·rw[if_neg c]
  congr 1
  omega
theorem rev65 (n:Nat) (hn:n≤1000000) (F:Nat→Int):Sx.Callee Tryz.prog 65 [.osl 0 n] [.row 3 1 n (fun k=>[.int .i64 (F k)]) true] (fun v H=>v=.tup []∧H=[.row 3 1 n (fun k=>[.int .i64 (revF n n F k)]) true]):=by
 refine callee_ent Tryz.E_ok Tryz.func65 rfl (by kernel_rfl) ?_
 (repeat' ((conv=>whnf);first|(with_reducible first|apply spl|apply spl'|refine iJ ?_)<;>intro hc<;>try(exfalso;omega)|refine vcq ?_|refine dr 2013 ?_));all_goals(try conv=>whnf);try exact trivial
 refine⟨Nat,fun i=>2*i≤n+1,fun i=>n-i,fun i=>[(2,.int .i64 (i:Nat)),(3,.int .i64 ((n:Int)-1-i))],fun i=>[(0,.row 3 1 n (fun k=>[.int .i64 (revF n i F k)]) true)],fun _=>[],0,⟨by omega,some [some 0],?_⟩,?_⟩
 ·(repeat' ((conv=>whnf);first|(with_reducible first|apply spl|apply spl'|refine iJ ?_)<;>intro hc<;>try(exfalso;omega)|refine vcq ?_|refine dr 2013 ?_));all_goals(try conv=>whnf);try exact trivial
  refine⟨fun k hk=>?_,?_⟩
  ·unfold revF
   dsimp only
   rw[if_neg (by omega)]
  ·(repeat' ((conv=>whnf);first|(with_reducible first|apply spl|apply spl'|refine iJ ?_)<;>intro hc<;>try(exfalso;omega)|refine vcq ?_|refine dr 2013 ?_));all_goals(try conv=>whnf);try exact trivial
 ·intro i hi
  have hi:2*i≤n+1:=hi
  have hi0:((i:Nat):Int).toNat=i:=by omega
  (repeat' ((conv=>whnf);first|(with_reducible first|apply spl|apply spl'|refine iJ ?_)<;>intro hc<;>try(exfalso;omega)|refine vcq ?_|refine dr 2013 ?_));all_goals(try conv=>whnf);try exact trivial
  ·have hj0:((n:Int)-1-i).toNat=n-1-i:=by omega
   refine⟨i+1,⟨by omega,by dsimp only;omega⟩,some [some 0],?_⟩
   (repeat' ((conv=>whnf);first|(with_reducible first|apply spl|apply spl'|refine iJ ?_)<;>intro hc<;>try(exfalso;omega)|refine vcq ?_|refine dr 2013 ?_));all_goals(try conv=>whnf);try exact trivial
   refine⟨fun k hk=>?_,?_⟩
   ·dsimp only
    rw[revF_step F (by omega) hk,hj0,hi0]
    by_cases a:k=n-1-i
    ·rw[a2u a,if_pos a]
     by_cases b:k=i
     ·rw[a2u b];rfl
     ·rw[a2a b];rfl
    ·rw[a2a a,if_neg a]
     by_cases b:k=i
     ·rw[a2u b,if_pos b];rfl
     ·rw[a2a b,if_neg b]
   ·(repeat' ((conv=>whnf);first|(with_reducible first|apply spl|apply spl'|refine iJ ?_)<;>intro hc<;>try(exfalso;omega)|refine vcq ?_|refine dr 2013 ?_));all_goals(try conv=>whnf);try exact trivial
  ·refine⟨_,_,⟨rfl,rfl⟩,some [some 0],?_⟩
   (repeat' ((conv=>whnf);first|(with_reducible first|apply spl|apply spl'|refine iJ ?_)<;>intro hc<;>try(exfalso;omega)|refine vcq ?_|refine dr 2013 ?_));all_goals(try conv=>whnf);try exact trivial
   refine⟨fun k hk=>?_,?_⟩
   ·dsimp only
    rw[revF_end F (by omega) hi hk]
   ·(repeat' ((conv=>whnf);first|(with_reducible first|apply spl|apply spl'|refine iJ ?_)<;>intro hc<;>try(exfalso;omega)|refine vcq ?_|refine dr 2013 ?_));all_goals(try conv=>whnf);try exact trivial
theorem rev66 (n:Nat) (hn:n≤1000000) (F:Nat→Nat×(Nat→Int)):Sx.Callee Tryz.prog 66 [.osl 0 n] [.row 38 1 n (fun k=>[.sl 1 (F k).1 (iF (F k).2)]) true] (fun v H=>v=.tup []∧H=[.row 38 1 n (fun k=>[.sl 1 (revF n n F k).1 (iF (revF n n F k).2)]) true]):=by
 refine callee_ent Tryz.E_ok Tryz.func66 rfl (by kernel_rfl) ?_
 (repeat' ((conv=>whnf);first|(with_reducible first|apply spl|apply spl'|refine iJ ?_)<;>intro hc<;>try(exfalso;omega)|refine vcq ?_|refine dr 2013 ?_));all_goals(try conv=>whnf);try exact trivial
 refine⟨Nat,fun i=>2*i≤n+1,fun i=>n-i,fun i=>[(2,.int .i64 (i:Nat)),(3,.int .i64 ((n:Int)-1-i))],fun i=>[(0,.row 38 1 n (fun k=>[.sl 1 (revF n i F k).1 (iF (revF n i F k).2)]) true)],fun _=>[],0,⟨by omega,some [some 0],?_⟩,?_⟩
 ·(repeat' ((conv=>whnf);first|(with_reducible first|apply spl|apply spl'|refine iJ ?_)<;>intro hc<;>try(exfalso;omega)|refine vcq ?_|refine dr 2013 ?_));all_goals(try conv=>whnf);try exact trivial
  refine⟨fun k hk=>?_,?_⟩
  ·unfold revF
   dsimp only
   rw[if_neg (by omega)]
  ·(repeat' ((conv=>whnf);first|(with_reducible first|apply spl|apply spl'|refine iJ ?_)<;>intro hc<;>try(exfalso;omega)|refine vcq ?_|refine dr 2013 ?_));all_goals(try conv=>whnf);try exact trivial
 ·intro i hi
  have hi:2*i≤n+1:=hi
  have hi0:((i:Nat):Int).toNat=i:=by omega
  (repeat' ((conv=>whnf);first|(with_reducible first|apply spl|apply spl'|refine iJ ?_)<;>intro hc<;>try(exfalso;omega)|refine vcq ?_|refine dr 2013 ?_));all_goals(try conv=>whnf);try exact trivial
  ·have hj0:((n:Int)-1-i).toNat=n-1-i:=by omega
   refine⟨i+1,⟨by omega,by dsimp only;omega⟩,some [some 0],?_⟩
   (repeat' ((conv=>whnf);first|(with_reducible first|apply spl|apply spl'|refine iJ ?_)<;>intro hc<;>try(exfalso;omega)|refine vcq ?_|refine dr 2013 ?_));all_goals(try conv=>whnf);try exact trivial
   refine⟨fun k hk=>?_,?_⟩
   ·dsimp only
    rw[revF_step F (by omega) hk,hj0,hi0]
    by_cases a:k=n-1-i
    ·rw[a2u a,if_pos a]
     by_cases b:k=i
     ·rw[a2u b];rfl
     ·rw[a2a b];rfl
    ·rw[a2a a,if_neg a]
     by_cases b:k=i
     ·rw[a2u b,if_pos b];rfl
     ·rw[a2a b,if_neg b]
   ·(repeat' ((conv=>whnf);first|(with_reducible first|apply spl|apply spl'|refine iJ ?_)<;>intro hc<;>try(exfalso;omega)|refine vcq ?_|refine dr 2013 ?_));all_goals(try conv=>whnf);try exact trivial
  ·refine⟨_,_,⟨rfl,rfl⟩,some [some 0],?_⟩
   (repeat' ((conv=>whnf);first|(with_reducible first|apply spl|apply spl'|refine iJ ?_)<;>intro hc<;>try(exfalso;omega)|refine vcq ?_|refine dr 2013 ?_));all_goals(try conv=>whnf);try exact trivial
   refine⟨fun k hk=>?_,?_⟩
   ·dsimp only
    rw[revF_end F (by omega) hi hk]
   ·(repeat' ((conv=>whnf);first|(with_reducible first|apply spl|apply spl'|refine iJ ?_)<;>intro hc<;>try(exfalso;omega)|refine vcq ?_|refine dr 2013 ?_));all_goals(try conv=>whnf);try exact trivial
def dep:SR→Nat
 |.root=>0
 |.node _ b _ _=>dep b+1
noncomputable def imsE (h:Hist):SR→List IE
 |.root=>[]
 |.node _ b _ im=>imsE h b++(match im with|none=>[]|some c=>[(h.nn,c.get)])
theorem rtS_len (h:Hist):∀r:SR,(rtS h r).d.length=dep r
 |.root=>rfl
 |.node _ b cmd none=>by
  change ((rtS h b).d++[cmd]).length=_
  rw[a0F,rtS_len h b]
  rfl
 |.node _ b cmd (some c)=>by
  change ((rtS h b).d++[cmd]).length=_
  rw[a0F,rtS_len h b]
  rfl
theorem ordS_len:∀r:SR,(ordS r).length=dep r
 |.root=>rfl
 |.node _ b cmd im=>by
  unfold ordS dep
  rw[a0F,ordS_len b]
  rfl
theorem dep_le {h:Hist} (g:h.Ok) {r:SR} (hr:r.Good h):dep r≤h.l.length:=by
 rw[←rtS_len h r]
 exact(rtS_ok g hr).2.1.dlen
theorem rev_get {α:Type} (l:List α) (d:α) {k:Nat} (hk:k<l.length):l.getD (l.length-1-k) d=l.reverse.getD k d:=by
 simp[a0A,List.getElem?_reverse hk]
theorem explain30 (h:Hist) (hf:h.Near):a0q Tryz.prog 30 true [h.w] (fun v=>(¬h.Ok→v=.tup [.lit (.slice none 0 0),.lit (.slice none 0 0),.int .i64 170])∧(h.Ok→(¬h.Legal→v=.tup [.lit (.slice none 0 0),.lit (.slice none 0 0),.int .i64 3])∧(h.Legal→∃r:SR,r.Good h∧h.Whole (r.st h)∧v=.tup [.sl 1 (ordS r).length (a0u intC 0 (ordS r)),.sl 1 (imsE h r).length (a0u lC ie0 (imsE h r)),.int .i64 0]))):=by
 have h40:=hf.1
 refine a0c Tryz.E_ok Tryz.func30 rfl (by kernel_rfl) ?_
 refine x25 ?_
 refine a0d (Check22 h (by omega)) rfl ?_
 rintro _ rfl
 by_cases g:h.Ok
 rotate_left
 ·have e:h.chk=170:=if_neg g
  rw[e]
  refine x25 (fun hc=>?_)
  refine⟨_,⟨fun _=>rfl,fun q=>absurd q g⟩,?_⟩
  exact xc20
 ·obtain⟨h2,h6⟩:=hf.2 g
  rw[Hist.chk_of g]
  refine x25 (fun hc=>?_)
  refine a0d (ends23 sortIm h g h2 h6) rfl ?_
  rintro _ ⟨L,hL,rfl⟩
  have hl:=hL.len
  have hg:=hL.legal
  (repeat' ((conv=>whnf);first|(with_reducible first|apply spl|apply spl'|refine iJ ?_)<;>intro hc<;>try(exfalso;omega)|refine vcq ?_|refine dr 10 ?_));all_goals(try conv=>whnf);try exact trivial
  ·have hnl:¬h.Legal:=fun q=>by have:=hg.2 q;omega
   refine⟨_,⟨fun q=>absurd g q,fun _=>⟨fun _=>rfl,fun q=>absurd q hnl⟩⟩,?_⟩
   exact xc20
  ·have hpos:0<L.length:=by omega
   have hm0:L.getD 0 .root∈L:=by simp[a0A,hpos]
   have hr0:=hL.good _ hm0
   have hw0:=((hL.ends _).2 ⟨_,hm0,rfl⟩).2
   have hd0:=dep_le g hr0
   have hz:(0:Int).toNat=0:=rfl
   rw[hz]
   generalize L.getD 0 .root=r0 at *
   have hlg:h.Legal:=hg.1 hpos
   clear hm0 hL hg
   refine⟨SR×V×List Int×List IE,fun q=>(q.1.Good h∧ordS r0=ordS q.1++q.2.2.1.reverse∧imsE h r0=imsE h q.1++q.2.2.2.reverse)∧q.2.2.1.length+dep q.1=dep r0∧q.2.2.2.length≤q.2.2.1.length,fun q=>dep q.1,fun q=>[(7,.iptr (stX (q.1.st h).D q.2.1 (q.1.st h).K (q.1.bf h) (.int .i64 q.1.cm) (imV h q.1.im))),(2,.osl 1 q.2.2.1.length),(3,.osl 2 q.2.2.2.length),(18,.any),(19,.any),(20,.any)],fun _=>[],fun q=>[.row 3 1 q.2.2.1.length (a0u intC 0 q.2.2.1) true,.row 38 1 q.2.2.2.length (a0u lC ie0 q.2.2.2) true],(r0,r0.oV,[],[]),⟨⟨⟨hr0,by simp,by simp⟩,by simp,by simp⟩,some [some 0,none,none],?_⟩,?_⟩
   ·exact xc20
   ·rintro⟨r,Ov,C,D⟩ ⟨⟨hr,hC,hD⟩,hcl,hdl⟩
    dsimp only at hr hC hD hcl hdl
    cases r with
    |root=>
     have hcl':C.length=dep r0:=hcl
     refine x25 ?_
     refine a0e [1] (rev65 C.length (by omega) (fun k=>C.getD k 0)) rfl ?_ ?_
     ·exact xc20
     ·rintro _ _ ⟨rfl,rfl⟩
      refine x25 ?_
      refine a0e [2] (rev66 D.length (by omega) (fun k=>D.getD k ie0)) rfl ?_ ?_
      ·exact xc20
      ·rintro _ _ ⟨rfl,rfl⟩
       refine x25 ?_
       refine⟨_,⟨fun q=>absurd g q,fun _=>⟨fun q=>absurd hlg q,fun _=>⟨r0,hr0,hw0,rfl⟩⟩⟩,?_⟩
       refine x25 ?_
       have eC:ordS r0=C.reverse:=hC
       have eD:imsE h r0=D.reverse:=hD
       rw[eC,eD]
       refine⟨by rw[List.length_reverse],fun k hk=>?_,.inl rfl,?_⟩
       ·have hk:k<C.length:=hk
        have e:=rev_get C 0 hk
        unfold revF
        dsimp only
        rw[if_pos (by omega),e]
        rfl
       ·refine x25 ?_
        refine⟨by rw[List.length_reverse],fun k hk=>?_,.inl rfl,?_⟩
        ·have hk:k<D.length:=hk
         have e:=rev_get D ie0 hk
         unfold revF
         dsimp only
         rw[if_pos (by omega),e]
         rfl
        ·exact xc20
    |node s b cmd im=>
     obtain⟨hb,hcm,hmy,hs⟩:=hr
     have hcl':C.length+(dep b+1)=dep r0:=hcl
     have hk:(h.l.getD ((cmd:Nat):Int).toNat c0).k=(h.at' cmd).k:=by rw[a1N];rfl
     have hlC:(C++[(cmd:Int)]).length=C.length+1:=by rw[a0F,a1A]
     cases im with
     |none=>
      have h9:(h.at' cmd).k≠9:=by
       rcases hs with⟨q,_⟩|⟨_,c,q,_⟩
       ·exact q
       ·cases q
      have hC1:ordS r0=ordS b++(C++[(cmd:Int)]).reverse:=by rw[hC];simp[ordS]
      have hD1:imsE h r0=imsE h b++D.reverse:=by rw[hD];simp[imsE]
      refine x25 ?_
      refine⟨⟨by dsimp only[SR.cm];omega,by dsimp only[SR.cm];omega⟩,?_⟩
      (repeat' ((conv=>whnf);first|(with_reducible first|apply spl|apply spl'|refine iJ ?_)<;>intro hc<;>try(exfalso;omega)|refine vcq ?_|refine dr 10 ?_));all_goals(try conv=>whnf);try exact trivial
      ·exact absurd (hk.symm.trans hc) h9
      ·refine⟨(b,slO (b.st h).O,C++[(cmd:Int)],D),⟨⟨⟨hb,hC1,hD1⟩,by dsimp only;omega,by dsimp only;omega⟩,by dsimp only[dep];omega⟩,some [some 0,some 4,some 2],?_⟩
       refine x25 ?_
       refine⟨a2d (c:=intC) (a:=(cmd:Int)) (l:=C) rfl (fun _ _=>rfl),?_⟩
       exact xc20
     |some c=>
      have h9:(h.at' cmd).k=9:=by
       rcases hs with⟨_,q,_⟩|⟨q,_⟩
       ·cases q
       ·exact q
      have hC1:ordS r0=ordS b++(C++[(cmd:Int)]).reverse:=by rw[hC];simp[ordS]
      have hD1:imsE h r0=imsE h b++(D++[(h.nn,c.get)]).reverse:=by rw[hD];simp[imsE]
      refine x25 ?_
      refine⟨⟨by dsimp only[SR.cm];omega,by dsimp only[SR.cm];omega⟩,?_⟩
      (repeat' ((conv=>whnf);first|(with_reducible first|apply spl|apply spl'|refine iJ ?_)<;>intro hc<;>try(exfalso;omega)|refine vcq ?_|refine dr 10 ?_));all_goals(try conv=>whnf);try exact trivial
      ·have hlD:(D++[(h.nn,c.get)]).length=D.length+1:=by rw[a0F,a1A]
       refine⟨(b,slO (b.st h).O,C++[(cmd:Int)],D++[(h.nn,c.get)]),⟨⟨⟨hb,hC1,hD1⟩,by dsimp only;omega,by dsimp only;omega⟩,by dsimp only[dep];omega⟩,some [some 0,some 4,some 6],?_⟩
       refine x25 ?_
       refine⟨a2d (c:=intC) (a:=(cmd:Int)) (l:=C) rfl (fun _ _=>rfl),?_⟩
       refine x25 ?_
       refine⟨a2d (c:=lC) (a:=((h.nn,c.get):IE)) (l:=D) rfl (fun _ _=>rfl),?_⟩
       exact xc20
      ·exact absurd (hk.trans h9) hc
def segL (h:Hist) (o:List Int) (a:Nat):Nat→List Int
 |0=>[]
 |k+1=>segL h o a k++(if(h.at' (o.getD (a+k) 0).toNat).isO then [o.getD (a+k) 0] else [])
def ordL (h:Hist) (L:List Int):List (Int×Int):=L.map fun x=>(h.at' x.toNat).o
theorem ordL_len (h:Hist) (L:List Int):(ordL h L).length=L.length:=a2M ..
theorem ordL_snoc (h:Hist) (L:List Int) (x:Int):ordL h (L++[x])=ordL h L++[(h.at' x.toNat).o]:=a1L ..
theorem orders31 (h:Hist) (gh:h.Ok) (o:List Int) (hol:o.length≤20) (a m:Nat) (ham:a≤m) (hm:m<o.length) (h9:(h.at' (o.getD m 0).toNat).k=9) (hin:∀j,j<o.length→0≤o.getD j 0∧o.getD j 0<h.l.length) (hno:∀j,a≤j→j<m→(h.at' (o.getD j 0).toNat).k≠9) :
  a0q Tryz.prog 31 false [h.w,.sl 1 o.length (a0u intC 0 o),.int .i64 (a:Nat)] (·=.tup [.agg [.int .i64 h.n,.sl 2 (ordL h (segL h o a (m-a))).length (a0u oC (0,0) (ordL h (segL h o a (m-a))))],.sl 1 (segL h o a (m-a)).length (a0u intC 0 (segL h o a (m-a)))]):=by
 have h10:=gh.len
 have hn6:=gh.n
 refine a0c Tryz.E_ok Tryz.func31 rfl (by kernel_rfl) ?_
 (repeat' ((conv=>whnf);first|(with_reducible first|apply spl|apply spl'|refine iJ ?_)<;>intro hc<;>try(exfalso;omega)|refine vcq ?_|refine dr 16 ?_|refine dr 9 ?_));all_goals(try conv=>whnf);try exact trivial
 refine⟨Nat×List Int,fun q=>a+q.1≤m∧q.2=segL h o a q.1∧q.2.length≤q.1,fun q=>m-(a+q.1),fun q=>[(8,.int .i64 ((a+q.1:Nat):Int)),(7,.osl 3 q.2.length)],fun q=>[(1,.cells 56 [.int .i64 h.n,.osl 2 q.2.length])],fun q=>[.row 100 2 q.2.length (a0u oC (0,0) (ordL h q.2)) true,.row 3 1 q.2.length (a0u intC 0 q.2) true],(0,[]),⟨⟨by dsimp only;omega,rfl,by simp⟩,some [some 0,some 1,none,none],?_⟩,?_⟩
 ·(repeat' ((conv=>whnf);first|(with_reducible first|apply spl|apply spl'|refine iJ ?_)<;>intro hc<;>try(exfalso;omega)|refine vcq ?_|refine dr 16 ?_|refine dr 9 ?_));all_goals(try conv=>whnf);try exact trivial
 ·rintro⟨d,L⟩ ⟨hd,hL,hLd⟩
  dsimp only at hd hL hLd
  have hq:=hin (a+d) (by omega)
  have e0:((a+d:Nat):Int).toNat=a+d:=a1N _
  have e1:h.l.getD (o.getD (a+d) 0).toNat c0=h.at' (o.getD (a+d) 0).toNat:=rfl
  (repeat' ((conv=>whnf);first|(with_reducible first|apply spl|apply spl'|refine iJ ?_)<;>intro hc<;>try(exfalso;omega)|refine vcq ?_|refine dr 16 ?_|refine dr 9 ?_));all_goals(try conv=>whnf);try exact trivial
  dsimp only
  rw[e0]
  refine⟨fun _=>hq,?_⟩
  (repeat' ((conv=>whnf);first|(with_reducible first|apply spl|apply spl'|refine iJ ?_)<;>intro hc<;>try(exfalso;omega)|refine vcq ?_|refine dr 16 ?_|refine dr 9 ?_));all_goals(try conv=>whnf);try exact trivial
  ·have hk9:(h.at' (o.getD (a+d) 0).toNat).k≠9:=hc.2
   have hdm:a+d<m:=by
    rcases a0J hd with q|q
    ·exact q
    ·rw[q] at hk9;exact absurd h9 hk9
   clear hc
   have hs:segL h o a (d+1)=segL h o a d++(if(h.at' (o.getD (a+d) 0).toNat).isO then [o.getD (a+d) 0] else []):=rfl
   rw[←hL] at hs
   rw[e0]
   refine⟨hq,?_⟩
   rw[e1]
   have hs2:=ordL_snoc h L (o.getD (a+d) 0)
   generalize h.at' (o.getD (a+d) 0).toNat=c at *
   have hlL:(L++[o.getD (a+d) 0]).length=L.length+1:=by rw[a0F,a1A]
   (repeat' ((conv=>whnf);first|(with_reducible first|apply spl|apply spl'|refine iJ ?_)<;>intro hc<;>try(exfalso;omega)|refine vcq ?_|refine dr 16 ?_|refine dr 9 ?_));all_goals(try conv=>whnf);try exact trivial
   ·rw[e1] at hc
    have hi:c.isO=false:=by
     unfold Cmd.isO
     rcases hc with q|⟨q,q2⟩<;>simp[*]
    refine⟨(d+1,L),⟨⟨by dsimp only;omega,by rw[hs,hi];exact(List.append_nil _).symm,by dsimp only;omega⟩,by dsimp only;omega⟩,some [some 0,some 1,some 2,some 3],?_⟩
    (repeat' ((conv=>whnf);first|(with_reducible first|apply spl|apply spl'|refine iJ ?_)<;>intro hc<;>try(exfalso;omega)|refine vcq ?_|refine dr 16 ?_|refine dr 9 ?_));all_goals(try conv=>whnf);try exact trivial
   ·rename_i hn
    rw[e1] at hn hc
    have hi:c.isO=true:=by
     unfold Cmd.isO
     simp
     omega
    have ho:c.o=(1,c.b):=by unfold Cmd.o;rw[if_pos hc]
    refine⟨(d+1,L++[o.getD (a+d) 0]),⟨⟨by dsimp only;omega,by rw[hs,hi];rfl,by dsimp only;omega⟩,by dsimp only;omega⟩,some [some 0,some 1,some 6,some 8],?_⟩
    (repeat' ((conv=>whnf);first|(with_reducible first|apply spl|apply spl'|refine iJ ?_)<;>intro hc<;>try(exfalso;omega)|refine vcq ?_|refine dr 16 ?_|refine dr 9 ?_));all_goals(try conv=>whnf);try exact trivial
    have hr:=a2d (c:=oC) (d:=(0,0)) (l:=ordL h L) (a:=c.o) (f:=a0u oC (0,0) (ordL h L)) (ordL_len h L).symm (fun _ _=>rfl)
    rw[ho] at hr
    refine⟨?_,?_⟩
    ·rw[e1]
     dsimp only
     rw[hs2,ho]
     exact hr
    ·clear hr
     (repeat' ((conv=>whnf);first|(with_reducible first|apply spl|apply spl'|refine iJ ?_)<;>intro hc<;>try(exfalso;omega)|refine vcq ?_|refine dr 16 ?_|refine dr 9 ?_));all_goals(try conv=>whnf);try exact trivial
     refine⟨a2d (c:=intC) (a:=o.getD (a+d) 0) (l:=L) rfl (fun _ _=>rfl),?_⟩
     (repeat' ((conv=>whnf);first|(with_reducible first|apply spl|apply spl'|refine iJ ?_)<;>intro hc<;>try(exfalso;omega)|refine vcq ?_|refine dr 16 ?_|refine dr 9 ?_));all_goals(try conv=>whnf);try exact trivial
   ·rename_i hn
    rw[e1] at hn hc
    have hi:c.isO=true:=by
     unfold Cmd.isO
     simp
     omega
    have ho:c.o=(c.k,c.b):=by unfold Cmd.o;rw[if_neg hc]
    refine⟨(d+1,L++[o.getD (a+d) 0]),⟨⟨by dsimp only;omega,by rw[hs,hi];rfl,by dsimp only;omega⟩,by dsimp only;omega⟩,some [some 0,some 1,some 6,some 8],?_⟩
    (repeat' ((conv=>whnf);first|(with_reducible first|apply spl|apply spl'|refine iJ ?_)<;>intro hc<;>try(exfalso;omega)|refine vcq ?_|refine dr 16 ?_|refine dr 9 ?_));all_goals(try conv=>whnf);try exact trivial
    have hr:=a2d (c:=oC) (d:=(0,0)) (l:=ordL h L) (a:=c.o) (f:=a0u oC (0,0) (ordL h L)) (ordL_len h L).symm (fun _ _=>rfl)
    rw[ho] at hr
    refine⟨?_,?_⟩
    ·rw[e1]
     dsimp only
     rw[hs2,ho]
     exact hr
    ·clear hr
     (repeat' ((conv=>whnf);first|(with_reducible first|apply spl|apply spl'|refine iJ ?_)<;>intro hc<;>try(exfalso;omega)|refine vcq ?_|refine dr 16 ?_|refine dr 9 ?_));all_goals(try conv=>whnf);try exact trivial
     refine⟨a2d (c:=intC) (a:=o.getD (a+d) 0) (l:=L) rfl (fun _ _=>rfl),?_⟩
     (repeat' ((conv=>whnf);first|(with_reducible first|apply spl|apply spl'|refine iJ ?_)<;>intro hc<;>try(exfalso;omega)|refine vcq ?_|refine dr 16 ?_|refine dr 9 ?_));all_goals(try conv=>whnf);try exact trivial
  ·have e:a+d=m:=by
    rcases a0J hd with q|q
    ·exact absurd ⟨by omega,hno (a+d) (by omega) q⟩ hc
    ·exact q
   clear hc
   have e2:m-a=d:=by omega
   rw[e2,←hL]
   refine⟨_,rfl,?_⟩
   (repeat' ((conv=>whnf);first|(with_reducible first|apply spl|apply spl'|refine iJ ?_)<;>intro hc<;>try(exfalso;omega)|refine vcq ?_|refine dr 16 ?_|refine dr 9 ?_));all_goals(try conv=>whnf);try exact trivial
   refine⟨(ordL_len h L).symm,fun _ _=>rfl,.inr fun _ _=>rfl,?_⟩
   (repeat' ((conv=>whnf);first|(with_reducible first|apply spl|apply spl'|refine iJ ?_)<;>intro hc<;>try(exfalso;omega)|refine vcq ?_|refine dr 16 ?_|refine dr 9 ?_));all_goals(try conv=>whnf);try exact trivial
end Ho
theorem within51 (n x y:Int):a0q Tryz.prog 95 false [.int .i64 n,.int .i64 x,.int .i64 y] (·=.prop (x≤n∧n≤y) inferInstance):=by
 refine a0c Tryz.E_ok Tryz.func95 rfl (by kernel_rfl) ?_
 refine x1 ?_;(all_goals(try(refine⟨_,rfl,?_⟩;exact xc3)))
theorem puts62 (o:Int×Int):a0q Tryz.prog 96 false [oV o] (·=.prop (o.1=1∨o.1=2) inferInstance):=by
 refine a0c Tryz.E_ok Tryz.func96 rfl (by kernel_rfl) ?_
 refine x1 ?_;(all_goals(try(refine⟨_,rfl,?_⟩;exact xc3)))
theorem check64 (n:Int) (hn:-1000≤n∧n≤1000) (m:Nat) (f:Nat→List V) (o:Int×Int):a0q Tryz.prog 128 false [oV o,.iptr [.int .i64 n,.sl 2 m f]] (·=.prop (Cache.OkO n o) (Classical.propDecidable _)):=by
 refine a0c Tryz.E_ok Tryz.func128 rfl (by kernel_rfl) ?_
 refine x1 ?_;(repeat' ((first|(refine a0d (puts62 o) rfl ?_;rintro _ rfl)|(refine a0f (puts62 o) rfl ?_)|(refine a0l (fun _=>puts62 o) rfl ?_)|(refine a0d (within51 _ _ _) rfl ?_;rintro _ rfl)|(refine a0f (within51 _ _ _) rfl ?_)|(refine a0l (fun _=>within51 _ _ _) rfl ?_));(repeat' ((conv=>whnf);first|(with_reducible first|apply spl|apply spl'|refine iJ ?_)<;>intro hc<;>try(exfalso;omega)|refine vcq ?_|fail));all_goals((try conv=>whnf);try exact trivial)));(all_goals(try(refine⟨_,rfl,?_⟩;refine x1 ?_)))
 ·exact⟨by unfold Cache.OkO;omega,trivial⟩
 ·exact⟨by unfold Cache.OkO;omega,trivial⟩
theorem plain_of {g : FuncId} {fn : Func} (hf : Tryz.prog.funcs[g]? = some fn) (h1 : (fn.name == "runtime.NumGoroutine") = false) (h2 : fn.body.isNone = false) : Plain Tryz.prog g := ⟨fn, hf, h1, h2⟩
def TellO (p:Int×Int→Prop):(Nat→Prop)→World→Value→Prop:=
 FnD Tryz.prog (fun o:Int×Int=>[oV o]) (fun o r=>r=.prop (p o) (Classical.propDecidable _))
theorem check66 (p:Int×Int→Prop) (o:Int×Int):a0q Tryz.prog 130 false [oV o,.iptr [.sem (TellO p)]] (·=.prop (¬p o) (Classical.propDecidable _)):=by
 refine a0c Tryz.E_ok Tryz.func130 rfl (by kernel_rfl) ?_
 refine x1 ?_
 refine scall_fn o rfl rfl ?_
 rintro _ rfl
 refine x1 ?_
 refine⟨_,rfl,?_⟩
 exact xc3
theorem index85 (p:Int×Int→Prop) (l:List (Int×Int)) (hl:l.length≤1000000):a0q Tryz.prog 167 false [.sl 2 l.length (a0u oC (0,0) l),.sem (TellO p)] (fun r=>∃k:Int,r=.int .i64 k∧(0≤k↔∃s∈l,p s)):=by
 refine a0c Tryz.E_ok Tryz.func167 rfl (by kernel_rfl) ?_
 refine x1 ?_
 refine⟨Nat,fun i=>i≤l.length∧∀j s,j<i→l[j]? = some s→¬p s,fun i=>l.length-i,fun i=>[(8,.int .i64 i)],fun _=>[],fun _=>[],0,⟨⟨by omega,fun j s h=>by omega⟩,none,?_⟩,?_⟩
 ·exact xc3
 ·rintro i ⟨hi,hp⟩
  refine x7 (fun hc=>?_) (fun hc=>?_)
  ·refine scall_fn (l.getD (i:Int).toNat (0,0)) rfl rfl ?_
   rintro _ rfl
   have hi:i<l.length:=by omega
   have hq:l.getD (i:Int).toNat (0,0)=l[i]:=by simp[a0A,hi]
   refine x7 (fun hc=>?_) (fun hc=>?_)
   ·refine⟨_,⟨i,rfl,⟨fun _=>⟨l[i],a1F hi,by rw[hq] at hc;exact hc⟩,fun _=>by omega⟩⟩,?_⟩
    exact xc3
   ·refine⟨i+1,⟨⟨by omega,fun j s hj hs=>?_⟩,by dsimp only;omega⟩,none,?_⟩
    ·rcases a0J (show j≤i by omega) with h1|rfl
     ·exact hp j s h1 hs
     ·rw[a0D hi] at hs
      cases hs
      rw[hq] at hc
      exact hc
    ·exact xc3
  ·refine⟨_,⟨-1,rfl,⟨fun h=>by omega,fun⟨s,h1,h2⟩=>?_⟩⟩,?_⟩
   ·obtain⟨j,h3,h4⟩:=a1G h1
    exact absurd h2 (hp j s (by omega) (by rw[a0D h3,h4]))
   ·exact xc3
theorem contains65 (p:Int×Int→Prop) (l:List (Int×Int)) (hl:l.length≤1000000):a0q Tryz.prog 129 false [.sl 2 l.length (a0u oC (0,0) l),.sem (TellO p)] (·=.prop (∃s∈l,p s) (Classical.propDecidable _)):=by
 refine a0c Tryz.E_ok Tryz.func129 rfl (by kernel_rfl) ?_
 refine x1 ?_
 refine a0d (index85 p l hl) rfl ?_
 rintro _ ⟨k,rfl,hk⟩
 refine x1 ?_
 refine⟨_,rfl,?_⟩
 exact xc3
theorem check36 (x:Cache) (hl:x.l.length≤1000000):a0q Tryz.prog 94 false [x.v] (·=.int .i64 x.chk):=by
 refine a0c Tryz.E_ok Tryz.func94 rfl (by kernel_rfl) ?_
 refine x1 ?_;(repeat' ((first|(refine a0d (within51 _ _ _) rfl ?_;rintro _ rfl)|(refine a0f (within51 _ _ _) rfl ?_)|(refine a0l (fun _=>within51 _ _ _) rfl ?_));refine x7 (fun hc=>?_) (fun hc=>?_)));(all_goals(try(refine⟨_,rfl,?_⟩;refine x1 ?_)))
 ·refine callee_view (contains65 (fun o=>¬Cache.OkO x.n o) x.l hl) ?_
  refine x1 ?_
  refine⟨semOb_fn (a':=[]) (b':=[.iptr [.sem (TellO (Cache.OkO x.n))]]) (fun i=>check66 (Cache.OkO x.n) i) (plain_of Tryz.func130 (by kernel_rfl) (by kernel_rfl)) ?_,?_⟩
  ·refine x1 ?_
   refine⟨semOb_fn (a':=[]) (b':=[.iptr [.int .i64 x.n,.sl 2 x.l.length (a0u oC (0,0) x.l)]]) (fun i=>check64 x.n (by omega) _ _ i) (plain_of Tryz.func128 (by kernel_rfl) (by kernel_rfl)) ?_,?_⟩
   ·exact xc3
   ·exact xc3
  ·rintro _ rfl
   refine x7 (fun hc=>?_) (fun hc=>?_)
   ·refine⟨_,rfl,?_⟩
    refine x1 ?_
    refine⟨?_,trivial⟩
    unfold Cache.chk
    rw[if_neg]
    rintro⟨_,_,h3⟩
    obtain⟨o,h4,h5⟩:=hc
    exact h5 (h3 o h4)
   ·refine⟨_,rfl,?_⟩
    refine x1 ?_
    refine⟨?_,trivial⟩
    unfold Cache.chk
    rw[if_pos]
    exact⟨by omega,by omega,fun o ho=>a1E fun h=>hc ⟨o,ho,h⟩⟩
 ·refine⟨?_,trivial⟩
  unfold Cache.chk
  rw[if_neg]
  rintro⟨h1,h2,_⟩
  omega
theorem all67 (n:Int):a0q Tryz.prog 168 false [.int .i64 n] (·=.agg (C6.all n).c):=by
 refine a0c Tryz.E_ok Tryz.func168 rfl (by kernel_rfl) ?_
 refine x1 ?_
 refine⟨Nat,fun i=>i≤6,fun i=>6-i,fun i=>[(4,.int .i64 i)],fun i=>[(0,.cells 105 (fillC n i).c)],fun _=>[],0,⟨by omega,some [some 0],?_⟩,?_⟩
 ·exact xc3
 ·intro i hi
  by_cases h6:i<6
  ·rcases six h6 with rfl|rfl|rfl|rfl|rfl|rfl
   ·refine x1 (fun hc=>?_)
    refine⟨1,⟨by dsimp only;omega,by dsimp only;omega⟩,some [some 0],?_⟩
    exact xc3
   ·refine x1 (fun hc=>?_)
    refine⟨2,⟨by dsimp only;omega,by dsimp only;omega⟩,some [some 0],?_⟩
    exact xc3
   ·refine x1 (fun hc=>?_)
    refine⟨3,⟨by dsimp only;omega,by dsimp only;omega⟩,some [some 0],?_⟩
    exact xc3
   ·refine x1 (fun hc=>?_)
    refine⟨4,⟨by dsimp only;omega,by dsimp only;omega⟩,some [some 0],?_⟩
    exact xc3
   ·refine x1 (fun hc=>?_)
    refine⟨5,⟨by dsimp only;omega,by dsimp only;omega⟩,some [some 0],?_⟩
    exact xc3
   ·refine x1 (fun hc=>?_)
    refine⟨6,⟨by dsimp only;omega,by dsimp only;omega⟩,some [some 0],?_⟩
    exact xc3
  ·obtain rfl:i=6:=by have hi:i≤6:=hi;omega
   refine x1 (fun hc=>?_)
   refine⟨_,rfl,?_⟩
   exact xc3
def stH (s:PS):List O:=[.cells 187 (stCs s 1),.row 105 6 s.E.length (eR s.E) false]
theorem current68 (s:PS) (hs:s.Sm):Sx.Callee Tryz.prog 170 [.ptr 0 0] (stH s) (fun v H=>v=.eptr 1 6 ((s.E.length:Int)-1).toNat 0∧H=stH s):=by
 have h1:=hs.ne
 have h2:=hs.len
 refine a2k Tryz.E_ok Tryz.func170 rfl (by kernel_rfl) ?_
 (repeat' ((conv=>whnf);first|(with_reducible first|apply spl|apply spl'|refine iJ ?_)<;>intro hc<;>try(exfalso;omega)|refine vcq ?_|refine dr 12 ?_));all_goals(try conv=>whnf);try exact trivial
 exact rfl
theorem stH_wr {s:PS} {e b:Nat} (he:e<s.E.length) (hb:b<6) (h:(s.ep e).get b≠-3):stH (s.wr e b) =
  [.cells 187 (let m:=s.M.set b ((s.ep e).get b);[.int .i64 m.a0,.int .i64 m.a1,.int .i64 m.a2,.int .i64 m.a3,.int .i64 m.a4,.int .i64 m.a5,.osl 1 s.E.length,.int .i64 (s.W+1)]),
   .row 105 6 s.E.length (fun j=>spliceP (j=e) (eR s.E j) b [.int .i64 (-3)]) false]:=by
 rw[PS.wr_pos h,eR_set he hb]
 unfold stH stCs PS.ep
 simp only[List.length_set]
theorem write70 (s:PS) (hs:s.Sm) (e b:Nat) (he:e<s.E.length) (hb:b<6):Sx.Callee Tryz.prog 172 [.ptr 0 0,.int .i64 e,.int .i64 b] (stH s) (fun v H=>v=.tup []∧H=stH (s.wr e b)):=by
 have h2:=hs.len
 have h3:=hs.W
 refine a2k Tryz.E_ok Tryz.func172 rfl (by kernel_rfl) ?_
 rcases six hb with rfl|rfl|rfl|rfl|rfl|rfl
 all_goals
  (repeat' ((conv=>whnf);first|(with_reducible first|apply spl|apply spl'|refine iJ ?_)<;>intro hc<;>try(exfalso;omega)|refine vcq ?_|refine dr 12142013 ?_));all_goals(try conv=>whnf);try exact trivial
  ·rw[stH_wr he hb hc]
   rfl
  ·refine congrArg stH (PS.wr_neg (a0T.1 ?_)).symm
   exact hc
theorem writeAll69 (s:PS) (hs:s.Sm) (hW:s.W+6*s.E.length≤1000000000) (n:Nat) (hn:n≤s.E.length):Sx.Callee Tryz.prog 171 [.ptr 0 0,.int .i64 n] (stH s) (fun v H=>v=.tup []∧H=stH (s.wrE n)):=by
 have h2:=hs.len
 have h3:=hs.W
 refine a2k Tryz.E_ok Tryz.func171 rfl (by kernel_rfl) ?_
 (repeat' ((conv=>whnf);first|(with_reducible first|apply spl|apply spl'|refine iJ ?_)<;>intro hc<;>try(exfalso;omega)|refine vcq ?_|refine dr 12142013 ?_|refine dr 12 ?_));all_goals(try conv=>whnf);try exact trivial
 refine⟨Nat,fun i=>i≤n,fun i=>n-i,fun i=>[(7,.int .i64 i)],fun i=>[(0,.cells 187 (stCs (s.wrE i) 1)),(1,.row 105 6 (s.wrE i).E.length (eR (s.wrE i).E) false)],fun _=>[],0,⟨by omega,some [some 0,some 1],?_⟩,?_⟩
 ·(repeat' ((conv=>whnf);first|(with_reducible first|apply spl|apply spl'|refine iJ ?_)<;>intro hc<;>try(exfalso;omega)|refine vcq ?_|refine dr 12142013 ?_|refine dr 12 ?_));all_goals(try conv=>whnf);try exact trivial
 ·intro i hi
  have hi:i≤n:=hi
  have hl:=PS.wrE_len s i
  have hw:=PS.wrE_W s i
  (repeat' ((conv=>whnf);first|(with_reducible first|apply spl|apply spl'|refine iJ ?_)<;>intro hc<;>try(exfalso;omega)|refine vcq ?_|refine dr 12142013 ?_|refine dr 12 ?_));all_goals(try conv=>whnf);try exact trivial
  ·refine⟨Nat,fun b=>b≤6,fun b=>6-b,fun b=>[(10,.int .i64 b)],fun b=>[(0,.cells 187 (stCs ((s.wrE i).wrB i b) 1)),(1,.row 105 6 ((s.wrE i).wrB i b).E.length (eR ((s.wrE i).wrB i b).E) false)],fun _=>[],0,⟨by omega,some [some 0,some 1],?_⟩,?_⟩
   ·(repeat' ((conv=>whnf);first|(with_reducible first|apply spl|apply spl'|refine iJ ?_)<;>intro hc<;>try(exfalso;omega)|refine vcq ?_|refine dr 12142013 ?_|refine dr 12 ?_));all_goals(try conv=>whnf);try exact trivial
   ·intro b hb
    have hb:b≤6:=hb
    have hl2:=PS.wrB_len (s.wrE i) i b
    have hw2:=PS.wrB_W (s.wrE i) i b
    (repeat' ((conv=>whnf);first|(with_reducible first|apply spl|apply spl'|refine iJ ?_)<;>intro hc<;>try(exfalso;omega)|refine vcq ?_|refine dr 12142013 ?_|refine dr 12 ?_));all_goals(try conv=>whnf);try exact trivial
    ·have hsm:((s.wrE i).wrB i b).Sm:=⟨by rw[hl2,hl];exact hs.ne,by rw[hl2,hl];exact h2,by omega⟩
     refine Callee.mono (write70 ((s.wrE i).wrB i b) hsm i b (by omega) (by omega)) ?_
     rintro _ _ ⟨rfl,rfl⟩
     (repeat' ((conv=>whnf);first|(with_reducible first|apply spl|apply spl'|refine iJ ?_)<;>intro hc<;>try(exfalso;omega)|refine vcq ?_|refine dr 12142013 ?_|refine dr 12 ?_));all_goals(try conv=>whnf);try exact trivial
     refine⟨b+1,⟨by dsimp only;omega,by dsimp only;omega⟩,some [some 0,some 1],?_⟩
     (repeat' ((conv=>whnf);first|(with_reducible first|apply spl|apply spl'|refine iJ ?_)<;>intro hc<;>try(exfalso;omega)|refine vcq ?_|refine dr 12142013 ?_|refine dr 12 ?_));all_goals(try conv=>whnf);try exact trivial
    ·obtain rfl:b=6:=by omega
     (repeat' ((conv=>whnf);first|(with_reducible first|apply spl|apply spl'|refine iJ ?_)<;>intro hc<;>try(exfalso;omega)|refine vcq ?_|refine dr 12142013 ?_|refine dr 12 ?_));all_goals(try conv=>whnf);try exact trivial
     refine⟨i+1,⟨by dsimp only;omega,by dsimp only;omega⟩,some [some 0,some 1],?_⟩
     (repeat' ((conv=>whnf);first|(with_reducible first|apply spl|apply spl'|refine iJ ?_)<;>intro hc<;>try(exfalso;omega)|refine vcq ?_|refine dr 12142013 ?_|refine dr 12 ?_));all_goals(try conv=>whnf);try exact trivial
  ·obtain rfl:i=n:=by omega
   (repeat' ((conv=>whnf);first|(with_reducible first|apply spl|apply spl'|refine iJ ?_)<;>intro hc<;>try(exfalso;omega)|refine vcq ?_|refine dr 12142013 ?_|refine dr 12 ?_));all_goals(try conv=>whnf);try exact trivial
   exact rfl
theorem isNone87 (x:C6):a0q Tryz.prog 185 false [.agg x.c] (·=.prop (isN x=true) inferInstance):=by
 refine a0c Tryz.E_ok Tryz.func185 rfl (by kernel_rfl) ?_
 (repeat' ((conv=>whnf);first|(with_reducible first|apply spl|apply spl'|refine iJ ?_)<;>intro hc<;>try(exfalso;omega)|refine vcq ?_|refine dr 4 ?_));all_goals((try conv=>whnf);try exact trivial);(repeat' ((first|(refine a0d (all67 (-3)) rfl ?_;rintro _ rfl)|(refine a0f (all67 (-3)) rfl ?_)|(refine a0l (fun _=>all67 (-3)) rfl ?_));(repeat' ((conv=>whnf);first|(with_reducible first|apply spl|apply spl'|refine iJ ?_)<;>intro hc<;>try(exfalso;omega)|refine vcq ?_|refine dr 4 ?_));all_goals((try conv=>whnf);try exact trivial)));(all_goals(try(refine⟨_,rfl,?_⟩;(repeat' ((conv=>whnf);first|(with_reducible first|apply spl|apply spl'|refine iJ ?_)<;>intro hc<;>try(exfalso;omega)|refine vcq ?_|refine dr 4 ?_));all_goals((try conv=>whnf);try exact trivial))))
 exact⟨C6.ext_iff'.symm.trans isN_iff.symm,trivial⟩
theorem isSome89 (x:C6):a0q Tryz.prog 187 false [.agg x.c] (·=.prop (isS x=true) inferInstance):=by
 refine a0c Tryz.E_ok Tryz.func187 rfl (by kernel_rfl) ?_
 (repeat' ((conv=>whnf);first|(with_reducible first|apply spl|apply spl'|refine iJ ?_)<;>intro hc<;>try(exfalso;omega)|refine vcq ?_|refine dr 4 ?_));all_goals((try conv=>whnf);try exact trivial);(repeat' ((first|(refine a0d (all67 (-3)) rfl ?_;rintro _ rfl)|(refine a0f (all67 (-3)) rfl ?_)|(refine a0l (fun _=>all67 (-3)) rfl ?_));(repeat' ((conv=>whnf);first|(with_reducible first|apply spl|apply spl'|refine iJ ?_)<;>intro hc<;>try(exfalso;omega)|refine vcq ?_|refine dr 4 ?_));all_goals((try conv=>whnf);try exact trivial)));(all_goals(try(refine⟨_,rfl,?_⟩;(repeat' ((conv=>whnf);first|(with_reducible first|apply spl|apply spl'|refine iJ ?_)<;>intro hc<;>try(exfalso;omega)|refine vcq ?_|refine dr 4 ?_));all_goals((try conv=>whnf);try exact trivial))))
 exact⟨(not_congr C6.ext_iff'.symm).trans a3j.symm,trivial⟩
def TellC (p:C6→Bool):(Nat→Prop)→World→Value→Prop:=
 FnD Tryz.prog (fun x:C6=>[.agg x.c]) (fun x r=>r=.prop (p x=true) inferInstance)
theorem index88 (p:C6→Bool) (E:List C6) (hl:E.length≤1000000):a0q Tryz.prog 186 false [.sl 6 E.length (eR E),.sem (TellC p)] (·=.int .i64 (idxC p E)):=by
 refine a0c Tryz.E_ok Tryz.func186 rfl (by kernel_rfl) ?_
 (repeat' ((conv=>whnf);first|(with_reducible first|apply spl|apply spl'|refine iJ ?_)<;>intro hc<;>try(exfalso;omega)|refine vcq ?_|refine dr 4 ?_|refine dr 2007 ?_|refine dr 2012 ?_));all_goals(try conv=>whnf);try exact trivial
 refine⟨Nat,fun i=>i≤E.length∧∀j,j<i→p (E.getD j (C6.all (-3)))=false,fun i=>E.length-i,fun i=>[(8,.int .i64 i)],fun _=>[],fun _=>[],0,⟨⟨by omega,fun j h=>by omega⟩,none,?_⟩,?_⟩
 ·(repeat' ((conv=>whnf);first|(with_reducible first|apply spl|apply spl'|refine iJ ?_)<;>intro hc<;>try(exfalso;omega)|refine vcq ?_|refine dr 4 ?_|refine dr 2007 ?_|refine dr 2012 ?_));all_goals(try conv=>whnf);try exact trivial
 ·rintro i ⟨hi,hp⟩
  (repeat' ((conv=>whnf);first|(with_reducible first|apply spl|apply spl'|refine iJ ?_)<;>intro hc<;>try(exfalso;omega)|refine vcq ?_|refine dr 4 ?_|refine dr 2007 ?_|refine dr 2012 ?_));all_goals(try conv=>whnf);try exact trivial
  ·refine scall_fn (E.getD (i:Int).toNat (C6.all (-3))) rfl rfl ?_
   rintro _ rfl
   have hi:i<E.length:=by omega
   (repeat' ((conv=>whnf);first|(with_reducible first|apply spl|apply spl'|refine iJ ?_)<;>intro hc<;>try(exfalso;omega)|refine vcq ?_|refine dr 4 ?_|refine dr 2007 ?_|refine dr 2012 ?_));all_goals(try conv=>whnf);try exact trivial
   ·refine⟨_,rfl,?_⟩
    (repeat' ((conv=>whnf);first|(with_reducible first|apply spl|apply spl'|refine iJ ?_)<;>intro hc<;>try(exfalso;omega)|refine vcq ?_|refine dr 4 ?_|refine dr 2007 ?_|refine dr 2012 ?_));all_goals(try conv=>whnf);try exact trivial
    exact⟨(idxC_some hi hc hp).symm,trivial⟩
   ·refine⟨i+1,⟨⟨by omega,fun j hj=>?_⟩,by dsimp only;omega⟩,none,?_⟩
    ·rcases a0J (show j≤i by omega) with h1|rfl
     ·exact hp j h1
     ·simpa using hc
    ·(repeat' ((conv=>whnf);first|(with_reducible first|apply spl|apply spl'|refine iJ ?_)<;>intro hc<;>try(exfalso;omega)|refine vcq ?_|refine dr 4 ?_|refine dr 2007 ?_|refine dr 2012 ?_));all_goals(try conv=>whnf);try exact trivial
  ·refine⟨_,rfl,?_⟩
   (repeat' ((conv=>whnf);first|(with_reducible first|apply spl|apply spl'|refine iJ ?_)<;>intro hc<;>try(exfalso;omega)|refine vcq ?_|refine dr 4 ?_|refine dr 2007 ?_|refine dr 2012 ?_));all_goals(try conv=>whnf);try exact trivial
   exact⟨(idxC_none (fun j hj=>hp j (by omega))).symm,trivial⟩
theorem delete86 (p:C6→Bool) (E:List C6) (hl:E.length≤1000000) (m:Nat) (hm:m≤E.length):Sx.Callee Tryz.prog 184 [.win 0 6 0 m,.sem (TellC p)] [.row 105 6 E.length (eR E) false]
  (fun v H=>∃G:List C6,G.length=E.length∧v=.win 0 6 0 (leftC p E m).length∧H=[.row 105 6 E.length (eR G) false]∧∀i,i<(leftC p E m).length→G.getD i (C6.all (-3))=(leftC p E m).getD i (C6.all (-3))):=by
 have hlen:(E.take m).length=m:=by simp;omega
 refine callee_ent Tryz.E_ok Tryz.func184 rfl (by kernel_rfl) ?_
 (repeat' ((conv=>whnf);first|(with_reducible first|apply spl|apply spl'|refine iJ ?_)<;>intro hc<;>try(exfalso;omega)|refine vcq ?_|refine dr 4 ?_|refine dr 2007 ?_|refine dr 2012 ?_));all_goals(try conv=>whnf);try exact trivial
 refine callee_view (index88 p (E.take m) (by simp;omega)) ?_
 (repeat' ((conv=>whnf);first|(with_reducible first|apply spl|apply spl'|refine iJ ?_)<;>intro hc<;>try(exfalso;omega)|refine vcq ?_|refine dr 4 ?_|refine dr 2007 ?_|refine dr 2012 ?_));all_goals(try conv=>whnf);try exact trivial
 refine⟨fun i hi=>?_,.inl rfl,?_⟩
 ·unfold eR a0u
  rw[take_getD hi,a2Y]
 (repeat' ((conv=>whnf);first|(with_reducible first|apply spl|apply spl'|refine iJ ?_)<;>intro hc<;>try(exfalso;omega)|refine vcq ?_|refine dr 4 ?_|refine dr 2007 ?_|refine dr 2012 ?_));all_goals(try conv=>whnf);try exact trivial
 rintro _ rfl
 rcases idxC_spec p (E.take m) with⟨he,hn⟩|⟨k,he,hk,hp,hn⟩
 ·have hn':∀j,j<m→p (E.getD j (C6.all (-3)))=false:=fun j hj=>by rw[←take_getD hj];exact hn j (by omega)
  have hleft:=leftC_none hm hn'
  rw[he]
  (repeat' ((conv=>whnf);first|(with_reducible first|apply spl|apply spl'|refine iJ ?_)<;>intro hc<;>try(exfalso;omega)|refine vcq ?_|refine dr 4 ?_|refine dr 2007 ?_|refine dr 2012 ?_));all_goals(try conv=>whnf);try exact trivial
  refine⟨_,_,⟨E,rfl,rfl,rfl,fun i hi=>?_⟩,some [some 0],?_⟩
  ·rw[hleft] at hi ⊢
   rw[take_getD (by omega)]
  ·rw[hleft,hlen]
   (repeat' ((conv=>whnf);first|(with_reducible first|apply spl|apply spl'|refine iJ ?_)<;>intro hc<;>try(exfalso;omega)|refine vcq ?_|refine dr 4 ?_|refine dr 2007 ?_|refine dr 2012 ?_));all_goals(try conv=>whnf);try exact trivial
 ·rw[he]
  have hkm:k<m:=by omega
  rw[take_getD hkm] at hp
  have hn':∀j,j<k→p (E.getD j (C6.all (-3)))=false:=fun j hj=>by rw[←take_getD (show j<m by omega)];exact hn j hj
  have hl1:leftC p E (k+1)=E.take k:=by rw[leftC_succ (by omega),if_pos hp,leftC_none (by omega) hn']
  have hl2:(leftC p E (k+1)).length=k:=by rw[hl1];simp;omega
  (repeat' ((conv=>whnf);first|(with_reducible first|apply spl|apply spl'|refine iJ ?_)<;>intro hc<;>try(exfalso;omega)|refine vcq ?_|refine dr 4 ?_|refine dr 2007 ?_|refine dr 2012 ?_));all_goals(try conv=>whnf);try exact trivial
  ·refine⟨Nat×List C6,fun i=>i.1≤m∧i.2.length=E.length∧(leftC p E i.1).length<i.1∧(∀a,a<(leftC p E i.1).length→i.2.getD a (C6.all (-3))=(leftC p E i.1).getD a (C6.all (-3)))∧∀a,i.1≤a→i.2.getD a (C6.all (-3))=E.getD a (C6.all (-3)),fun i=>m-i.1,fun i=>[(5,.int .i64 (leftC p E i.1).length),(6,.int .i64 i.1)],fun i=>[(0,.row 105 6 E.length (eR i.2) false)],fun _=>[],(k+1,E),⟨⟨by dsimp only;omega,rfl,by dsimp only;omega,fun a ha=>?_,fun a _=>rfl⟩,some [some 0],?_⟩,?_⟩
   ·dsimp only at ha ⊢
    rw[hl1] at ha ⊢
    rw[take_getD (by simp at ha;omega)]
   ·(repeat' ((conv=>whnf);first|(with_reducible first|apply spl|apply spl'|refine iJ ?_)<;>intro hc<;>try(exfalso;omega)|refine vcq ?_|refine dr 4 ?_|refine dr 2007 ?_|refine dr 2012 ?_));all_goals(try conv=>whnf);try exact trivial
   ·rintro⟨j,G⟩ ⟨h1,h2,h3,h4,h5⟩
    dsimp only at h1 h2 h3 h4 h5
    have hle:=leftC_le p E j
    have hz:0+(j:Int).toNat=j:=by omega
    (repeat' ((conv=>whnf);first|(with_reducible first|apply spl|apply spl'|refine iJ ?_)<;>intro hc<;>try(exfalso;omega)|refine vcq ?_|refine dr 4 ?_|refine dr 2007 ?_|refine dr 2012 ?_));all_goals(try conv=>whnf);try exact trivial
    ·refine scall_fn (G.getD (0+(j:Int).toNat) (C6.all (-3))) rfl rfl ?_
     rintro _ rfl
     rw[hz]
     have hjm:j<m:=by dsimp only at hc;omega
     have hgj:=h5 j (a0U j)
     have hsucc:=leftC_succ (p:=p) (E:=E) (j:=j) (by omega)
     (repeat' ((conv=>whnf);first|(with_reducible first|apply spl|apply spl'|refine iJ ?_)<;>intro hc<;>try(exfalso;omega)|refine vcq ?_|refine dr 4 ?_|refine dr 2007 ?_|refine dr 2012 ?_));all_goals(try conv=>whnf);try exact trivial
     ·-- kept
      have hpf:¬p (E.getD j (C6.all (-3)))=true:=by rw[←hgj];assumption
      rw[if_neg hpf] at hsucc
      have hsl:(leftC p E (j+1)).length=(leftC p E j).length+1:=by rw[hsucc];simp
      refine⟨(j+1,G.set (leftC p E j).length (G.getD j (C6.all (-3)))),⟨⟨by dsimp only;omega,by dsimp only;rw[List.length_set];exact h2,by dsimp only;omega,fun a ha=>?_,fun a ha=>?_⟩,by dsimp only;omega⟩,some [some 0],?_⟩
      ·dsimp only at ha ⊢
       rw[hsl] at ha
       rw[hsucc]
       simp only[a0A,a0H,a2L] at h4 hgj ⊢
       by_cases hal:a<(leftC p E j).length
       ·rw[if_neg (by omega),if_pos hal]
        exact h4 a hal
       ·have:a=(leftC p E j).length:=by omega
        subst this
        rw[if_pos rfl,if_pos (by omega),if_neg (by omega)]
        simp[hgj]
      ·dsimp only at ha ⊢
       rw[←h5 a (by omega)]
       simp only[a0A,a0H]
       rw[if_neg (by omega)]
      ·(repeat' ((conv=>whnf);first|(with_reducible first|apply spl|apply spl'|refine iJ ?_)<;>intro hc<;>try(exfalso;omega)|refine vcq ?_|refine dr 4 ?_|refine dr 2007 ?_|refine dr 2012 ?_));all_goals(try conv=>whnf);try exact trivial
       refine⟨fun a _=>?_,?_⟩
       ·have:=congrFun (eR_all (G:=G) (e:=(leftC p E j).length) (by omega) (G.getD j (C6.all (-3)))) a
        simp only[a2Y,a1N]
        exact this
       ·(repeat' ((conv=>whnf);first|(with_reducible first|apply spl|apply spl'|refine iJ ?_)<;>intro hc<;>try(exfalso;omega)|refine vcq ?_|refine dr 4 ?_|refine dr 2007 ?_|refine dr 2012 ?_));all_goals(try conv=>whnf);try exact trivial
     ·-- dropped
      have hpt:p (E.getD j (C6.all (-3)))=true:=by rw[←hgj];exact a0T.1 (by assumption)
      rw[if_pos hpt] at hsucc
      refine⟨(j+1,G),⟨⟨by dsimp only;omega,h2,by dsimp only;rw[hsucc];omega,fun a ha=>?_,fun a ha=>?_⟩,by dsimp only;omega⟩,some [some 0],?_⟩
      ·dsimp only at ha ⊢
       rw[hsucc] at ha ⊢
       exact h4 a ha
      ·dsimp only at ha ⊢
       exact h5 a (by omega)
      ·rw[←hsucc]
       (repeat' ((conv=>whnf);first|(with_reducible first|apply spl|apply spl'|refine iJ ?_)<;>intro hc<;>try(exfalso;omega)|refine vcq ?_|refine dr 4 ?_|refine dr 2007 ?_|refine dr 2012 ?_));all_goals(try conv=>whnf);try exact trivial
    ·have hjm:j=m:=by dsimp only at hc;omega
     subst hjm
     have hcl:=fun k=>clearC_getD (G:=G) (a:=(leftC p E j).length) (b:=j-(leftC p E j).length) (k:=k)
     refine⟨_,_,⟨clearC G (leftC p E j).length (j-(leftC p E j).length),by unfold clearC;simp[h2],rfl,rfl,fun i hi=>?_⟩,some [some 0],?_⟩
     ·rw[hcl i (by omega),if_neg (by omega)]
      exact h4 i hi
     ·(repeat' ((conv=>whnf);first|(with_reducible first|apply spl|apply spl'|refine iJ ?_)<;>intro hc<;>try(exfalso;omega)|refine vcq ?_|refine dr 4 ?_|refine dr 2007 ?_|refine dr 2012 ?_));all_goals(try conv=>whnf);try exact trivial
      refine⟨fun a ha=>?_,?_⟩
      ·unfold eR a0u
       rw[hcl a (by omega)]
       have e1:(((leftC p E j).length:Nat):Int).toNat=(leftC p E j).length:=by omega
       have e2:((j:Int)-((leftC p E j).length:Nat)).toNat=j-(leftC p E j).length:=by omega
       simp only[a2Y,e1,e2]
       split<;>rfl
      ·(repeat' ((conv=>whnf);first|(with_reducible first|apply spl|apply spl'|refine iJ ?_)<;>intro hc<;>try(exfalso;omega)|refine vcq ?_|refine dr 4 ?_|refine dr 2007 ?_|refine dr 2012 ?_));all_goals(try conv=>whnf);try exact trivial
def stH2 (s:PS):List O:=[.cells 187 (stCs s 2),.gone,.row 105 6 s.E.length (eR s.E) false]
theorem tidy71 (s:PS) (hs:s.Sm):Sx.Callee Tryz.prog 173 [.ptr 0 0] (stH s) (fun v H=>v=.tup []∧H=stH2 s.tidy):=by
 have h1:=hs.ne
 have h2:=hs.len
 refine callee_ent Tryz.E_ok Tryz.func173 rfl (by kernel_rfl) ?_
 (repeat' ((conv=>whnf);first|(with_reducible first|apply spl|apply spl'|refine iJ ?_)<;>intro hc<;>try(exfalso;omega)|refine vcq ?_|refine dr 2012 ?_|refine dr 2007 ?_));all_goals(try conv=>whnf);try exact trivial
 refine Callee.mono (current68 s hs) ?_
 rintro _ _ ⟨rfl,rfl⟩
 (repeat' ((conv=>whnf);first|(with_reducible first|apply spl|apply spl'|refine iJ ?_)<;>intro hc<;>try(exfalso;omega)|refine vcq ?_|refine dr 2012 ?_|refine dr 2007 ?_));all_goals(try conv=>whnf);try exact trivial
 refine a0e [1] (delete86 isN s.E h2 (s.E.length-1) (by omega)) rfl ?_ ?_
 ·(repeat' ((conv=>whnf);first|(with_reducible first|apply spl|apply spl'|refine iJ ?_)<;>intro hc<;>try(exfalso;omega)|refine vcq ?_|refine dr 4 ?_|refine dr 2007 ?_|refine dr 2012 ?_));all_goals(try conv=>whnf);try exact trivial
  refine⟨semOb_fn (a':=[]) (b':=[]) (fun i=>isNone87 i) (plain_of Tryz.func185 (by kernel_rfl) (by kernel_rfl)) ?_,?_⟩
  ·(repeat' ((conv=>whnf);first|(with_reducible first|apply spl|apply spl'|refine iJ ?_)<;>intro hc<;>try(exfalso;omega)|refine vcq ?_|refine dr 4 ?_|refine dr 2007 ?_|refine dr 2012 ?_));all_goals(try conv=>whnf);try exact trivial
  ·(repeat' ((conv=>whnf);first|(with_reducible first|apply spl|apply spl'|refine iJ ?_)<;>intro hc<;>try(exfalso;omega)|refine vcq ?_|refine dr 4 ?_|refine dr 2007 ?_|refine dr 2012 ?_));all_goals(try conv=>whnf);try exact trivial
 ·rintro _ _ ⟨G,hG,rfl,rfl,hg⟩
  have hle:=leftC_le isN s.E (s.E.length-1)
  have hE:=tidy_E s
  have hEl:s.tidy.E.length=(leftC isN s.E (s.E.length-1)).length+1:=by rw[hE];simp
  (repeat' ((conv=>whnf);first|(with_reducible first|apply spl|apply spl'|refine iJ ?_)<;>intro hc<;>try(exfalso;omega)|refine vcq ?_|refine dr 2012 ?_|refine dr 2007 ?_));all_goals(try conv=>whnf);try exact trivial
  have hn:((s.E.length:Int)-1).toNat=s.E.length-1:=by omega
  refine⟨_,_,⟨rfl,rfl⟩,some [some 0,some 1,some 4],?_⟩
  (repeat' ((conv=>whnf);first|(with_reducible first|apply spl|apply spl'|refine iJ ?_)<;>intro hc<;>try(exfalso;omega)|refine vcq ?_|refine dr 4 ?_|refine dr 2007 ?_|refine dr 2012 ?_));all_goals(try conv=>whnf);try exact trivial
  refine⟨?_,?_⟩
  ·rw[hE,hn]
   exact eR_snoc hg
  ·(repeat' ((conv=>whnf);first|(with_reducible first|apply spl|apply spl'|refine iJ ?_)<;>intro hc<;>try(exfalso;omega)|refine vcq ?_|refine dr 4 ?_|refine dr 2007 ?_|refine dr 2012 ?_));all_goals(try conv=>whnf);try exact trivial
theorem first72 (s:PS) (hl:s.E.length≤1000000):a0q Tryz.prog 174 false [stI s] (·=.tup [.int .i64 (idxC isS s.E),.prop (0≤idxC isS s.E) inferInstance]):=by
 refine a0c Tryz.E_ok Tryz.func174 rfl (by kernel_rfl) ?_
 refine x1 ?_
 refine callee_view (index88 isS s.E hl) ?_
 refine x1 ?_
 refine⟨semOb_fn (a':=[]) (b':=[]) (fun i=>isSome89 i) (plain_of Tryz.func187 (by kernel_rfl) (by kernel_rfl)) ?_,?_⟩
 ·exact xc3
 ·rintro _ rfl
  refine x1 ?_
  refine⟨_,rfl,?_⟩
  exact xc3
theorem can52 (s:PS) (hl:s.E.length≤1000000) (b:Nat) (hb:b<6):a0q Tryz.prog 137 false [stI s,.int .i64 b] (·=.prop (s.can b) inferInstance):=by
 have hlt:=idxC_spec isS s.E
 refine a0c Tryz.E_ok Tryz.func137 rfl (by kernel_rfl) ?_
 rcases six hb with rfl|rfl|rfl|rfl|rfl|rfl
 all_goals
  refine x1 ?_
  refine a0d (first72 s hl) rfl ?_
  rintro _ rfl
  refine x1 ?_
  refine⟨_,rfl,?_⟩
  exact xc3
theorem begin42:NewC Tryz.prog 131 [] (fun r H=>r=.ptr 0 0∧H=stH PS.begin):=by
 refine newC_ent Tryz.E_ok Tryz.func131 rfl (by kernel_rfl) ?_
 refine x1 ?_;(repeat' ((first|(refine a0d (all67 (-1)) rfl ?_;rintro _ rfl)|(refine a0f (all67 (-1)) rfl ?_)|(refine a0l (fun _=>all67 (-1)) rfl ?_)|(refine a0d (all67 (-3)) rfl ?_;rintro _ rfl)|(refine a0f (all67 (-3)) rfl ?_)|(refine a0l (fun _=>all67 (-3)) rfl ?_));refine x1 ?_));(all_goals(try(refine⟨_,rfl,?_⟩;(repeat' ((conv=>whnf);first|(with_reducible first|apply spl|apply spl'|refine iJ ?_)<;>intro hc<;>try(exfalso;omega)|refine vcq ?_|fail));all_goals((try conv=>whnf);try exact trivial))))
 refine⟨_,_,⟨rfl,rfl⟩,some [some 1,some 0],?_⟩
 refine x1 ?_
 refine⟨fun i hi=>?_,?_⟩
 ·obtain rfl:i=0:=by omega
  rfl
 ·exact xc3
theorem clone90 (E:List C6) (hl:0<E.length∧E.length≤1000000):NewC Tryz.prog 169 [.sl 6 E.length (eR E)] (fun r H=>r=.osl 0 E.length∧H=[.row 105 6 E.length (eR E) false]):=by
 refine newC_ent Tryz.E_ok Tryz.func169 rfl (by kernel_rfl) ?_
 refine x1 ?_
 refine⟨_,_,⟨rfl,rfl⟩,some [some 1],?_⟩
 exact xc3
theorem clone75 (s:PS) (hs:s.Sm):NewC Tryz.prog 133 [stI s] (fun r H=>r=.ptr 0 0∧H=stH s):=by
 have h1:=hs.ne
 have h2:=hs.len
 refine newC_ent Tryz.E_ok Tryz.func133 rfl (by kernel_rfl) ?_
 refine x1 ?_
 refine callee_new (clone90 s.E ⟨h1,h2⟩) rfl ?_
 rintro _ _ ⟨rfl,rfl⟩
 refine x1 ?_
 refine⟨_,_,⟨rfl,rfl⟩,some [some 0,some 1],?_⟩
 exact xc3
theorem first72o (s:PS) (hl:s.E.length≤1000000):Sx.Callee Tryz.prog 174 [.ptr 0 0] (stH s) (fun v H=>v=.tup [.int .i64 (idxC isS s.E),.prop (0≤idxC isS s.E) inferInstance]∧H=stH s):=by
 refine callee_view (first72 s hl) ?_
 refine x1 ?_
 rintro _ rfl
 exact⟨rfl,rfl⟩
theorem drain53 (s:PS) (hs:s.Sm) (hW:s.W≤100000) (b:Nat) (hb:b<6) (hf:0≤idxC isS s.E):Sx.Callee Tryz.prog 176 [.ptr 0 0,.int .i64 b] (stH s) (fun v H=>v=.tup []∧H=stH2 (s.drain b)):=by
 have h1:=hs.ne
 have h2:=hs.len
 have h3:=hs.W
 have hi:(idxC isS s.E).toNat<s.E.length:=by
  rcases idxC_spec isS s.E with⟨h,_⟩|⟨i,h,h5,_⟩
  ·omega
  ·omega
 obtain⟨k,hk⟩:∃k:Nat,idxC isS s.E=k:=⟨(idxC isS s.E).toNat,by omega⟩
 have hw:=write70 s hs k b (by omega) hb
 have hsm:=hs.wr (e:=k) (b:=b) (by omega)
 have ht:=tidy71 _ hsm
 have hd:s.drain b=(s.wr k b).tidy:=by unfold PS.drain;rw[hk];rfl
 rw[hd]
 refine a2k Tryz.E_ok Tryz.func176 rfl (by kernel_rfl) ?_
 refine x1 ?_
 refine Callee.mono (first72o s h2) ?_
 rintro _ _ ⟨rfl,rfl⟩
 rw[hk]
 refine x1 ?_
 refine Callee.mono hw ?_
 rintro _ _ ⟨rfl,rfl⟩
 refine x1 ?_
 refine Callee.mono ht ?_
 rintro _ _ ⟨rfl,rfl⟩
 exact xc3
end Go.Proofs
