/- Own work: texts of the proof of a law (SzTr, Ws3, Ws4, Ws5, Ws6, Ws7). No condition. -/
import Derived.Test.YtkgjhinmndcmjaaGreatPart11
import Derived.Test.YtkgjhinmndcmjaaGreatPart18
import Derived.Test.YtkgjhinmndcmjaaGreatPart0
set_option linter.unusedVariables false
set_option linter.unusedSimpArgs false
namespace Go.Sx
open Go
variable {P:Program}
theorem Sat.swap {I:Nat→Prop} {η:Eta} {w:World} {H:List O} (h:Sat I η w H) {id:Nat} {o o':O} {e:Option Nat×Nat} (hη:η[id]? = some e) (hH:H[id]? = some o) (hhas:∀b,o'.has e b↔o.has e b) (ho:SatO I η w e o') :
  Sat I η w (H.set id o')∧own η (H.set id o')=own η H:=by
 have hlt:=(a0B.1 hH).1
 have hget:∀j (q:O),(H.set id o')[j]? = some q→(j=id∧q=o')∨(j≠id∧H[j]? = some q):=fun j q hq=>by
  rw[a0G] at hq
  by_cases g:id=j
  ·rw[if_pos g,if_pos hlt] at hq
   cases hq
   exact .inl ⟨g.symm,rfl⟩
  ·rw[if_neg g] at hq
   exact .inr ⟨fun e=>g e.symm,hq⟩
 have hself:(H.set id o')[id]? = some o':=by rw[a0G,if_pos rfl,if_pos hlt]
 have hother:∀j (q:O),j≠id→H[j]? = some q→(H.set id o')[j]? = some q:=fun j q hj hq=>by rw[a0G,if_neg (fun g=>hj g.symm)];exact hq
 have hback:∀j (ee:Option Nat×Nat) (q:O) b,η[j]? = some ee→(H.set id o')[j]? = some q→q.has ee b→∃q0:O,H[j]? = some q0∧q0.has ee b:=fun j ee q b h1 h2 h3=>by
  rcases hget j q h2 with⟨rfl,rfl⟩|⟨_,g⟩
  ·rw[hη] at h1
   cases h1
   exact⟨o,hH,(hhas b).1 h3⟩
  ·exact⟨q,g,h3⟩
 have hown:own η (H.set id o')=own η H:=by
  unfold own
  congr 1
  funext b
  apply propext
  constructor
  ·rintro⟨j,ee,q,h1,h2,h3⟩
   obtain⟨q0,g1,g2⟩:=hback j ee q b h1 h2 h3
   exact⟨j,ee,q0,h1,g1,g2⟩
  ·rintro⟨j,ee,q,h1,h2,h3⟩
   by_cases g:j=id
   ·subst g
    rw[hη] at h1
    cases h1
    rw[hH] at h2
    cases h2
    exact⟨j,e,o',hη,hself,(hhas b).2 h3⟩
   ·exact⟨j,ee,q,h1,hother j q g h2,h3⟩
 refine⟨⟨by rw[a2H];exact h.len,fun j ee q h1 h2=>?_,fun j j' b ee ee' q q' h1 h2 h3 h4 h5 h6=>?_,fun b hb=>?_,fun b hb=>?_,h.ilt⟩,hown⟩
 ·rcases hget j q h2 with⟨rfl,rfl⟩|⟨_,g⟩
  ·rw[hη] at h1
   cases h1
   exact ho
  ·exact h.obj j ee q h1 g
 ·obtain⟨q0,g1,g2⟩:=hback j ee q b h1 h3 h5
  obtain⟨q1,g3,g4⟩:=hback j' ee' q' b h2 h4 h6
  exact h.apart j j' b ee ee' q0 q1 h1 h2 g1 g3 g2 g4
 ·rw[hown] at hb;exact h.notI b hb
 ·rw[hown] at hb;exact h.lt b hb
theorem Callee.trunc {g:FuncId} {args:List V} {H:List O} {K K2:V→List O→Prop} (h:Callee P g args H K)
  (hr:∀v H',K v H'→K2 v H'∨∃(id sz n n':Nat) (ty:TypeId) (f f':Nat→List V) (nz:Bool),v=.win id sz 0 n∧H'[id]? = some (.row ty sz n' f nz)∧n≤n'∧0<n'∧(∀i,i<n→f' i=f i)∧K2 (.osl id n) (H'.set id (.row ty sz n f' false))) :
  Callee P g args H K2:=by
 unfold Callee at h ⊢
 refine⟨h.1,fun I η w vals hS hd=>(h.2 I η w vals hS hd).mono ?_⟩
 rintro e w' ⟨I',η',H',v,x,he,hk,hS',hd',hm,hst⟩
 rcases hr v H' hk with g|⟨id,sz,n,n',ty,f,f',nz,rfl,hH,hn,hn',hf,g⟩
 ·exact⟨I',η',H',v,x,he,g,hS',hd',hm,hst⟩
 obtain⟨ee,hη,hnz,hx⟩:=hd'.1 rfl
 obtain⟨xs,hown,h1,hnil,hden⟩:=hS'.obj id ee _ hη hH
 have hee:ee.1≠none:=fun g0=>by have:=(hnil.1 g0).2;omega
 have hso:SatO I' η' w' ee (.row ty sz n f' false):=by
  obtain⟨hxl,hown2⟩:=hown
  have hle:n*sz≤n'*sz:=a0H _ hn
  refine⟨xs.take (n*sz),⟨by rw[a0J,hxl];omega,?_⟩,fun u hu=>h1 u (a0X hu),⟨fun g0=>absurd g0 hee,fun g0=>by cases g0.1⟩,fun i hi=>?_⟩
  ·obtain⟨bb,cp⟩:=ee
   cases bb with
   |none=>exact absurd rfl hee
   |some b=>
    rcases hown2 with⟨hbad,_⟩|⟨g',cap',cur,hge,q1,q2,q3,q4,q5,q6⟩
    ·cases hbad
    ·cases hge
     refine .inr ⟨b,cp,cur,rfl,q1,q2,by omega,q4,q5,?_⟩
     rw[←q6,a2F]
     congr 1
     omega
  ·rw[hf i hi]
   have hk2:(i+1)*sz≤n*sz:=a0H _ hi
   rw[a0W] at hk2
   refine Eq.mp ?_ (hden i (by omega))
   rw[a3I,a2F]
   congr 2
   omega
 obtain⟨s1,s2⟩:=hS'.swap hη hH (o':=.row ty sz n f' false) (fun b=>a2W) hso
 exact⟨I',η',_,.osl id n,x,he,g,s1,⟨ee,hη,hnz,hx⟩,hm,by rw[s2];exact hst⟩
end Go.Sx
namespace Go.Proofs
open Go Go.Sx
set_option maxRecDepth 100000
set_option maxHeartbeats 40000000
open Ca (Wt ltK putM)
open Classical in
noncomputable def a0i (p:Wt→Prop) (W:List Wt) (j:Nat):List Wt:=(W.take j).filter fun w=>decide (¬p w)
open Classical in
noncomputable def medW (p:Wt→Prop) (W:List Wt) (M:Nat→Int) (j:Nat):Nat→Int:=((W.take j).filter fun w=>decide (p w)).foldl putM M
theorem getW {W:List Wt} {j:Nat} (h:j<W.length):W.getD j wt0=W[j]:=by rw[a0A,a0C h];rfl
theorem a1v {p:Wt→Prop} {W:List Wt} {M:Nat→Int} {j:Nat} (h:j<W.length):(p (W.getD j wt0)→a0i p W (j+1)=a0i p W j∧medW p W M (j+1)=putM (medW p W M j) (W.getD j wt0))∧(¬p (W.getD j wt0)→a0i p W (j+1)=a0i p W j++[W.getD j wt0]∧medW p W M (j+1)=medW p W M j):=by
 unfold a0i medW
 rw[a1D h,←getW h,a3K,a3K]
 generalize W.getD j wt0=x
 constructor
 ·intro hp
  simp[hp,a3A]
 ·intro hp
  simp[hp]
theorem keepW_le (p:Wt→Prop) (W:List Wt) (j:Nat):(a0i p W j).length≤j:=by
 unfold a0i
 refine a3S (List.length_filter_le _ _) ?_
 rw[a0J]
 omega
theorem a2z {p:Wt→Prop} {W:List Wt} {j:Nat} (hj:j≤W.length) (h:∀k,k<j→¬p (W.getD k wt0)) (M:Nat→Int):a0i p W j=W.take j∧medW p W M j=M:=by
 have hall:∀w∈W.take j,¬p w:=fun w hw=>by
  obtain⟨i,hi,rfl⟩:=a1A hw
  rw[a0J] at hi
  have:=h i (by omega)
  rw[getW (by omega)] at this
  rwa [List.getElem_take]
 unfold a0i medW
 constructor
 ·rw[a4B]
  intro w hw
  simp[hall w hw]
 ·rw[a3O.2]
  ·rfl
  ·intro w hw
   simp[hall w hw]
theorem rowW_set {G:List Wt} {e:Nat} (he:e<G.length) (x:Wt) (j:Nat):a2d (j=e) (a0e wtC wt0 G j) 0 (wtC x)=a0e wtC wt0 (G.set e x) j:=by
 unfold a0e
 by_cases h:j=e
 ·subst h
  rw[a0w rfl]
  simp[a0A,he]
  rfl
 ·rw[a0t h]
  simp[a0A,show ¬e=j from fun g=>h g.symm]
theorem idx184F_false (s:Sv) (W:List Wt) (hW:W.length≤1000) (hb:∀w∈W,w.2.1<s.n) (M:Nat→Int) (ep b:Nat) (k:Int):Sx.Callee Tryz.prog 184 [.osl 1 W.length,.fn (.func 166) [] [.ptr 6 0,.ptr 5 0]] (wrHF s W.length W.length (a0e wtC wt0 W) false M ep b k)
  (fun v H=>((∀q,q<W.length→¬(fun w=>w.1<ep∨w.2.1=b) (W.getD q wt0))∧v=.int .i64 (-1)∧H=wrHF s W.length W.length (a0e wtC wt0 W) false M ep b k)∨∃i:Nat,i<W.length∧(∀q,q<i→¬(fun w=>w.1<ep∨w.2.1=b) (W.getD q wt0))∧(fun w=>w.1<ep∨w.2.1=b) (W.getD i wt0)∧v=.int .i64 i∧H=wrHF s W.length W.length (a0e wtC wt0 W) false (putM M (W.getD i wt0)) ep b k):=by
 have hbg:∀q,q<W.length→(W.getD q wt0).2.1<s.n:=fun q hq=>by rw[getW hq];exact hb _ (a0N hq)
 refine a0k Tryz.E_ok Tryz.func184 rfl (by kernel_rfl) ?_
 unfold wrHF
 refine x1 ?_
 refine⟨Nat,fun i=>i≤W.length∧∀q,q<i→¬(fun w=>w.1<ep∨w.2.1=b) (W.getD q wt0),fun i=>W.length-i,fun i=>[(8,.int .i64 (i:Nat))],fun _=>[],fun _=>[],0,⟨⟨by omega,fun q hq=>by omega⟩,some [some 0,some 1,some 2,some 3,some 4,some 5,some 6],?_⟩,?_⟩
 ·exact xc0
 ·rintro i ⟨hi,hall⟩
  have hi:i≤W.length:=hi
  have hti:(i:Int).toNat=i:=a0E i
  refine x3 (fun hc=>?_) (fun hc=>?_)
  ·have hil:i<W.length:=by omega
   rw[hti]
   refine a0c [0,1,2,3,4,5,6] (wr166F s W.length W.length (a0e wtC wt0 W) false M ep b k (W.getD i wt0) (hbg i hil)) rfl ?_ ?_
   ·unfold wrHF
    exact xc0
   ·rintro _ _ ⟨M',hM',rfl,rfl⟩
    unfold wrHF
    refine x3 (fun hc=>?_) (fun hc=>?_)
    ·rw[if_pos hc] at hM'
     subst hM'
     refine⟨_,_,.inr ⟨i,hil,hall,hc,rfl,rfl⟩,some [some 0,some 1,some 2,some 3,some 4,some 5,some 6],?_⟩
     exact xc0
    ·rw[if_neg hc] at hM'
     subst hM'
     refine⟨i+1,⟨⟨by first|omega|(dsimp only;omega),fun q hq=>?_⟩,by first|omega|(dsimp only;omega)⟩,some [some 0,some 1,some 2,some 3,some 4,some 5,some 6],?_⟩
     ·rcases a0I (a2C hq) with g|g
      ·exact hall q g
      ·rw[g];exact hc
     ·exact xc0
  ·obtain rfl:i=W.length:=by omega
   refine⟨_,_,.inl ⟨hall,rfl,rfl⟩,some [some 0,some 1,some 2,some 3,some 4,some 5,some 6],?_⟩
   exact xc0
theorem idx184F_true (s:Sv) (W:List Wt) (hW:W.length≤1000) (hb:∀w∈W,w.2.1<s.n) (M:Nat→Int) (ep b:Nat) (k:Int):Sx.Callee Tryz.prog 184 [.osl 1 W.length,.fn (.func 166) [] [.ptr 6 0,.ptr 5 0]] (wrHF s W.length W.length (a0e wtC wt0 W) true M ep b k)
  (fun v H=>((∀q,q<W.length→¬(fun w=>w.1<ep∨w.2.1=b) (W.getD q wt0))∧v=.int .i64 (-1)∧H=wrHF s W.length W.length (a0e wtC wt0 W) true M ep b k)∨∃i:Nat,i<W.length∧(∀q,q<i→¬(fun w=>w.1<ep∨w.2.1=b) (W.getD q wt0))∧(fun w=>w.1<ep∨w.2.1=b) (W.getD i wt0)∧v=.int .i64 i∧H=wrHF s W.length W.length (a0e wtC wt0 W) true (putM M (W.getD i wt0)) ep b k):=by
 have hbg:∀q,q<W.length→(W.getD q wt0).2.1<s.n:=fun q hq=>by rw[getW hq];exact hb _ (a0N hq)
 refine a0k Tryz.E_ok Tryz.func184 rfl (by kernel_rfl) ?_
 unfold wrHF
 refine x1 ?_
 refine⟨Nat,fun i=>i≤W.length∧∀q,q<i→¬(fun w=>w.1<ep∨w.2.1=b) (W.getD q wt0),fun i=>W.length-i,fun i=>[(8,.int .i64 (i:Nat))],fun _=>[],fun _=>[],0,⟨⟨by omega,fun q hq=>by omega⟩,some [some 0,some 1,some 2,some 3,some 4,some 5,some 6],?_⟩,?_⟩
 ·exact xc0
 ·rintro i ⟨hi,hall⟩
  have hi:i≤W.length:=hi
  have hti:(i:Int).toNat=i:=a0E i
  refine x3 (fun hc=>?_) (fun hc=>?_)
  ·have hil:i<W.length:=by omega
   rw[hti]
   refine a0c [0,1,2,3,4,5,6] (wr166F s W.length W.length (a0e wtC wt0 W) true M ep b k (W.getD i wt0) (hbg i hil)) rfl ?_ ?_
   ·unfold wrHF
    exact xc0
   ·rintro _ _ ⟨M',hM',rfl,rfl⟩
    unfold wrHF
    refine x3 (fun hc=>?_) (fun hc=>?_)
    ·rw[if_pos hc] at hM'
     subst hM'
     refine⟨_,_,.inr ⟨i,hil,hall,hc,rfl,rfl⟩,some [some 0,some 1,some 2,some 3,some 4,some 5,some 6],?_⟩
     exact xc0
    ·rw[if_neg hc] at hM'
     subst hM'
     refine⟨i+1,⟨⟨by first|omega|(dsimp only;omega),fun q hq=>?_⟩,by first|omega|(dsimp only;omega)⟩,some [some 0,some 1,some 2,some 3,some 4,some 5,some 6],?_⟩
     ·rcases a0I (a2C hq) with g|g
      ·exact hall q g
      ·rw[g];exact hc
     ·exact xc0
  ·obtain rfl:i=W.length:=by omega
   refine⟨_,_,.inl ⟨hall,rfl,rfl⟩,some [some 0,some 1,some 2,some 3,some 4,some 5,some 6],?_⟩
   exact xc0
theorem idx184A_false (s:Sv) (W:List Wt) (hW:W.length≤1000) (hb:∀w∈W,w.2.1<s.n) (M:Nat→Int):Sx.Callee Tryz.prog 184 [.osl 1 W.length,.fn (.func 166) [] [.ptr 4 0,.ptr 3 0]] (wrHA s W.length W.length (a0e wtC wt0 W) false M)
  (fun v H=>((∀q,q<W.length→¬(fun _=>True) (W.getD q wt0))∧v=.int .i64 (-1)∧H=wrHA s W.length W.length (a0e wtC wt0 W) false M)∨∃i:Nat,i<W.length∧(∀q,q<i→¬(fun _=>True) (W.getD q wt0))∧(fun _=>True) (W.getD i wt0)∧v=.int .i64 i∧H=wrHA s W.length W.length (a0e wtC wt0 W) false (putM M (W.getD i wt0))):=by
 have hbg:∀q,q<W.length→(W.getD q wt0).2.1<s.n:=fun q hq=>by rw[getW hq];exact hb _ (a0N hq)
 refine a0k Tryz.E_ok Tryz.func184 rfl (by kernel_rfl) ?_
 unfold wrHA
 refine x1 ?_
 refine⟨Nat,fun i=>i≤W.length∧∀q,q<i→¬(fun _=>True) (W.getD q wt0),fun i=>W.length-i,fun i=>[(8,.int .i64 (i:Nat))],fun _=>[],fun _=>[],0,⟨⟨by omega,fun q hq=>by omega⟩,some [some 0,some 1,some 2,some 3,some 4],?_⟩,?_⟩
 ·exact xc0
 ·rintro i ⟨hi,hall⟩
  have hi:i≤W.length:=hi
  have hti:(i:Int).toNat=i:=a0E i
  refine x3 (fun hc=>?_) (fun hc=>?_)
  ·have hil:i<W.length:=by omega
   rw[hti]
   refine a0c [0,1,2,3,4] (wr166A s W.length W.length (a0e wtC wt0 W) false M (W.getD i wt0) (hbg i hil)) rfl ?_ ?_
   ·unfold wrHA
    exact xc0
   ·rintro _ _ ⟨M',hM',rfl,rfl⟩
    unfold wrHA
    refine x3 (fun hc=>?_) (fun hc=>?_)
    ·rw[if_pos hc] at hM'
     subst hM'
     refine⟨_,_,.inr ⟨i,hil,hall,hc,rfl,rfl⟩,some [some 0,some 1,some 2,some 3,some 4],?_⟩
     exact xc0
    ·exact absurd trivial hc
  ·obtain rfl:i=W.length:=by omega
   refine⟨_,_,.inl ⟨hall,rfl,rfl⟩,some [some 0,some 1,some 2,some 3,some 4],?_⟩
   exact xc0
theorem idx184A_true (s:Sv) (W:List Wt) (hW:W.length≤1000) (hb:∀w∈W,w.2.1<s.n) (M:Nat→Int):Sx.Callee Tryz.prog 184 [.osl 1 W.length,.fn (.func 166) [] [.ptr 4 0,.ptr 3 0]] (wrHA s W.length W.length (a0e wtC wt0 W) true M)
  (fun v H=>((∀q,q<W.length→¬(fun _=>True) (W.getD q wt0))∧v=.int .i64 (-1)∧H=wrHA s W.length W.length (a0e wtC wt0 W) true M)∨∃i:Nat,i<W.length∧(∀q,q<i→¬(fun _=>True) (W.getD q wt0))∧(fun _=>True) (W.getD i wt0)∧v=.int .i64 i∧H=wrHA s W.length W.length (a0e wtC wt0 W) true (putM M (W.getD i wt0))):=by
 have hbg:∀q,q<W.length→(W.getD q wt0).2.1<s.n:=fun q hq=>by rw[getW hq];exact hb _ (a0N hq)
 refine a0k Tryz.E_ok Tryz.func184 rfl (by kernel_rfl) ?_
 unfold wrHA
 refine x1 ?_
 refine⟨Nat,fun i=>i≤W.length∧∀q,q<i→¬(fun _=>True) (W.getD q wt0),fun i=>W.length-i,fun i=>[(8,.int .i64 (i:Nat))],fun _=>[],fun _=>[],0,⟨⟨by omega,fun q hq=>by omega⟩,some [some 0,some 1,some 2,some 3,some 4],?_⟩,?_⟩
 ·exact xc0
 ·rintro i ⟨hi,hall⟩
  have hi:i≤W.length:=hi
  have hti:(i:Int).toNat=i:=a0E i
  refine x3 (fun hc=>?_) (fun hc=>?_)
  ·have hil:i<W.length:=by omega
   rw[hti]
   refine a0c [0,1,2,3,4] (wr166A s W.length W.length (a0e wtC wt0 W) true M (W.getD i wt0) (hbg i hil)) rfl ?_ ?_
   ·unfold wrHA
    exact xc0
   ·rintro _ _ ⟨M',hM',rfl,rfl⟩
    unfold wrHA
    refine x3 (fun hc=>?_) (fun hc=>?_)
    ·rw[if_pos hc] at hM'
     subst hM'
     refine⟨_,_,.inr ⟨i,hil,hall,hc,rfl,rfl⟩,some [some 0,some 1,some 2,some 3,some 4],?_⟩
     exact xc0
    ·exact absurd trivial hc
  ·obtain rfl:i=W.length:=by omega
   refine⟨_,_,.inl ⟨hall,rfl,rfl⟩,some [some 0,some 1,some 2,some 3,some 4],?_⟩
   exact xc0
end Go.Proofs
namespace Go.Proofs
open Go Go.Sx
set_option maxRecDepth 100000
set_option maxHeartbeats 40000000
open Ca (Wt ltK putM)
def pF (ep b:Nat):Wt→Prop:=fun w=>w.1<ep∨w.2.1=b
def pA:Wt→Prop:=fun _=>True
theorem del165F_false (s:Sv) (W:List Wt) (hW:W.length≤1000) (hb:∀w∈W,w.2.1<s.n) (M:Nat→Int) (ep b:Nat) (k:Int):Sx.Callee Tryz.prog 165 [.osl 1 W.length,.fn (.func 166) [] [.ptr 6 0,.ptr 5 0]] (wrHF s W.length W.length (a0e wtC wt0 W) false M ep b k)
  (fun v H=>v=.osl 1 (a0i ((pF ep b)) W W.length).length∧∃nz,H=wrHF s W.length (a0i ((pF ep b)) W W.length).length (a0e wtC wt0 (a0i ((pF ep b)) W W.length)) nz (medW ((pF ep b)) W M W.length) ep b k):=by
 have hbg:∀q,q<W.length→(W.getD q wt0).2.1<s.n:=fun q hq=>by rw[getW hq];exact hb _ (a0N hq)
 refine Callee.trunc (K:=fun v H=>(v=.osl 1 W.length∧(a0i (pF ep b) W W.length=W∧medW (pF ep b) W M W.length=M)∧H=wrHF s W.length W.length (a0e wtC wt0 W) false M ep b k)∨∃f:Nat→List V,0<W.length∧v=.win 1 3 0 (a0i (pF ep b) W W.length).length∧H=wrHF s W.length W.length f false (medW (pF ep b) W M W.length) ep b k∧∀i,i<(a0i (pF ep b) W W.length).length→f i=a0e wtC wt0 (a0i (pF ep b) W W.length) i) ?_ ?_
 ·refine a0k Tryz.E_ok Tryz.func165 rfl (by kernel_rfl) ?_
  unfold wrHF
  refine x1 ?_
  refine a0c [0,1,2,3,4,5,6] (idx184F_false s W hW hb M ep b k) rfl ?_ ?_
  ·unfold wrHF
   exact xc0
  ·rintro _ _ (⟨hall,rfl,rfl⟩|⟨i,hil,hall,hpi,rfl,rfl⟩)
   ·have hn:=a2z (p:=(pF ep b)) (a0K _) hall M
    rw[a2M] at hn
    unfold wrHF
    refine x1 (fun hc=>?_)
    refine⟨_,_,.inl ⟨rfl,hn,rfl⟩,some [some 0,some 1,some 2,some 3,some 4,some 5,some 6],?_⟩
    exact xc0
   ·have hk0:=a2z (p:=(pF ep b)) (show i≤W.length by omega) hall M
    have hs:=(a1v (p:=(pF ep b)) (M:=M) hil).1 hpi
    have hk1:(a0i (pF ep b) W (i+1)).length=i:=by rw[hs.1,hk0.1,a0J];omega
    unfold wrHF
    refine x1 (fun hc=>?_)
    refine⟨Nat×List Wt,fun q=>(i<q.1∧q.1≤W.length)∧q.2.length=W.length∧(∀a,a<(a0i (pF ep b) W q.1).length→q.2.getD a wt0=(a0i (pF ep b) W q.1).getD a wt0)∧(∀a,q.1≤a→q.2.getD a wt0=W.getD a wt0)∧(a0i (pF ep b) W q.1).length<q.1,fun q=>W.length-q.1,fun q=>[(5,.int .i64 ((a0i (pF ep b) W q.1).length:Nat)),(6,.int .i64 (q.1:Nat)),(7,.any)],fun q=>[(1,.row 59 3 W.length (a0e wtC wt0 q.2) false),(2,.row 3 1 s.n (mdC (medW (pF ep b) W M q.1)) false)],fun _=>[],(i+1,W),⟨⟨⟨by dsimp only;omega,by dsimp only;omega⟩,rfl,fun a ha=>?_,fun a _=>rfl,by dsimp only;omega⟩,some [some 0,some 1,some 2,some 3,some 4,some 5,some 6],?_⟩,?_⟩
    ·dsimp only at ha ⊢
     rw[hk1] at ha
     rw[hs.1,hk0.1]
     simp[a0A,ha]
    ·dsimp only
     rw[hk1,hs.2,hk0.2]
     exact xc0
    ·rintro⟨j,G⟩ ⟨⟨h0,h1⟩,h2,h3,h4,h5⟩
     dsimp only at h0 h1 h2 h3 h4 h5 ⊢
     have htj:(j:Int).toNat=j:=a0E j
     have hte:(((a0i (pF ep b) W j).length:Nat):Int).toNat=(a0i (pF ep b) W j).length:=a0E _
     have hle:=keepW_le (pF ep b) W j
     refine x3 (fun hc=>?_) (fun hc=>?_)
     ·have hjl:j<W.length:=by omega
      rw[htj]
      have hgj:G.getD j wt0=W.getD j wt0:=h4 j (a0K _)
      rw[hgj]
      refine a0c [0,1,2,3,4,5,6] (wr166F s W.length W.length (a0e wtC wt0 G) false (medW (pF ep b) W M j) ep b k (W.getD j wt0) (hbg j hjl)) rfl ?_ ?_
      ·unfold wrHF
       exact xc0
      ·rintro _ _ ⟨M',hM',rfl,rfl⟩
       unfold wrHF
       refine x3 (fun hc=>?_) (fun hc=>?_)
       ·rw[if_neg hc] at hM'
        subst hM'
        have hs2:=(a1v (p:=(pF ep b)) (M:=M) hjl).2 hc
        have hsl:(a0i (pF ep b) W (j+1)).length=(a0i (pF ep b) W j).length+1:=by rw[hs2.1];simp
        refine⟨(j+1,G.set (a0i (pF ep b) W j).length (W.getD j wt0)),⟨⟨⟨by dsimp only;omega,by dsimp only;omega⟩,by dsimp only;rw[List.length_set];exact h2,fun a ha=>?_,fun a ha=>?_,by dsimp only;omega⟩,by dsimp only;omega⟩,some [some 0,some 1,some 2,some 3,some 4,some 5,some 6],?_⟩
        ·dsimp only at ha ⊢
         rw[hsl] at ha
         rw[hs2.1]
         by_cases hal:a<(a0i (pF ep b) W j).length
         ·have:=h3 a hal
          simp only[a0A,a0G,a1G] at this ⊢
          rw[if_neg (by omega),if_pos hal]
          exact this
         ·have:a=(a0i (pF ep b) W j).length:=by omega
          subst this
          generalize W.getD j wt0=x
          simp only[a0A,a0G,a1G]
          rw[if_pos trivial,if_pos (by omega),if_neg (by omega)]
          simp
        ·dsimp only at ha ⊢
         rw[←h4 a (by omega)]
         simp only[a0A,a0G]
         rw[if_neg (by omega)]
        ·dsimp only
         rw[hsl,hs2.2]
         refine x1 ?_
         refine⟨fun a _=>?_,?_⟩
         ·have:=rowW_set (G:=G) (e:=(a0i (pF ep b) W j).length) (by omega) (W.getD j wt0) a
          dsimp only
          rw[hte]
          exact this
         ·exact xc0
       ·rw[if_pos (a0O.1 hc)] at hM'
        subst hM'
        have hs2:=(a1v (p:=(pF ep b)) (M:=M) hjl).1 (a0O.1 hc)
        refine⟨(j+1,G),⟨⟨⟨by dsimp only;omega,by dsimp only;omega⟩,h2,fun a ha=>?_,fun a ha=>?_,by dsimp only;rw[hs2.1];omega⟩,by dsimp only;omega⟩,some [some 0,some 1,some 2,some 3,some 4,some 5,some 6],?_⟩
        ·dsimp only at ha ⊢
         rw[hs2.1] at ha ⊢
         exact h3 a ha
        ·dsimp only at ha ⊢
         exact h4 a (by omega)
        ·dsimp only
         rw[hs2.1,hs2.2]
         exact xc0
     ·have hjl:j=W.length:=by omega
      subst hjl
      refine⟨_,_,.inr ⟨fun q=>if q<(a0i (pF ep b) W W.length).length then a0e wtC wt0 (a0i (pF ep b) W W.length) q else wtC wt0,by omega,rfl,rfl,fun a ha=>by dsimp only;rw[if_pos ha]⟩,some [some 0,some 1,some 2,some 3,some 4,some 5,some 6],?_⟩
      refine x1 ?_
      refine⟨fun a ha=>?_,?_⟩
      ·dsimp only
       rw[hte]
       by_cases hal:a<(a0i (pF ep b) W W.length).length
       ·rw[if_neg (by omega),if_pos hal]
        unfold a0e
        rw[h3 a hal]
       ·rw[if_pos (by omega),if_neg hal]
        rfl
      ·exact xc0
 ·rintro v H (⟨rfl,hk,rfl⟩|⟨f,h0,rfl,rfl,hf⟩)
  ·left
   rw[hk.1,hk.2]
   exact⟨rfl,_,rfl⟩
  ·right
   refine⟨1,3,_,W.length,_,f,a0e wtC wt0 (a0i (pF ep b) W W.length),false,rfl,rfl,keepW_le _ _ _,h0,fun i hi=>(hf i hi).symm,rfl,false,rfl⟩
theorem del165F_true (s:Sv) (W:List Wt) (hW:W.length≤1000) (hb:∀w∈W,w.2.1<s.n) (M:Nat→Int) (ep b:Nat) (k:Int):Sx.Callee Tryz.prog 165 [.osl 1 W.length,.fn (.func 166) [] [.ptr 6 0,.ptr 5 0]] (wrHF s W.length W.length (a0e wtC wt0 W) true M ep b k)
  (fun v H=>v=.osl 1 (a0i ((pF ep b)) W W.length).length∧∃nz,H=wrHF s W.length (a0i ((pF ep b)) W W.length).length (a0e wtC wt0 (a0i ((pF ep b)) W W.length)) nz (medW ((pF ep b)) W M W.length) ep b k):=by
 have hbg:∀q,q<W.length→(W.getD q wt0).2.1<s.n:=fun q hq=>by rw[getW hq];exact hb _ (a0N hq)
 refine Callee.trunc (K:=fun v H=>(v=.osl 1 W.length∧(a0i (pF ep b) W W.length=W∧medW (pF ep b) W M W.length=M)∧H=wrHF s W.length W.length (a0e wtC wt0 W) true M ep b k)∨∃f:Nat→List V,0<W.length∧v=.win 1 3 0 (a0i (pF ep b) W W.length).length∧H=wrHF s W.length W.length f true (medW (pF ep b) W M W.length) ep b k∧∀i,i<(a0i (pF ep b) W W.length).length→f i=a0e wtC wt0 (a0i (pF ep b) W W.length) i) ?_ ?_
 ·refine a0k Tryz.E_ok Tryz.func165 rfl (by kernel_rfl) ?_
  unfold wrHF
  refine x1 ?_
  refine a0c [0,1,2,3,4,5,6] (idx184F_true s W hW hb M ep b k) rfl ?_ ?_
  ·unfold wrHF
   exact xc0
  ·rintro _ _ (⟨hall,rfl,rfl⟩|⟨i,hil,hall,hpi,rfl,rfl⟩)
   ·have hn:=a2z (p:=(pF ep b)) (a0K _) hall M
    rw[a2M] at hn
    unfold wrHF
    refine x1 (fun hc=>?_)
    refine⟨_,_,.inl ⟨rfl,hn,rfl⟩,some [some 0,some 1,some 2,some 3,some 4,some 5,some 6],?_⟩
    exact xc0
   ·have hk0:=a2z (p:=(pF ep b)) (show i≤W.length by omega) hall M
    have hs:=(a1v (p:=(pF ep b)) (M:=M) hil).1 hpi
    have hk1:(a0i (pF ep b) W (i+1)).length=i:=by rw[hs.1,hk0.1,a0J];omega
    unfold wrHF
    refine x1 (fun hc=>?_)
    refine⟨Nat×List Wt,fun q=>(i<q.1∧q.1≤W.length)∧q.2.length=W.length∧(∀a,a<(a0i (pF ep b) W q.1).length→q.2.getD a wt0=(a0i (pF ep b) W q.1).getD a wt0)∧(∀a,q.1≤a→q.2.getD a wt0=W.getD a wt0)∧(a0i (pF ep b) W q.1).length<q.1,fun q=>W.length-q.1,fun q=>[(5,.int .i64 ((a0i (pF ep b) W q.1).length:Nat)),(6,.int .i64 (q.1:Nat)),(7,.any)],fun q=>[(1,.row 59 3 W.length (a0e wtC wt0 q.2) true),(2,.row 3 1 s.n (mdC (medW (pF ep b) W M q.1)) false)],fun _=>[],(i+1,W),⟨⟨⟨by dsimp only;omega,by dsimp only;omega⟩,rfl,fun a ha=>?_,fun a _=>rfl,by dsimp only;omega⟩,some [some 0,some 1,some 2,some 3,some 4,some 5,some 6],?_⟩,?_⟩
    ·dsimp only at ha ⊢
     rw[hk1] at ha
     rw[hs.1,hk0.1]
     simp[a0A,ha]
    ·dsimp only
     rw[hk1,hs.2,hk0.2]
     exact xc0
    ·rintro⟨j,G⟩ ⟨⟨h0,h1⟩,h2,h3,h4,h5⟩
     dsimp only at h0 h1 h2 h3 h4 h5 ⊢
     have htj:(j:Int).toNat=j:=a0E j
     have hte:(((a0i (pF ep b) W j).length:Nat):Int).toNat=(a0i (pF ep b) W j).length:=a0E _
     have hle:=keepW_le (pF ep b) W j
     refine x3 (fun hc=>?_) (fun hc=>?_)
     ·have hjl:j<W.length:=by omega
      rw[htj]
      have hgj:G.getD j wt0=W.getD j wt0:=h4 j (a0K _)
      rw[hgj]
      refine a0c [0,1,2,3,4,5,6] (wr166F s W.length W.length (a0e wtC wt0 G) true (medW (pF ep b) W M j) ep b k (W.getD j wt0) (hbg j hjl)) rfl ?_ ?_
      ·unfold wrHF
       exact xc0
      ·rintro _ _ ⟨M',hM',rfl,rfl⟩
       unfold wrHF
       refine x3 (fun hc=>?_) (fun hc=>?_)
       ·rw[if_neg hc] at hM'
        subst hM'
        have hs2:=(a1v (p:=(pF ep b)) (M:=M) hjl).2 hc
        have hsl:(a0i (pF ep b) W (j+1)).length=(a0i (pF ep b) W j).length+1:=by rw[hs2.1];simp
        refine⟨(j+1,G.set (a0i (pF ep b) W j).length (W.getD j wt0)),⟨⟨⟨by dsimp only;omega,by dsimp only;omega⟩,by dsimp only;rw[List.length_set];exact h2,fun a ha=>?_,fun a ha=>?_,by dsimp only;omega⟩,by dsimp only;omega⟩,some [some 0,some 1,some 2,some 3,some 4,some 5,some 6],?_⟩
        ·dsimp only at ha ⊢
         rw[hsl] at ha
         rw[hs2.1]
         by_cases hal:a<(a0i (pF ep b) W j).length
         ·have:=h3 a hal
          simp only[a0A,a0G,a1G] at this ⊢
          rw[if_neg (by omega),if_pos hal]
          exact this
         ·have:a=(a0i (pF ep b) W j).length:=by omega
          subst this
          generalize W.getD j wt0=x
          simp only[a0A,a0G,a1G]
          rw[if_pos trivial,if_pos (by omega),if_neg (by omega)]
          simp
        ·dsimp only at ha ⊢
         rw[←h4 a (by omega)]
         simp only[a0A,a0G]
         rw[if_neg (by omega)]
        ·dsimp only
         rw[hsl,hs2.2]
         refine x1 ?_
         refine⟨fun a _=>?_,?_⟩
         ·have:=rowW_set (G:=G) (e:=(a0i (pF ep b) W j).length) (by omega) (W.getD j wt0) a
          dsimp only
          rw[hte]
          exact this
         ·exact xc0
       ·rw[if_pos (a0O.1 hc)] at hM'
        subst hM'
        have hs2:=(a1v (p:=(pF ep b)) (M:=M) hjl).1 (a0O.1 hc)
        refine⟨(j+1,G),⟨⟨⟨by dsimp only;omega,by dsimp only;omega⟩,h2,fun a ha=>?_,fun a ha=>?_,by dsimp only;rw[hs2.1];omega⟩,by dsimp only;omega⟩,some [some 0,some 1,some 2,some 3,some 4,some 5,some 6],?_⟩
        ·dsimp only at ha ⊢
         rw[hs2.1] at ha ⊢
         exact h3 a ha
        ·dsimp only at ha ⊢
         exact h4 a (by omega)
        ·dsimp only
         rw[hs2.1,hs2.2]
         exact xc0
     ·have hjl:j=W.length:=by omega
      subst hjl
      refine⟨_,_,.inr ⟨fun q=>if q<(a0i (pF ep b) W W.length).length then a0e wtC wt0 (a0i (pF ep b) W W.length) q else wtC wt0,by omega,rfl,rfl,fun a ha=>by dsimp only;rw[if_pos ha]⟩,some [some 0,some 1,some 2,some 3,some 4,some 5,some 6],?_⟩
      refine x1 ?_
      refine⟨fun a ha=>?_,?_⟩
      ·dsimp only
       rw[hte]
       by_cases hal:a<(a0i (pF ep b) W W.length).length
       ·rw[if_neg (by omega),if_pos hal]
        unfold a0e
        rw[h3 a hal]
       ·rw[if_pos (by omega),if_neg hal]
        rfl
      ·exact xc0
 ·rintro v H (⟨rfl,hk,rfl⟩|⟨f,h0,rfl,rfl,hf⟩)
  ·left
   rw[hk.1,hk.2]
   exact⟨rfl,_,rfl⟩
  ·right
   refine⟨1,3,_,W.length,_,f,a0e wtC wt0 (a0i (pF ep b) W W.length),true,rfl,rfl,keepW_le _ _ _,h0,fun i hi=>(hf i hi).symm,rfl,false,rfl⟩
theorem del165A_false (s:Sv) (W:List Wt) (hW:W.length≤1000) (hb:∀w∈W,w.2.1<s.n) (M:Nat→Int):Sx.Callee Tryz.prog 165 [.osl 1 W.length,.fn (.func 166) [] [.ptr 4 0,.ptr 3 0]] (wrHA s W.length W.length (a0e wtC wt0 W) false M)
  (fun v H=>v=.osl 1 (a0i (pA) W W.length).length∧∃nz,H=wrHA s W.length (a0i (pA) W W.length).length (a0e wtC wt0 (a0i (pA) W W.length)) nz (medW (pA) W M W.length)):=by
 have hbg:∀q,q<W.length→(W.getD q wt0).2.1<s.n:=fun q hq=>by rw[getW hq];exact hb _ (a0N hq)
 refine Callee.trunc (K:=fun v H=>(v=.osl 1 W.length∧(a0i pA W W.length=W∧medW pA W M W.length=M)∧H=wrHA s W.length W.length (a0e wtC wt0 W) false M)∨∃f:Nat→List V,0<W.length∧v=.win 1 3 0 (a0i pA W W.length).length∧H=wrHA s W.length W.length f false (medW pA W M W.length)∧∀i,i<(a0i pA W W.length).length→f i=a0e wtC wt0 (a0i pA W W.length) i) ?_ ?_
 ·refine a0k Tryz.E_ok Tryz.func165 rfl (by kernel_rfl) ?_
  unfold wrHA
  refine x1 ?_
  refine a0c [0,1,2,3,4] (idx184A_false s W hW hb M) rfl ?_ ?_
  ·unfold wrHA
   exact xc0
  ·rintro _ _ (⟨hall,rfl,rfl⟩|⟨i,hil,hall,hpi,rfl,rfl⟩)
   ·have hn:=a2z (p:=pA) (a0K _) hall M
    rw[a2M] at hn
    unfold wrHA
    refine x1 (fun hc=>?_)
    refine⟨_,_,.inl ⟨rfl,hn,rfl⟩,some [some 0,some 1,some 2,some 3,some 4],?_⟩
    exact xc0
   ·have hk0:=a2z (p:=pA) (show i≤W.length by omega) hall M
    have hs:=(a1v (p:=pA) (M:=M) hil).1 hpi
    have hk1:(a0i pA W (i+1)).length=i:=by rw[hs.1,hk0.1,a0J];omega
    unfold wrHA
    refine x1 (fun hc=>?_)
    refine⟨Nat×List Wt,fun q=>(i<q.1∧q.1≤W.length)∧q.2.length=W.length∧(∀a,a<(a0i pA W q.1).length→q.2.getD a wt0=(a0i pA W q.1).getD a wt0)∧(∀a,q.1≤a→q.2.getD a wt0=W.getD a wt0)∧(a0i pA W q.1).length<q.1,fun q=>W.length-q.1,fun q=>[(5,.int .i64 ((a0i pA W q.1).length:Nat)),(6,.int .i64 (q.1:Nat)),(7,.any)],fun q=>[(1,.row 59 3 W.length (a0e wtC wt0 q.2) false),(2,.row 3 1 s.n (mdC (medW pA W M q.1)) false)],fun _=>[],(i+1,W),⟨⟨⟨by dsimp only;omega,by dsimp only;omega⟩,rfl,fun a ha=>?_,fun a _=>rfl,by dsimp only;omega⟩,some [some 0,some 1,some 2,some 3,some 4],?_⟩,?_⟩
    ·dsimp only at ha ⊢
     rw[hk1] at ha
     rw[hs.1,hk0.1]
     simp[a0A,ha]
    ·dsimp only
     rw[hk1,hs.2,hk0.2]
     exact xc0
    ·rintro⟨j,G⟩ ⟨⟨h0,h1⟩,h2,h3,h4,h5⟩
     dsimp only at h0 h1 h2 h3 h4 h5 ⊢
     have htj:(j:Int).toNat=j:=a0E j
     have hte:(((a0i pA W j).length:Nat):Int).toNat=(a0i pA W j).length:=a0E _
     have hle:=keepW_le pA W j
     refine x3 (fun hc=>?_) (fun hc=>?_)
     ·have hjl:j<W.length:=by omega
      rw[htj]
      have hgj:G.getD j wt0=W.getD j wt0:=h4 j (a0K _)
      rw[hgj]
      refine a0c [0,1,2,3,4] (wr166A s W.length W.length (a0e wtC wt0 G) false (medW pA W M j) (W.getD j wt0) (hbg j hjl)) rfl ?_ ?_
      ·unfold wrHA
       exact xc0
      ·rintro _ _ ⟨M',hM',rfl,rfl⟩
       unfold wrHA
       refine x3 (fun hc=>?_) (fun hc=>?_)
       ·rw[if_neg hc] at hM'
        subst hM'
        have hs2:=(a1v (p:=pA) (M:=M) hjl).2 hc
        have hsl:(a0i pA W (j+1)).length=(a0i pA W j).length+1:=by rw[hs2.1];simp
        refine⟨(j+1,G.set (a0i pA W j).length (W.getD j wt0)),⟨⟨⟨by dsimp only;omega,by dsimp only;omega⟩,by dsimp only;rw[List.length_set];exact h2,fun a ha=>?_,fun a ha=>?_,by dsimp only;omega⟩,by dsimp only;omega⟩,some [some 0,some 1,some 2,some 3,some 4],?_⟩
        ·dsimp only at ha ⊢
         rw[hsl] at ha
         rw[hs2.1]
         by_cases hal:a<(a0i pA W j).length
         ·have:=h3 a hal
          simp only[a0A,a0G,a1G] at this ⊢
          rw[if_neg (by omega),if_pos hal]
          exact this
         ·have:a=(a0i pA W j).length:=by omega
          subst this
          generalize W.getD j wt0=x
          simp only[a0A,a0G,a1G]
          rw[if_pos trivial,if_pos (by omega),if_neg (by omega)]
          simp
        ·dsimp only at ha ⊢
         rw[←h4 a (by omega)]
         simp only[a0A,a0G]
         rw[if_neg (by omega)]
        ·dsimp only
         rw[hsl,hs2.2]
         refine x1 ?_
         refine⟨fun a _=>?_,?_⟩
         ·have:=rowW_set (G:=G) (e:=(a0i pA W j).length) (by omega) (W.getD j wt0) a
          dsimp only
          rw[hte]
          exact this
         ·exact xc0
       ·rw[if_pos (a0O.1 hc)] at hM'
        subst hM'
        have hs2:=(a1v (p:=pA) (M:=M) hjl).1 (a0O.1 hc)
        refine⟨(j+1,G),⟨⟨⟨by dsimp only;omega,by dsimp only;omega⟩,h2,fun a ha=>?_,fun a ha=>?_,by dsimp only;rw[hs2.1];omega⟩,by dsimp only;omega⟩,some [some 0,some 1,some 2,some 3,some 4],?_⟩
        ·dsimp only at ha ⊢
         rw[hs2.1] at ha ⊢
         exact h3 a ha
        ·dsimp only at ha ⊢
         exact h4 a (by omega)
        ·dsimp only
         rw[hs2.1,hs2.2]
         exact xc0
     ·have hjl:j=W.length:=by omega
      subst hjl
      refine⟨_,_,.inr ⟨fun q=>if q<(a0i pA W W.length).length then a0e wtC wt0 (a0i pA W W.length) q else wtC wt0,by omega,rfl,rfl,fun a ha=>by dsimp only;rw[if_pos ha]⟩,some [some 0,some 1,some 2,some 3,some 4],?_⟩
      refine x1 ?_
      refine⟨fun a ha=>?_,?_⟩
      ·dsimp only
       rw[hte]
       by_cases hal:a<(a0i pA W W.length).length
       ·rw[if_neg (by omega),if_pos hal]
        unfold a0e
        rw[h3 a hal]
       ·rw[if_pos (by omega),if_neg hal]
        rfl
      ·exact xc0
 ·rintro v H (⟨rfl,hk,rfl⟩|⟨f,h0,rfl,rfl,hf⟩)
  ·left
   rw[hk.1,hk.2]
   exact⟨rfl,_,rfl⟩
  ·right
   refine⟨1,3,_,W.length,_,f,a0e wtC wt0 (a0i pA W W.length),false,rfl,rfl,keepW_le _ _ _,h0,fun i hi=>(hf i hi).symm,rfl,false,rfl⟩
theorem del165A_true (s:Sv) (W:List Wt) (hW:W.length≤1000) (hb:∀w∈W,w.2.1<s.n) (M:Nat→Int):Sx.Callee Tryz.prog 165 [.osl 1 W.length,.fn (.func 166) [] [.ptr 4 0,.ptr 3 0]] (wrHA s W.length W.length (a0e wtC wt0 W) true M)
  (fun v H=>v=.osl 1 (a0i (pA) W W.length).length∧∃nz,H=wrHA s W.length (a0i (pA) W W.length).length (a0e wtC wt0 (a0i (pA) W W.length)) nz (medW (pA) W M W.length)):=by
 have hbg:∀q,q<W.length→(W.getD q wt0).2.1<s.n:=fun q hq=>by rw[getW hq];exact hb _ (a0N hq)
 refine Callee.trunc (K:=fun v H=>(v=.osl 1 W.length∧(a0i pA W W.length=W∧medW pA W M W.length=M)∧H=wrHA s W.length W.length (a0e wtC wt0 W) true M)∨∃f:Nat→List V,0<W.length∧v=.win 1 3 0 (a0i pA W W.length).length∧H=wrHA s W.length W.length f true (medW pA W M W.length)∧∀i,i<(a0i pA W W.length).length→f i=a0e wtC wt0 (a0i pA W W.length) i) ?_ ?_
 ·refine a0k Tryz.E_ok Tryz.func165 rfl (by kernel_rfl) ?_
  unfold wrHA
  refine x1 ?_
  refine a0c [0,1,2,3,4] (idx184A_true s W hW hb M) rfl ?_ ?_
  ·unfold wrHA
   exact xc0
  ·rintro _ _ (⟨hall,rfl,rfl⟩|⟨i,hil,hall,hpi,rfl,rfl⟩)
   ·have hn:=a2z (p:=pA) (a0K _) hall M
    rw[a2M] at hn
    unfold wrHA
    refine x1 (fun hc=>?_)
    refine⟨_,_,.inl ⟨rfl,hn,rfl⟩,some [some 0,some 1,some 2,some 3,some 4],?_⟩
    exact xc0
   ·have hk0:=a2z (p:=pA) (show i≤W.length by omega) hall M
    have hs:=(a1v (p:=pA) (M:=M) hil).1 hpi
    have hk1:(a0i pA W (i+1)).length=i:=by rw[hs.1,hk0.1,a0J];omega
    unfold wrHA
    refine x1 (fun hc=>?_)
    refine⟨Nat×List Wt,fun q=>(i<q.1∧q.1≤W.length)∧q.2.length=W.length∧(∀a,a<(a0i pA W q.1).length→q.2.getD a wt0=(a0i pA W q.1).getD a wt0)∧(∀a,q.1≤a→q.2.getD a wt0=W.getD a wt0)∧(a0i pA W q.1).length<q.1,fun q=>W.length-q.1,fun q=>[(5,.int .i64 ((a0i pA W q.1).length:Nat)),(6,.int .i64 (q.1:Nat)),(7,.any)],fun q=>[(1,.row 59 3 W.length (a0e wtC wt0 q.2) true),(2,.row 3 1 s.n (mdC (medW pA W M q.1)) false)],fun _=>[],(i+1,W),⟨⟨⟨by dsimp only;omega,by dsimp only;omega⟩,rfl,fun a ha=>?_,fun a _=>rfl,by dsimp only;omega⟩,some [some 0,some 1,some 2,some 3,some 4],?_⟩,?_⟩
    ·dsimp only at ha ⊢
     rw[hk1] at ha
     rw[hs.1,hk0.1]
     simp[a0A,ha]
    ·dsimp only
     rw[hk1,hs.2,hk0.2]
     exact xc0
    ·rintro⟨j,G⟩ ⟨⟨h0,h1⟩,h2,h3,h4,h5⟩
     dsimp only at h0 h1 h2 h3 h4 h5 ⊢
     have htj:(j:Int).toNat=j:=a0E j
     have hte:(((a0i pA W j).length:Nat):Int).toNat=(a0i pA W j).length:=a0E _
     have hle:=keepW_le pA W j
     refine x3 (fun hc=>?_) (fun hc=>?_)
     ·have hjl:j<W.length:=by omega
      rw[htj]
      have hgj:G.getD j wt0=W.getD j wt0:=h4 j (a0K _)
      rw[hgj]
      refine a0c [0,1,2,3,4] (wr166A s W.length W.length (a0e wtC wt0 G) true (medW pA W M j) (W.getD j wt0) (hbg j hjl)) rfl ?_ ?_
      ·unfold wrHA
       exact xc0
      ·rintro _ _ ⟨M',hM',rfl,rfl⟩
       unfold wrHA
       refine x3 (fun hc=>?_) (fun hc=>?_)
       ·rw[if_neg hc] at hM'
        subst hM'
        have hs2:=(a1v (p:=pA) (M:=M) hjl).2 hc
        have hsl:(a0i pA W (j+1)).length=(a0i pA W j).length+1:=by rw[hs2.1];simp
        refine⟨(j+1,G.set (a0i pA W j).length (W.getD j wt0)),⟨⟨⟨by dsimp only;omega,by dsimp only;omega⟩,by dsimp only;rw[List.length_set];exact h2,fun a ha=>?_,fun a ha=>?_,by dsimp only;omega⟩,by dsimp only;omega⟩,some [some 0,some 1,some 2,some 3,some 4],?_⟩
        ·dsimp only at ha ⊢
         rw[hsl] at ha
         rw[hs2.1]
         by_cases hal:a<(a0i pA W j).length
         ·have:=h3 a hal
          simp only[a0A,a0G,a1G] at this ⊢
          rw[if_neg (by omega),if_pos hal]
          exact this
         ·have:a=(a0i pA W j).length:=by omega
          subst this
          generalize W.getD j wt0=x
          simp only[a0A,a0G,a1G]
          rw[if_pos trivial,if_pos (by omega),if_neg (by omega)]
          simp
        ·dsimp only at ha ⊢
         rw[←h4 a (by omega)]
         simp only[a0A,a0G]
         rw[if_neg (by omega)]
        ·dsimp only
         rw[hsl,hs2.2]
         refine x1 ?_
         refine⟨fun a _=>?_,?_⟩
         ·have:=rowW_set (G:=G) (e:=(a0i pA W j).length) (by omega) (W.getD j wt0) a
          dsimp only
          rw[hte]
          exact this
         ·exact xc0
       ·rw[if_pos (a0O.1 hc)] at hM'
        subst hM'
        have hs2:=(a1v (p:=pA) (M:=M) hjl).1 (a0O.1 hc)
        refine⟨(j+1,G),⟨⟨⟨by dsimp only;omega,by dsimp only;omega⟩,h2,fun a ha=>?_,fun a ha=>?_,by dsimp only;rw[hs2.1];omega⟩,by dsimp only;omega⟩,some [some 0,some 1,some 2,some 3,some 4],?_⟩
        ·dsimp only at ha ⊢
         rw[hs2.1] at ha ⊢
         exact h3 a ha
        ·dsimp only at ha ⊢
         exact h4 a (by omega)
        ·dsimp only
         rw[hs2.1,hs2.2]
         exact xc0
     ·have hjl:j=W.length:=by omega
      subst hjl
      refine⟨_,_,.inr ⟨fun q=>if q<(a0i pA W W.length).length then a0e wtC wt0 (a0i pA W W.length) q else wtC wt0,by omega,rfl,rfl,fun a ha=>by dsimp only;rw[if_pos ha]⟩,some [some 0,some 1,some 2,some 3,some 4],?_⟩
      refine x1 ?_
      refine⟨fun a ha=>?_,?_⟩
      ·dsimp only
       rw[hte]
       by_cases hal:a<(a0i pA W W.length).length
       ·rw[if_neg (by omega),if_pos hal]
        unfold a0e
        rw[h3 a hal]
       ·rw[if_pos (by omega),if_neg hal]
        rfl
      ·exact xc0
 ·rintro v H (⟨rfl,hk,rfl⟩|⟨f,h0,rfl,rfl,hf⟩)
  ·left
   rw[hk.1,hk.2]
   exact⟨rfl,_,rfl⟩
  ·right
   refine⟨1,3,_,W.length,_,f,a0e wtC wt0 (a0i pA W W.length),true,rfl,rfl,keepW_le _ _ _,h0,fun i hi=>(hf i hi).symm,rfl,false,rfl⟩
theorem write128F_false (s:Sv) (W:List Wt) (hW:W.length≤1000) (hb:∀w∈W,w.2.1<s.n) (M:Nat→Int) (ep b:Nat) (k:Int):Sx.Callee Tryz.prog 128 [.ptr 0 0,.fn (.func 129) [] [.ptr 3 0,.ptr 4 0]] [.cells 107 (s.o 1 W.length 2),.row 59 3 W.length (a0e wtC wt0 W) false,.row 3 1 s.n (mdC M) false,.cells 3 [.int .i64 (ep:Nat)],.cells 76 [.int .i64 k,.int .i64 (b:Nat)]]
  (fun v H=>v=.tup []∧∃nz,H=[.cells 107 (s.o 1 (a0i (pF ep b) W W.length).length 2),.row 59 3 (a0i (pF ep b) W W.length).length (a0e wtC wt0 (a0i (pF ep b) W W.length)) nz,.row 3 1 s.n (mdC (medW (pF ep b) W M W.length)) false,.cells 3 [.int .i64 (ep:Nat)],.cells 76 [.int .i64 k,.int .i64 (b:Nat)]]):=by
 refine a0k Tryz.E_ok Tryz.func128 rfl (by kernel_rfl) ?_
 refine x20 ?_
 refine a0c [0,1,2,3,4,5,6] (del165F_false s W hW hb M ep b k) rfl ?_ ?_
 ·unfold wrHF
  exact xc19
 ·rintro _ _ ⟨rfl,nz,rfl⟩
  generalize a0i (pF ep b) W W.length=L
  unfold wrHF
  rcases nz with _|_
  ·refine x20 ?_
   refine⟨_,_,⟨rfl,false,rfl⟩,some [some 0,some 1,some 2,some 3,some 4],?_⟩
   exact xc19
  ·refine x20 ?_
   refine⟨_,_,⟨rfl,true,rfl⟩,some [some 0,some 1,some 2,some 3,some 4],?_⟩
   exact xc19
theorem write128F_true (s:Sv) (W:List Wt) (hW:W.length≤1000) (hb:∀w∈W,w.2.1<s.n) (M:Nat→Int) (ep b:Nat) (k:Int):Sx.Callee Tryz.prog 128 [.ptr 0 0,.fn (.func 129) [] [.ptr 3 0,.ptr 4 0]] [.cells 107 (s.o 1 W.length 2),.row 59 3 W.length (a0e wtC wt0 W) true,.row 3 1 s.n (mdC M) false,.cells 3 [.int .i64 (ep:Nat)],.cells 76 [.int .i64 k,.int .i64 (b:Nat)]]
  (fun v H=>v=.tup []∧∃nz,H=[.cells 107 (s.o 1 (a0i (pF ep b) W W.length).length 2),.row 59 3 (a0i (pF ep b) W W.length).length (a0e wtC wt0 (a0i (pF ep b) W W.length)) nz,.row 3 1 s.n (mdC (medW (pF ep b) W M W.length)) false,.cells 3 [.int .i64 (ep:Nat)],.cells 76 [.int .i64 k,.int .i64 (b:Nat)]]):=by
 refine a0k Tryz.E_ok Tryz.func128 rfl (by kernel_rfl) ?_
 refine x20 ?_
 refine a0c [0,1,2,3,4,5,6] (del165F_true s W hW hb M ep b k) rfl ?_ ?_
 ·unfold wrHF
  exact xc19
 ·rintro _ _ ⟨rfl,nz,rfl⟩
  generalize a0i (pF ep b) W W.length=L
  unfold wrHF
  rcases nz with _|_
  ·refine x20 ?_
   refine⟨_,_,⟨rfl,false,rfl⟩,some [some 0,some 1,some 2,some 3,some 4],?_⟩
   exact xc19
  ·refine x20 ?_
   refine⟨_,_,⟨rfl,true,rfl⟩,some [some 0,some 1,some 2,some 3,some 4],?_⟩
   exact xc19
theorem write128A_false (s:Sv) (W:List Wt) (hW:W.length≤1000) (hb:∀w∈W,w.2.1<s.n) (M:Nat→Int):Sx.Callee Tryz.prog 128 [.ptr 0 0,.fn (.func 130) [] []] [.cells 107 (s.o 1 W.length 2),.row 59 3 W.length (a0e wtC wt0 W) false,.row 3 1 s.n (mdC M) false]
  (fun v H=>v=.tup []∧∃nz,H=[.cells 107 (s.o 1 (a0i pA W W.length).length 2),.row 59 3 (a0i pA W W.length).length (a0e wtC wt0 (a0i pA W W.length)) nz,.row 3 1 s.n (mdC (medW pA W M W.length)) false]):=by
 refine a0k Tryz.E_ok Tryz.func128 rfl (by kernel_rfl) ?_
 refine x20 ?_
 refine a0c [0,1,2,3,4] (del165A_false s W hW hb M) rfl ?_ ?_
 ·unfold wrHA
  exact xc19
 ·rintro _ _ ⟨rfl,nz,rfl⟩
  generalize a0i pA W W.length=L
  unfold wrHA
  rcases nz with _|_
  ·refine x20 ?_
   refine⟨_,_,⟨rfl,false,rfl⟩,some [some 0,some 1,some 2],?_⟩
   exact xc19
  ·refine x20 ?_
   refine⟨_,_,⟨rfl,true,rfl⟩,some [some 0,some 1,some 2],?_⟩
   exact xc19
theorem write128A_true (s:Sv) (W:List Wt) (hW:W.length≤1000) (hb:∀w∈W,w.2.1<s.n) (M:Nat→Int):Sx.Callee Tryz.prog 128 [.ptr 0 0,.fn (.func 130) [] []] [.cells 107 (s.o 1 W.length 2),.row 59 3 W.length (a0e wtC wt0 W) true,.row 3 1 s.n (mdC M) false]
  (fun v H=>v=.tup []∧∃nz,H=[.cells 107 (s.o 1 (a0i pA W W.length).length 2),.row 59 3 (a0i pA W W.length).length (a0e wtC wt0 (a0i pA W W.length)) nz,.row 3 1 s.n (mdC (medW pA W M W.length)) false]):=by
 refine a0k Tryz.E_ok Tryz.func128 rfl (by kernel_rfl) ?_
 refine x20 ?_
 refine a0c [0,1,2,3,4] (del165A_true s W hW hb M) rfl ?_ ?_
 ·unfold wrHA
  exact xc19
 ·rintro _ _ ⟨rfl,nz,rfl⟩
  generalize a0i pA W W.length=L
  unfold wrHA
  rcases nz with _|_
  ·refine x20 ?_
   refine⟨_,_,⟨rfl,false,rfl⟩,some [some 0,some 1,some 2],?_⟩
   exact xc19
  ·refine x20 ?_
   refine⟨_,_,⟨rfl,true,rfl⟩,some [some 0,some 1,some 2],?_⟩
   exact xc19
theorem upW {W:List Wt} (hp:W.Pairwise ltK):∀a b,a<b→b<W.length→ltK (W.getD a wt0) (W.getD b wt0):=fun a b hab hb=>by
 rw[a0T] at hp
 rw[getW (by omega),getW hb]
 exact hp a b (by omega) hb hab
def IsPos (W:List Wt) (w:Wt) (i:Nat):Prop:=i≤W.length∧(∀k,k<i→ltK (W.getD k wt0) w)∧∀k,i≤k→k<W.length→¬ltK (W.getD k wt0) w
theorem isPos_ex {W:List Wt} (hp:W.Pairwise ltK) (w:Wt):∃i,IsPos W w i:=by
 have h:∀m,m≤W.length→∃i,i≤m∧(∀k,k<i→ltK (W.getD k wt0) w)∧∀k,i≤k→k<m→¬ltK (W.getD k wt0) w:=by
  intro m
  induction m with
  |zero=>intro _;exact⟨0,a0K _,fun k hk=>by omega,fun k _ hk=>by omega⟩
  |succ m ih=>
   intro hm
   obtain⟨i,h1,h2,h3⟩:=ih (by omega)
   by_cases g:ltK (W.getD m wt0) w
   ·rcases a0I h1 with g2|g2
    ·exact absurd (Ca.ltK_trans (upW hp i m g2 (by omega)) g) (h3 i (a0K _) g2)
    ·subst g2
     refine⟨i+1,a0K _,fun k hk=>?_,fun k hk hk2=>by omega⟩
     rcases a0I (a2C hk) with g3|g3
     ·exact h2 k g3
     ·rw[g3];exact g
   ·refine⟨i,by omega,h2,fun k hk hk2=>?_⟩
    rcases a0I (a2C hk2) with g3|g3
    ·exact h3 k hk g3
    ·rw[g3];exact g
 obtain⟨i,h1,h2,h3⟩:=h W.length (a0K _)
 exact⟨i,h1,h2,h3⟩
theorem IsPos.uniq {W:List Wt} {w:Wt} {i j:Nat} (h:IsPos W w i) (k:IsPos W w j):i=j:=by
 rcases a3G i j with g|g|g
 ·exact absurd (k.2.1 i g) (h.2.2 i (a0K _) (by have:=k.1;omega))
 ·exact g
 ·exact absurd (h.2.1 j g) (k.2.2 j (a0K _) (by have:=h.1;omega))
theorem bsearch (W:List Wt) (hW:W.length≤1000) (hs:∀w∈W,WtS w) (hp:W.Pairwise ltK) (w:Wt) (hw:WtS w) (i:Nat) (hi:IsPos W w i):a0g Tryz.prog 125 false [.sl 3 W.length (a0e wtC wt0 W),.agg (wtC w),.fn (.func 126) [] []]
  (·=.tup [.int .i64 i,.prop (i<W.length∧cmpW (W.getD i wt0) w=0) (Classical.propDecidable _)]):=
 (bsearch125 W hW hs hp w hw).mono fun v ⟨j,h1,h2,h3,e⟩=>by
  have:=IsPos.uniq hi ⟨h1,h2,h3⟩
  subst this
  exact e
def PutL (W:List Wt) (w:Wt) (L:List Wt):Prop:=∃a m c,W=a++m++c∧(∀x∈a,ltK x w)∧(∀x∈m,x.1=w.1∧x.2.1=w.2.1)∧(∀x∈c,ltK w x)∧L=a++w :: c
theorem putL_new {W:List Wt} (hp:W.Pairwise ltK) {w:Wt} {i:Nat} (hi:IsPos W w i) (hn:¬(i<W.length∧cmpW (W.getD i wt0) w=0)):PutL W w (W.take i++w :: W.drop i):=by
 refine⟨W.take i,[],W.drop i,by simp,fun x hx=>?_,by simp,fun x hx=>?_,rfl⟩
 ·obtain⟨k,hk,rfl⟩:=a1A hx
  rw[a0J] at hk
  have:=hi.2.1 k (by omega)
  rw[getW (by omega)] at this
  rwa [List.getElem_take]
 ·obtain⟨k,hk,rfl⟩:=a1A hx
  rw[a1E] at hk
  have h1:=hi.2.2 (i+k) (by omega) (by omega)
  rw[getW (by omega)] at h1
  rw[List.getElem_drop]
  have h0:i<W.length:=by omega
  have hne:¬cmpW (W.getD i wt0) w=0:=fun g=>hn ⟨h0,g⟩
  have hi0:=hi.2.2 i (a0K _) h0
  rw[cmpW_eq] at hne
  have hlt:ltK w (W.getD i wt0):=by unfold ltK at hi0 ⊢;omega
  rcases a3C k with g|g
  ·subst g
   rw[getW h0] at hlt
   exact hlt
  ·have:=Ca.ltK_trans hlt (upW hp i (i+k) (by omega) (by omega))
   rw[getW (by omega)] at this
   exact this
theorem putL_old {W:List Wt} (hp:W.Pairwise ltK) {w:Wt} {i:Nat} (hi:IsPos W w i) (h:i<W.length∧cmpW (W.getD i wt0) w=0):PutL W w (W.set i w):=by
 have hk:=(cmpW_eq _ _).1 h.2
 refine⟨W.take i,[W[i]'h.1],W.drop (i+1),?_,fun x hx=>?_,fun x hx=>?_,fun x hx=>?_,?_⟩
 ·rw[a1P,List.singleton_append,←a2A h.1,a1T]
 ·obtain⟨k,hk,rfl⟩:=a1A hx
  rw[a0J] at hk
  have:=hi.2.1 k (by omega)
  rw[getW (by omega)] at this
  rwa [List.getElem_take]
 ·rw[a1B] at hx
  subst hx
  rw[getW h.1] at hk
  exact hk
 ·obtain⟨k,hk2,rfl⟩:=a1A hx
  rw[a1E] at hk2
  rw[List.getElem_drop]
  have:=upW hp i (i+1+k) (by omega) (by omega)
  rw[getW (show i+1+k<W.length by omega)] at this
  unfold ltK at this ⊢
  omega
 ·rw[List.set_eq_take_append_cons_drop,if_pos h.1]
theorem rowW_ins {W:List Wt} {i:Nat} (hi:i≤W.length) (w:Wt) (j:Nat):insF i (wtC w) (a0e wtC wt0 W) j=a0e wtC wt0 (W.take i++w :: W.drop i) j:=by
 have hl:(W.take i).length=i:=by rw[a0J];omega
 unfold insF a0e
 by_cases h1:j<i
 ·rw[if_pos h1]
  simp only[a0A]
  rw[a0F (by omega),a1U h1]
 ·rw[if_neg h1]
  by_cases h2:j=i
  ·subst h2
   rw[if_pos rfl]
   simp only[a0A]
   rw[a0S (by omega),hl,Nat.sub_self]
   rfl
  ·rw[if_neg h2]
   simp only[a0A]
   rw[a0S (by omega),hl]
   obtain⟨q,rfl⟩:∃q,j=i+1+q:=⟨j-i-1,by omega⟩
   rw[show i+1+q-i=q+1 by omega,List.getElem?_cons_succ,a0R,show i+1+q-1=i+q by omega]
theorem rowW_put {W:List Wt} {i:Nat} (hi:i<W.length) {w:Wt} (h:(W.getD i wt0).1=w.1∧(W.getD i wt0).2.1=w.2.1) (j:Nat):a2d (j=i) (a0e wtC wt0 W j) 2 [.int .i64 w.2.2]=a0e wtC wt0 (W.set i w) j:=by
 unfold a0e
 by_cases hj:j=i
 ·subst hj
  rw[a0w rfl]
  have e:(W.set j w).getD j wt0=w:=by simp[a0A,hi]
  rw[e]
  unfold wtC
  rw[h.1,h.2]
  rfl
 ·rw[a0t hj]
  simp[a0A,show ¬i=j from fun g=>hj g.symm]
theorem put124_false (s:Sv) (W:List Wt) (hW:W.length≤999) (hs:∀w∈W,WtS w) (hp:W.Pairwise ltK) (M:Nat→Int) (w:Wt) (hw:WtS w):Sx.Callee Tryz.prog 124 [.agg (wtC w),.ptr 3 0] [.cells 107 (s.o 1 W.length 2),.row 59 3 W.length (a0e wtC wt0 W) false,.row 3 1 s.n (mdC M) false,.cells 89 [.ptr 0 0]]
  (fun v H=>v=.tup []∧∃L,PutL W w L∧(H=[.cells 107 (s.o 1 L.length 2),.row 59 3 L.length (a0e wtC wt0 L) false,.row 3 1 s.n (mdC M) false,.cells 89 [.ptr 0 0]]∨H=[.cells 107 (s.o 4 L.length 2),.gone,.row 3 1 s.n (mdC M) false,.cells 89 [.ptr 0 0],.row 59 3 L.length (a0e wtC wt0 L) false])):=by
 obtain⟨i,hi⟩:=isPos_ex hp w
 have hti:(i:Int).toNat=i:=a0E i
 have hil:=hi.1
 refine a0k Tryz.E_ok Tryz.func124 rfl (by kernel_rfl) ?_
 refine x40 ?_
 refine pcall_view (bsearch W (by omega) hs hp w hw i hi) ?_ ?_
 ·exact xc39
 ·(repeat' ((conv=>whnf);first|(with_reducible first|apply spl|apply spl'|refine iJ ?_)<;>intro hc<;>try(exfalso;omega)|refine vcq ?_|refine dr 2008 ?_|refine dr 11 ?_));all_goals(try conv=>whnf);try exact trivial
  ·have hc2:=hc
   obtain⟨hlt,heq⟩:=hc2
   have hk:=(cmpW_eq _ _).1 heq
   clear hc
   have hsl:(W.set i w).length=W.length:=a2H
   refine⟨_,_,⟨rfl,W.set i w,putL_old hp hi ⟨hlt,heq⟩,.inl rfl⟩,some [some 0,some 1,some 2,some 3],?_⟩
   rw[hsl]
   refine x40 ?_
   refine⟨fun j _=>?_,?_⟩
   ·dsimp only
    rw[hti]
    exact rowW_put hlt hk j
   ·exact xc39
  ·have hne:¬(i<W.length∧cmpW (W.getD i wt0) w=0):=hc
   clear hc
   have hll:(W.take i++w :: W.drop i).length=W.length+1:=by rw[a0M,a2R,a0J,a1E];omega
   refine a0c [1,5] (callee_insert (n:=W.length) (i:=i) (f:=a0e wtC wt0 W) (c:=wtC w) (nz:=false) (nz2:=false) hil (by omega)) rfl ?_ ?_
   ·exact xc39
   ·rintro _ _ ⟨rfl,rfl⟩
    refine x40 ?_
    refine⟨_,_,⟨rfl,W.take i++w :: W.drop i,putL_new hp hi hne,.inr rfl⟩,some [some 0,some 1,some 2,some 3,some 6],?_⟩
    rw[hll]
    refine x40 ?_
    refine⟨fun j _=>rowW_ins hil w j,?_⟩
    exact xc39
theorem put124_true (s:Sv) (W:List Wt) (hW:W.length≤999) (hs:∀w∈W,WtS w) (hp:W.Pairwise ltK) (M:Nat→Int) (w:Wt) (hw:WtS w):Sx.Callee Tryz.prog 124 [.agg (wtC w),.ptr 3 0] [.cells 107 (s.o 1 W.length 2),.row 59 3 W.length (a0e wtC wt0 W) true,.row 3 1 s.n (mdC M) false,.cells 89 [.ptr 0 0]]
  (fun v H=>v=.tup []∧∃L,PutL W w L∧(H=[.cells 107 (s.o 1 L.length 2),.row 59 3 L.length (a0e wtC wt0 L) true,.row 3 1 s.n (mdC M) false,.cells 89 [.ptr 0 0]]∨H=[.cells 107 (s.o 4 L.length 2),.gone,.row 3 1 s.n (mdC M) false,.cells 89 [.ptr 0 0],.row 59 3 L.length (a0e wtC wt0 L) false])):=by
 obtain⟨i,hi⟩:=isPos_ex hp w
 have hti:(i:Int).toNat=i:=a0E i
 have hil:=hi.1
 refine a0k Tryz.E_ok Tryz.func124 rfl (by kernel_rfl) ?_
 refine x40 ?_
 refine pcall_view (bsearch W (by omega) hs hp w hw i hi) ?_ ?_
 ·exact xc39
 ·(repeat' ((conv=>whnf);first|(with_reducible first|apply spl|apply spl'|refine iJ ?_)<;>intro hc<;>try(exfalso;omega)|refine vcq ?_|refine dr 2008 ?_|refine dr 11 ?_));all_goals(try conv=>whnf);try exact trivial
  ·have hc2:=hc
   obtain⟨hlt,heq⟩:=hc2
   have hk:=(cmpW_eq _ _).1 heq
   clear hc
   have hsl:(W.set i w).length=W.length:=a2H
   refine⟨_,_,⟨rfl,W.set i w,putL_old hp hi ⟨hlt,heq⟩,.inl rfl⟩,some [some 0,some 1,some 2,some 3],?_⟩
   rw[hsl]
   refine x40 ?_
   refine⟨fun j _=>?_,?_⟩
   ·dsimp only
    rw[hti]
    exact rowW_put hlt hk j
   ·exact xc39
  ·have hne:¬(i<W.length∧cmpW (W.getD i wt0) w=0):=hc
   clear hc
   have hll:(W.take i++w :: W.drop i).length=W.length+1:=by rw[a0M,a2R,a0J,a1E];omega
   refine a0c [1,5] (callee_insert (n:=W.length) (i:=i) (f:=a0e wtC wt0 W) (c:=wtC w) (nz:=true) (nz2:=false) hil (by omega)) rfl ?_ ?_
   ·exact xc39
   ·rintro _ _ ⟨rfl,rfl⟩
    refine x40 ?_
    refine⟨_,_,⟨rfl,W.take i++w :: W.drop i,putL_new hp hi hne,.inr rfl⟩,some [some 0,some 1,some 2,some 3,some 6],?_⟩
    rw[hll]
    refine x40 ?_
    refine⟨fun j _=>rowW_ins hil w j,?_⟩
    exact xc39
def Sv.o0 (s:Sv):List V:=[.int .i64 s.x.n,.sl 2 s.x.l.length (a0e Ca.oC (0,0) s.x.l),.int .i64 s.d.H,.int .i64 s.d.T,.sl 2 s.d.Z.length (a0e zC (0,0) s.d.Z),.int .i64 s.d.hk,.int .i64 s.d.ck,.int .i64 s.d.hs.1,.int .i64 s.d.hs.2,.int .i64 s.d.cs.1,.int .i64 s.d.cs.2,.sl 2 s.sk.length (a0e zC (0,0) s.sk),.int .i64 s.cyl,.sl 1 s.sec.length (a0e seC 0 s.sec),.lit (.slice none 0 0),.osl 1 s.n]
def Sv.at (s:Sv) (i:Nat):Ca.RS:=Ca.RS.run s.n s.x.l i
theorem Sv.at_small {s:Sv} (hx:s.x.Ok) {i:Nat} (hi:i≤s.x.l.length):(0<(s.at i).E.length∧(s.at i).E.length≤17)∧((s.at i).ents s.n).length≤102∧(∀w∈(s.at i).ents s.n,WtS w∧w.2.1<s.n)∧s.n≤6∧(s.n:Int)=s.x.n:=by
 have h1:=Ca.RS.run_len s.n s.x.l i
 have h2:=hx.len
 have h3:=hx.n
 have hn:s.n≤6∧(s.n:Int)=s.x.n:=by unfold Sv.n;omega
 have h4:=Ca.RS.ents_len s.n (s.at i)
 have hE:(s.at i).E.length≤17:=by unfold Sv.at;omega
 have h5:(s.at i).E.length*s.n≤17*6:=a2I hE hn.1
 refine⟨⟨h1.1,hE⟩,by omega,fun w hw=>?_,hn⟩
 have:=Ca.RS.mem_ents.1 hw
 unfold WtS
 omega
theorem Sv.ord_at {s:Sv} (hx:s.x.Ok) {i:Nat} (hi:i<s.x.l.length):∃o1 o2:Int,s.x.l.getD i (0,0)=(o1,o2)∧((o1=1∨o1=2)∧(∃b:Nat,o2=b∧b<s.n)∨(o1=3∨o1=4)∧o2=0):=by
 have e:s.x.l.getD i (0,0)=s.x.l[i]:=by rw[a0A,a0C hi];rfl
 have h:=hx.ord _ (a0N hi)
 rw[←e] at h
 generalize s.x.l.getD i (0,0)=o at h
 obtain⟨o1,o2⟩:=o
 refine⟨o1,o2,rfl,?_⟩
 have hn:(s.n:Int)=s.x.n:=by have:=hx.n;unfold Sv.n;omega
 unfold Ca.Cache.OkO at h
 dsimp only at h
 rcases h with⟨h1,h2⟩|h
 ·exact .inl ⟨h1,o2.toNat,by omega,by omega⟩
 ·exact .inr h
theorem Sv.step {s:Sv} (_hx:s.x.Ok) {i:Nat} (_hi:i<s.x.l.length) {o1 o2:Int} (ho:s.x.l.getD i (0,0)=(o1,o2)):s.at (i+1)=(s.at i).order s.n i (o1,o2):=by
 show(Ca.RS.run s.n s.x.l i).order s.n i (s.x.l.getD i (0,0))=_
 rw[ho]
 rfl
theorem Sv.put_ents {s:Sv} (hx:s.x.Ok) {i:Nat} (hi:i≤s.x.l.length) {b:Nat} (hb:b<s.n) {L:List Wt} (h:PutL ((s.at i).ents s.n) ((s.at i).E.length-1,b,(i:Int)) L):((s.at i).setE ((s.at i).E.length-1) b i).ents s.n=L:=by
 obtain⟨a,m,c,h1,h2,h3,h4,rfl⟩:=h
 exact Ca.put_list (Sv.at_small hx hi).1.1 hb (by omega) h1 h2 h3 h4
end Go.Proofs
