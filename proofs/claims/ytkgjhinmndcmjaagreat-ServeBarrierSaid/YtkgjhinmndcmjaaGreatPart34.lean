/- Own work: texts of the proof of a law (WvT1, WqD9, WvA, WvN, WqDA, WvT2, WsR, WsS, WsT, WsU, WsV, WsX, WsY, WsZ). No condition. -/
import Derived.Shelf.Sort.Plain
import Derived.Test.YtkgjhinmndcmjaaGreatPart32
import Derived.Test.YtkgjhinmndcmjaaGreatPart33
import Derived.Test.YtkgjhinmndcmjaaGreatPart29
import Derived.Test.YtkgjhinmndcmjaaGreatPart30
import Derived.Test.YtkgjhinmndcmjaaGreatPart13
import Derived.Test.YtkgjhinmndcmjaaGreatPart0
import Derived.Test.YtkgjhinmndcmjaaGreatPart11
set_option linter.unusedVariables false
set_option linter.unusedSimpArgs false
namespace Go.Proofs
open Go.Shelf
def Tryz.lays189_ren:Go.Shelf.Ren:=⟨fun|189=>137|125=>169|257=>168|128=>194|129=>195|294=>185|295=>186|296=>187|297=>188|298=>189|299=>190|216=>191|300=>192|301=>193|328=>205|329=>206|330=>207|331=>208|332=>209|215=>210|343=>211|n=>n,fun|28=>31|3=>3|46=>183|0=>0|51=>227|53=>230|4=>4|183=>257|182=>256|131=>172|5=>5|9=>9|218=>278|222=>282|228=>284|229=>100|n=>n,fun|n=>n⟩
theorem Tryz.lays189:Go.Proofs.Lays.n189 Tryz.prog Tryz.lays189_ren:={
 mixed:=by kernel_rfl
 f125:=Tryz.func169.trans (congrArg some (by kernel_rfl))
 f128:=Tryz.func194.trans (congrArg some (by kernel_rfl))
 f129:=Tryz.func195.trans (congrArg some (by kernel_rfl))
 f189:=Tryz.func137.trans (congrArg some (by kernel_rfl))
 f215:=Tryz.func210.trans (congrArg some (by kernel_rfl))
 f216:=Tryz.func191.trans (congrArg some (by kernel_rfl))
 f257:=Tryz.func168.trans (congrArg some (by kernel_rfl))
 f294:=Tryz.func185.trans (congrArg some (by kernel_rfl))
 f295:=Tryz.func186.trans (congrArg some (by kernel_rfl))
 f296:=Tryz.func187.trans (congrArg some (by kernel_rfl))
 f297:=Tryz.func188.trans (congrArg some (by kernel_rfl))
 f298:=Tryz.func189.trans (congrArg some (by kernel_rfl))
 f299:=Tryz.func190.trans (congrArg some (by kernel_rfl))
 f300:=Tryz.func192.trans (congrArg some (by kernel_rfl))
 f301:=Tryz.func193.trans (congrArg some (by kernel_rfl))
 f328:=Tryz.func205.trans (congrArg some (by kernel_rfl))
 f329:=Tryz.func206.trans (congrArg some (by kernel_rfl))
 f330:=Tryz.func207.trans (congrArg some (by kernel_rfl))
 f331:=Tryz.func208.trans (congrArg some (by kernel_rfl))
 f332:=Tryz.func209.trans (congrArg some (by kernel_rfl))
 f343:=Tryz.func211.trans (congrArg some (by kernel_rfl))
 t0:=Tryz.underlying0
 a0:=Tryz.isAgg0
 z0:=Tryz.sizeOf0
 v0:=Tryz.zeroValue0
 t3:=Tryz.underlying3
 a3:=Tryz.isAgg3
 z3:=Tryz.sizeOf3
 v3:=Tryz.zeroValue3
 t4:=Tryz.underlying4
 a4:=Tryz.isAgg4
 z4:=Tryz.sizeOf4
 v4:=Tryz.zeroValue4
 t5:=Tryz.underlying5
 a5:=Tryz.isAgg5
 z5:=Tryz.sizeOf5
 v5:=Tryz.zeroValue5
 t9:=Tryz.underlying9
 a9:=Tryz.isAgg9
 z9:=Tryz.sizeOf9
 v9:=Tryz.zeroValue9
 t28:=Tryz.underlying31
 a28:=Tryz.isAgg31
 z28:=Tryz.sizeOf31
 v28:=Tryz.zeroValue31
 t46:=Tryz.underlying183
 a46:=Tryz.isAgg183
 z46:=Tryz.sizeOf183
 v46:=Tryz.zeroValue183
 t51:=Tryz.underlying227
 a51:=Tryz.isAgg227
 z51:=Tryz.sizeOf227
 v51:=Tryz.zeroValue227
 t53:=Tryz.underlying230
 a53:=Tryz.isAgg230
 z53:=Tryz.sizeOf230
 v53:=Tryz.zeroValue230
 t131:=Tryz.underlying172
 a131:=Tryz.isAgg172
 z131:=Tryz.sizeOf172
 v131:=Tryz.zeroValue172
 t182:=Tryz.underlying256
 a182:=Tryz.isAgg256
 z182:=Tryz.sizeOf256
 v182:=Tryz.zeroValue256
 t183:=Tryz.underlying257
 a183:=Tryz.isAgg257
 z183:=Tryz.sizeOf257
 v183:=Tryz.zeroValue257
 t218:=Tryz.underlying278
 a218:=Tryz.isAgg278
 z218:=Tryz.sizeOf278
 v218:=Tryz.zeroValue278
 t222:=Tryz.underlying282
 a222:=Tryz.isAgg282
 z222:=Tryz.sizeOf282
 v222:=Tryz.zeroValue282
 t228:=Tryz.underlying284
 a228:=Tryz.isAgg284
 z228:=Tryz.sizeOf284
 v228:=Tryz.zeroValue284
 t229:=Tryz.underlying100
 a229:=Tryz.isAgg100
 z229:=Tryz.sizeOf100
 v229:=Tryz.zeroValue100}
end Go.Proofs
namespace Go.Proofs
open Go Go.Sx
set_option maxRecDepth 100000
set_option maxHeartbeats 40000000
theorem sortsInt:SortsInt Tryz.prog 137:=fun blk cap l w hH hb hl=>Any.slices_Sort_int Tryz.lays189 blk 0 cap l w hH hb hl
theorem sortAny (l:List Int) (hl:l.length≤1000000):Sx.Callee Tryz.prog 137 [.osl 0 l.length] [.row 3 1 l.length (a0e intC 0 l) true]
  (fun r H=>r=.tup []∧∃m:List Int,m.Perm l∧(∀p q,p<q→q<l.length→m.getD p 0≤m.getD q 0)∧H=[.row 3 1 l.length (a0e intC 0 m) true]):=by
 by_cases h:l.length≤12
 ·exact sort71 l h
 ·refine Callee.mono (callee_sort ⟨_,Tryz.func137,by kernel_rfl,by kernel_rfl⟩ sortsInt (by omega) (by omega)) ?_
  rintro v H ⟨rfl,rfl⟩
  refine⟨rfl,_,List.mergeSort_perm l _,fun p q hpq hq=>?_,rfl⟩
  have hs:=List.pairwise_mergeSort (le:=fun x y:Int=>decide (x≤y)) (fun a b c h1 h2=>by simp only[decide_eq_true_eq] at *;omega) (fun a b=>by simp only[a3W,decide_eq_true_eq];omega) l
  have hml:(l.mergeSort fun x y=>decide (x≤y)).length=l.length:=List.length_mergeSort _
  rw[a0T] at hs
  have:=hs p q (by omega) (by omega) hpq
  simp only[decide_eq_true_eq] at this
  rw[a0A,a0C (by omega),a0A,a0C (by omega)]
  exact this
theorem sortedAny (l:List Int) (hl:l.length≤1000000):Sx.Callee Tryz.prog 93 [.fn (.func 138) [] [.ptr 0 0]] [.cells 31 [.sl 1 l.length (a0e intC 0 l)]]
  (fun r H=>∃m:List Int,m.Perm l∧(∀p q,p<q→q<l.length→m.getD p 0≤m.getD q 0)∧r=.osl 1 l.length∧H=[.cells 31 [.sl 1 l.length (a0e intC 0 l)],.row 3 1 l.length (a0e intC 0 m) true]):=by
 refine a0k Tryz.E_ok Tryz.func93 rfl (by kernel_rfl) ?_
 refine x1 ?_
 refine a0r Tryz.E_ok Tryz.func136 rfl (by kernel_rfl) ?_
 refine x1 ?_
 refine a0r Tryz.E_ok Tryz.func167 rfl (by kernel_rfl) ?_
 refine x1 ?_
 refine a0r Tryz.E_ok Tryz.func138 rfl (by kernel_rfl) ?_
 refine x1 ?_
 refine⟨Nat,fun i=>i≤l.length,fun i=>l.length-i,fun i=>[(7,.int .i64 (i:Nat))],fun i=>[(1,.cells 31 [.osl 3 (l.take i).length])],fun i=>[.row 3 1 (l.take i).length (a0e intC 0 (l.take i)) true],0,⟨by omega,some [some 0,some 1,some 2,none],?_⟩,?_⟩
 ·exact xc0
 ·intro i hi
  have hi:i≤l.length:=hi
  have hti:(i:Int).toNat=i:=a0E i
  refine x3 (fun hc=>?_) (fun hc=>?_)
  ·have hil:i<l.length:=by omega
   have hlt:(l.take i).length=i:=by rw[a0J];omega
   rw[hti]
   refine ycall_exec Tryz.E_ok rfl rfl rfl ?_
   refine x1 ?_
   have e:l.take (i+1)=l.take i++[l.getD i 0]:=by
    rw[a1D hil]
    simp[a0A,hil]
   have hlt2:(l.take (i+1)).length=(l.take i).length+1:=by rw[e];simp
   refine⟨i+1,⟨by omega,by dsimp only;omega⟩,some [some 0,some 1,some 2,some 5],?_⟩
   refine x1 ?_
   refine⟨fun k hk=>?_,?_⟩
   ·rw[e]
    exact a1q (c:=intC) rfl (fun _ _=>rfl) k (by omega)
   ·exact xc0
  ·obtain rfl:i=l.length:=by omega
   rw[a2M]
   refine a0c [3] (sortAny l hl) rfl ?_ ?_
   ·exact xc0
   ·rintro _ _ ⟨rfl,m,g1,g2,rfl⟩
    refine x1 ?_
    refine⟨_,_,⟨m,g1,g2,rfl,rfl⟩,some [some 0,some 3],?_⟩
    exact xc0
theorem ordI_of_sorted {l m:List Int} (g1:m.Perm l) (hall:∀j,j<l.length→m.getD j 0=j):IsOrdI l.length l:=by
 have hml:=g1.length_eq
 have hg:∀i (hi:i<l.length),l[i]=l.getD i 0:=fun i hi=>by simp[a0A,hi]
 have hm:m=(List.range l.length).map Int.ofNat:=by
  refine a2L (by simp[hml]) fun j h1 h2=>?_
  have:=hall j (by omega)
  rw[a0A,a0C h1] at this
  simpa using this
 have hnd:l.Nodup:=g1.nodup_iff.1 (by
  rw[hm,List.Nodup,a2Z]
  exact List.nodup_range.imp fun h e=>h (Int.ofNat.inj e))
 refine⟨fun i hi=>?_,fun i hi k hk e=>?_,rfl⟩
 ·have h1:l.getD i 0∈m:=g1.mem_iff.2 (by rw[←hg i hi];exact a0N hi)
  rw[hm] at h1
  obtain⟨j,hj,e⟩:=a2V.1 h1
  have:=a1F.1 hj
  have e:(j:Int)=_:=e
  omega
 ·rw[List.Nodup,a0T] at hnd
  exact hnd k i (by omega) hi hk (by rw[hg k (by omega),hg i hi];exact e)
end Go.Proofs
namespace Go.Proofs
open Go Go.Sx
set_option maxRecDepth 100000
set_option maxHeartbeats 40000000
theorem IsOrd.int {n:Nat} {o:List Nat} (h:IsOrd n o):IsOrdI n (o.map Int.ofNat):=by
 have hg:∀i,i<o.length→(o.map Int.ofNat).getD i 0=(o.getD i 0:Nat):=fun i hi=>by
  rw[a0A,a1O,a0A,a0C hi]
  rfl
 have hl:(o.map Int.ofNat).length=o.length:=a1L ..
 refine⟨fun i hi=>?_,fun i hi k hk e=>?_,by rw[hl];exact h.len⟩
 ·rw[hl] at hi
  rw[hg i hi]
  have:=h.lt (o.getD i 0) (by rw[a1a hi];exact a0N hi)
  omega
 ·rw[hl] at hi
  rw[hg i hi,hg k (by omega)] at e
  have:=h.inj (by omega) hi (Int.ofNat_inj.1 e)
  omega
/-! a queue that is not valid -/
/-! an order that is none -/
/-! an order -/
end Go.Proofs
namespace Go.Proofs
open Go Go.Sx
set_option maxRecDepth 100000
set_option maxHeartbeats 4000000
open Ca (Wt epW IsCrs)
def Sv.oc (s:Sv):List V:=[.int .i64 s.x.n,.sl 2 s.x.l.length (a0e Ca.oC (0,0) s.x.l),.int .i64 s.d.H,.int .i64 s.d.T,.sl 2 s.d.Z.length (a0e zC (0,0) s.d.Z),.int .i64 s.d.hk,.int .i64 s.d.ck,.int .i64 s.d.hs.1,.int .i64 s.d.hs.2,.int .i64 s.d.cs.1,.int .i64 s.d.cs.2,.sl 2 s.sk.length (a0e zC (0,0) s.sk),.int .i64 s.cyl,.sl 1 s.sec.length (a0e seC 0 s.sec),.sl 3 s.W.length (a0e wtC wt0 s.W),.sl 1 s.n (mdC s.st.M)]
theorem Sv.ov_eq (s:Sv):s.ov=.iptr s.oc:=rfl
theorem cmp133 (s:Sv) (hW:∀w∈s.W,WtS w) (a b:Nat) (ha:a<s.W.length) (hb:b<s.W.length):a0g Tryz.prog 133 false [.int .i64 (a:Nat),.int .i64 (b:Nat),.iptr [.iptr s.oc]] (·=.int .i64 ((epW s.W a:Int)-epW s.W b)):=by
 have hta:(a:Int).toNat=a:=a0E a
 have htb:(b:Int).toNat=b:=a0E b
 have h1:=hW _ (show s.W.getD a wt0∈s.W by rw[getW ha];exact a0N ha)
 have h2:=hW _ (show s.W.getD b wt0∈s.W by rw[getW hb];exact a0N hb)
 unfold WtS at h1 h2
 refine a0a Tryz.E_ok Tryz.func133 rfl (by kernel_rfl) ?_
 unfold Sv.oc
 refine x72 ?_
 rw[hta,htb]
 refine And.intro (inR64 (by omega) (by omega)) ?_
 refine x72 ?_
 refine⟨_,rfl,?_⟩
 unfold epW
 exact xc53
def AscI (W:List Wt) (l:List Int):Prop:=∀j,j+1<l.length→epW W (l.getD j 0).toNat≤epW W (l.getD (j+1) 0).toNat
theorem sorted132 (s:Sv) (hW:∀w∈s.W,WtS w) (l:List Int) (hl:l.length≤1000000) (hr:∀i,i<l.length→0≤l.getD i 0∧l.getD i 0<s.W.length):a0g Tryz.prog 132 false [.sl 1 l.length (a0e intC 0 l),.fn (.func 133) [] [.iptr [.iptr s.oc]]] (·=.prop (AscI s.W l) (Classical.propDecidable _)):=by
 refine a0a Tryz.E_ok Tryz.func132 rfl (by kernel_rfl) ?_
 refine x72 ?_
 refine⟨Int,fun i=>(i≤(l.length:Int)-1∧-1≤i)∧∀j:Nat,i≤(j:Int)→j+1<l.length→epW s.W (l.getD j 0).toNat≤epW s.W (l.getD (j+1) 0).toNat,fun i=>i.toNat,fun i=>[(5,.int .i64 i)],fun _=>[],fun _=>[],(l.length:Int)-1,⟨⟨by omega,fun j hj hj2=>by omega⟩,none,?_⟩,?_⟩
 ·exact xc53
 ·rintro i ⟨⟨hi1,hi2⟩,hall⟩
  (repeat' ((conv=>whnf);first|(with_reducible first|apply spl|apply spl'|refine iJ ?_)<;>intro hc<;>try(exfalso;omega)|refine vcq ?_|refine dr 18 ?_|refine dr 10 ?_));all_goals(try conv=>whnf);try exact trivial
  ·have hin:i.toNat<l.length:=by omega
   have hin2:(i-1).toNat<l.length:=by omega
   have e1:(i-1).toNat+1=i.toNat:=by omega
   obtain⟨a,ha⟩:∃a:Nat,l.getD i.toNat 0=a:=⟨(l.getD i.toNat 0).toNat,by have:=hr _ hin;omega⟩
   obtain⟨b,hb⟩:∃b:Nat,l.getD (i-1).toNat 0=b:=⟨(l.getD (i-1).toNat 0).toNat,by have:=hr _ hin2;omega⟩
   have hra:=hr _ hin
   have hrb:=hr _ hin2
   rw[ha] at hra
   rw[hb] at hrb
   have hcmp:=cmp133 s hW a b (by omega) (by omega)
   unfold Sv.oc at hcmp
   rw[ha,hb]
   refine a0b hcmp rfl ?_
   rintro _ rfl
   (repeat' ((conv=>whnf);first|(with_reducible first|apply spl|apply spl'|refine iJ ?_)<;>intro hc<;>try(exfalso;omega)|refine vcq ?_|refine dr 18 ?_|refine dr 10 ?_));all_goals(try conv=>whnf);try exact trivial
   ·have hno:¬AscI s.W l:=fun h=>by
     have:=h (i-1).toNat (by omega)
     rw[e1,ha,hb] at this
     simp only[a0E] at this
     omega
    refine⟨_,rfl,?_⟩
    exact xc53
   ·refine⟨i-1,⟨⟨⟨by omega,by omega⟩,fun j h1 h2=>?_⟩,by dsimp only;omega⟩,none,?_⟩
    ·rcases Int.lt_or_le (j:Int) i with g|g
     ·obtain rfl:j=(i-1).toNat:=by omega
      rw[e1,ha,hb]
      simp only[a0E]
      omega
     ·exact hall j g h2
    ·exact xc53
  ·have hyes:AscI s.W l:=fun j hj=>by
    rcases Int.lt_or_le (j:Int) i with g|g
    ·omega
    ·exact hall j g hj
   refine⟨_,rfl,?_⟩
   exact xc53
def CrsI (W:List Wt) (l:List Int):Prop:=IsOrdI W.length l∧AscI W l
theorem sorted_of_ordI {l m:List Int} (g1:m.Perm l) (g2:∀p q,p<q→q<l.length→m.getD p 0≤m.getD q 0) (h:IsOrdI l.length l):∀j,j<l.length→m.getD j 0=j:=by
 have hml:=g1.length_eq
 have hg:∀(l:List Int) i (hi:i<l.length),l[i]=l.getD i 0:=fun l i hi=>by simp[a0A,hi]
 have hnl:l.Nodup:=by
  rw[List.Nodup,a0T]
  intro a b ha hb hab e
  exact h.nd b hb a hab (by rw[←hg l a ha,←hg l b hb,e])
 have hnm:m.Nodup:=g1.nodup_iff.2 hnl
 rw[List.Nodup,a0T] at hnm
 have hr:∀j,j<l.length→0≤m.getD j 0∧m.getD j 0<l.length:=fun j hj=>by
  have h1:m[j]∈l:=g1.mem_iff.1 (a0N (by omega))
  obtain⟨k,hk,e⟩:=a1A h1
  rw[←hg m j (by omega),←e,hg l k hk]
  have:=h.1 k hk
  omega
 have hst:∀p,p+1<l.length→m.getD p 0<m.getD (p+1) 0:=fun p hp=>by
  have h1:=g2 p (p+1) (by omega) hp
  have h2:=hnm p (p+1) (by omega) (by omega) (by omega)
  rw[hg m p (by omega),hg m (p+1) (by omega)] at h2
  omega
 have hlo:∀j,j<l.length→(j:Int)≤m.getD j 0:=fun j=>by
  induction j with
  |zero=>intro hj;exact(hr 0 hj).1
  |succ j ih=>intro hj;have:=ih (by omega);have:=hst j hj;omega
 have hhi:∀k j,j+k+1=l.length→m.getD j 0≤(j:Int):=fun k=>by
  induction k with
  |zero=>intro j hj;have:=(hr j (by omega)).2;omega
  |succ k ih=>intro j hj;have:=ih (j+1) (by omega);have:=hst j (by omega);omega
 intro j hj
 have:=hlo j hj
 have:=hhi (l.length-j-1) j (by omega)
 omega
theorem isCourse91 (s:Sv) (hW:∀w∈s.W,WtS w) (_hWl:s.W.length≤6) (l:List Int) (hl:l.length≤1000000):a0g Tryz.prog 91 false [.iptr s.oc,.sl 1 l.length (a0e intC 0 l)] (·=.prop (CrsI s.W l) (Classical.propDecidable _)):=by
 refine a0a Tryz.E_ok Tryz.func91 rfl (by kernel_rfl) ?_
 unfold Sv.oc
 refine x1 ?_
 refine a0r Tryz.E_ok Tryz.func94 rfl (by kernel_rfl) ?_
 refine x1 ?_
 refine a0c [1] (sortedAny l hl) rfl ?_ ?_
 ·exact xc0
 ·rintro _ _ ⟨m,g1,g2,rfl,rfl⟩
  have hml:=g1.length_eq
  refine x1 ?_
  refine⟨Nat,fun i=>i≤l.length∧∀j,j<i→m.getD j 0=j,fun i=>l.length-i,fun i=>[(11,.int .i64 (i:Nat))],fun _=>[],fun _=>[],0,⟨⟨by omega,fun j hj=>by omega⟩,none,?_⟩,?_⟩
  ·exact xc0
  ·rintro i ⟨hi,hall⟩
   have hti:(i:Int).toNat=i:=a0E i
   (repeat' ((conv=>whnf);first|(with_reducible first|apply spl|apply spl'|refine iJ ?_)<;>intro hc<;>try(exfalso;omega)|refine vcq ?_|fail));all_goals(try conv=>whnf);try exact trivial
   ·rw[hti] at hc
    have hno:¬CrsI s.W l:=fun h=>hc (sorted_of_ordI g1 g2 (h.1.len▸h.1) i (by omega)).symm
    refine⟨_,rfl,?_⟩
    exact xc0
   ·rw[hti] at hc
    refine⟨i+1,⟨⟨by omega,fun j hj=>?_⟩,by dsimp only;omega⟩,none,?_⟩
    ·rcases a0I (show j≤i by omega) with g|rfl
     ·exact hall j g
     ·omega
    ·exact xc0
   ·have hno:¬CrsI s.W l:=fun h=>by
     have:=h.1.len
     omega
    refine⟨_,rfl,?_⟩
    exact xc0
   ·obtain rfl:i=l.length:=by omega
    have hio:=ordI_of_sorted g1 hall
    have hs:=sorted132 s hW l hl (fun j hj=>by have:=hio.1 j hj;omega)
    unfold Sv.oc at hs
    refine a0u hs ?_
    refine x1 ?_
    rintro _ rfl
    have hiff:CrsI s.W l↔AscI s.W l:=⟨fun h=>h.2,fun h=>⟨(show l.length=s.W.length by omega)▸hio,h⟩⟩
    refine x1 ?_
    refine⟨_,rfl,?_⟩
    refine x1 ?_
    exact⟨hiff.symm,trivial⟩
end Go.Proofs
namespace Go.Proofs
open Go Go.Sx
set_option maxRecDepth 100000
set_option maxHeartbeats 4000000
open Ca (Wt epW IsCrs)
open Classical in
noncomputable def Sv.cerr (s:Sv) (l:List Int):Int:=if s.err=0 then if CrsI s.W l then 0 else 151 else s.err
theorem Sv.err_ok {s:Sv} (h:s.err=0):s.Ok:=by
 unfold Sv.err at h
 split at h
 ·split at h
  ·split at h
   ·split at h
    ·exact⟨by assumption,by assumption,by assumption,by assumption⟩
    ·exact absurd h (by decide)
   ·exact absurd h (by decide)
  ·rename_i h1 h2
   unfold Ca.Cache.chk at h
   rw[if_neg h2] at h
   exact absurd h (by decide)
 ·exact absurd h (by decide)
theorem Sv.Ok.ws {s:Sv} (h:s.Ok):∀w∈s.W,WtS w∧w.2.1<s.n:=(Sv.at_small h.x (a0K _)).2.2.1
theorem with51 (s:Sv) (hz:s.d.Z.length≤1000000) (hx:s.x.l.length≤1000000) (hsk:s.sk.length≤1000000) (hsec:s.sec.length≤1000000) (l:List Int) (hl:l.length≤1000000):a0g Tryz.prog 51 true [.agg s.c,.sl 1 l.length (a0e intC 0 l)] (fun v=>(s.cerr l=0∧v=.tup [.iptr s.oc,.int .i64 0])∨s.cerr l≠0∧v=.tup [.lit (.pointer none),.int .i64 (s.cerr l)]):=by
 have ho:=open45 s hz hx hsk hsec
 rw[Sv.ov_eq] at ho
 unfold Sv.c at ho ⊢
 refine a0a Tryz.E_ok Tryz.func51 rfl (by kernel_rfl) ?_
 refine x1 ?_
 refine a0b ho rfl ?_
 rintro _ (⟨he,rfl⟩|⟨he,rfl⟩)
 ·have hok:=Sv.err_ok he
  have hi:=isCourse91 s (fun w hw=>(hok.ws w hw).1) hok.few l hl
  unfold Sv.oc at hi ⊢
  refine x1 (fun hc=>?_)
  refine a0b hi rfl ?_
  rintro _ rfl
  refine x3 (fun hc=>?_) (fun hc=>?_)
  ·have hc1:s.cerr l=151:=by unfold Sv.cerr;rw[if_pos he,if_neg hc]
   refine⟨_,.inr ⟨by rw[hc1];decide,rfl⟩,?_⟩
   rw[hc1]
   exact xc0
  ·have hc1:s.cerr l=0:=by unfold Sv.cerr;rw[if_pos he,if_pos (Classical.not_not.1 hc)]
   refine⟨_,.inl ⟨hc1,rfl⟩,?_⟩
   exact xc0
 ·have hc1:s.cerr l=s.err:=by unfold Sv.cerr;rw[if_neg he]
  refine x1 (fun hc=>?_)
  refine⟨_,.inr ⟨by rw[hc1];exact he,rfl⟩,?_⟩
  rw[hc1]
  exact xc0
end Go.Proofs
namespace Go.Proofs
open Go Go.Sx
set_option maxRecDepth 100000
set_option maxHeartbeats 40000000
open Ca (Wt epW IsCrs)
def Sv.rqs (s:Sv) (o:List Nat) (i:Nat):List Rq:=(Sv.pick s.W (o.take i)).map s.rqW
theorem Sv.rqs_len (s:Sv) (o:List Nat) {i:Nat} (h:i≤o.length):(s.rqs o i).length=i:=by
 unfold Sv.rqs Sv.pick
 rw[a1L,a1L,a0J]
 omega
theorem Sv.rqs_succ (s:Sv) (o:List Nat) {i:Nat} (h:i<o.length):s.rqs o (i+1)=s.rqs o i++[s.rqW (s.W.getD (o.getD i 0) wt0)]:=by
 unfold Sv.rqs Sv.pick
 rw[a1D h,List.map_append,List.map_append,a1a h]
 rfl
theorem vprop_iff {p q:Prop} {i:Decidable p} {j:Decidable q} (h:p↔q):V.prop p i=V.prop q j:=by
 cases propext h
 exact congrArg (V.prop p) (Subsingleton.elim _ _)
theorem rqC_rqW (s:Sv) (w:Wt):rqC (s.rqW w)=[.int .i64 (s.sec.getD w.2.1 0),.int .i64 1,.int .i64 0,.int .i64 (-1),.prop False inferInstance]:=by
 unfold rqC Sv.rqW
 rw[vprop_iff (p:=(false=true)) (q:=False) (j:=inferInstance) (by simp)]
theorem ends47 (s:Sv) (hs:s.Ok) (o:List Nat) (hol:o.length≤6) (ho:∀x∈o,x<s.W.length):a0g Tryz.prog 47 true [.iptr s.oc,.sl 1 o.length (a0e natC 0 o)] (·=.sl 2 o.length (fun k=>[.int .i64 (s.endW false o k),.int .i64 (s.endW true o k)])):=by
 refine a0a Tryz.E_ok Tryz.func47 rfl (by kernel_rfl) ?_
 unfold Sv.oc
 refine x5 ?_
 refine⟨Nat,fun i=>i≤o.length,fun i=>o.length-i,fun i=>[(13,.int .i64 (i:Nat)),(5,.osl 0 i),(6,.osl 1 i)],fun _=>[],fun i=>[.row 66 5 i (a0e rqC Rq.none (s.rqs o i)) true,.row 3 1 i (fun j=>[.int .i64 (j:Nat)]) true],0,⟨by omega,some [none,none],?_⟩,?_⟩
 ·exact xc17
 ·intro i hi
  have hi:i≤o.length:=hi
  have hti:(i:Int).toNat=i:=a0E i
  (repeat' ((conv=>whnf);first|(with_reducible first|apply spl|apply spl'|refine iJ ?_)<;>intro hc<;>try(exfalso;omega)|refine vcq ?_|refine dr 18 ?_));all_goals(try conv=>whnf);try exact trivial
  ·have hio:i<o.length:=by omega
   have ha:o.getD i 0<s.W.length:=by rw[a1a hio];exact ho _ (a0N hio)
   have hta:((o.getD i 0:Nat):Int).toNat=o.getD i 0:=a0E _
   have hw:=hs.ws _ (show s.W.getD (o.getD i 0) wt0∈s.W by rw[getW ha];exact a0N ha)
   have hsl:=hs.so.len
   have htw:(((s.W.getD (o.getD i 0) wt0).2.1:Nat):Int).toNat=(s.W.getD (o.getD i 0) wt0).2.1:=a0E _
   have hsc:=s.rqs_succ o hio
   have hsl2:=s.rqs_len o hi
   rw[hti]
   refine And.intro ⟨by omega,by omega⟩ ?_
   refine x5 ?_
   rw[hta]
   refine And.intro ⟨by omega,by omega⟩ ?_
   refine x5 ?_
   rw[htw]
   refine⟨i+1,⟨by dsimp only;omega,by dsimp only;omega⟩,some [some 3,some 5],?_⟩
   dsimp only
   rw[hsc]
   refine x5 ?_
   refine And.intro (fun k hk=>?_) ?_
   ·have h:=a1q (c:=rqC) (d:=Rq.none) (a:=s.rqW (s.W.getD (o.getD i 0) wt0)) hsl2.symm (fun _ _=>rfl) k (by omega)
    rw[rqC_rqW] at h
    exact h
   ·refine x5 ?_
    refine And.intro (appF_last rfl) ?_
    exact xc17
  ·obtain rfl:i=o.length:=by omega
   refine a0r Tryz.E_ok Tryz.func90 rfl (by kernel_rfl) ?_
   refine x5 ?_
   have hrl:(List.range o.length).length=o.length:=a3Q
   have hrg:∀k,k<o.length→(List.range o.length).getD k 0=k:=fun k hk=>by
    rw[a0A,a0C (by rw[hrl];exact hk)]
    simp
   have hpl:(Sv.pick s.W o).length=o.length:=by unfold Sv.pick;rw[List.length_map]
   have hq:(s.qu (Sv.pick s.W o)).Ok:=Sv.qu_ok hs.so (by omega) fun w hw=>by
    unfold Sv.pick at hw
    obtain⟨x,hx,rfl⟩:=a2V.1 hw
    exact(hs.ws _ (by rw[show s.W.getD x (0,0,0)=s.W[x]'(ho x hx) from getW (ho x hx)];exact a0N _)).2
   have hql:(s.qu (Sv.pick s.W o)).rq.length=o.length:=(Sv.qu_len s _).trans hpl
   have hord:IsOrd (s.qu (Sv.pick s.W o)).rq.length (List.range o.length):=⟨hrl.trans hql.symm,List.nodup_range,fun x hx=>by rw[hql];exact a1F.1 hx⟩
   have he:=Ends11 (s.qu (Sv.pick s.W o)) hq (List.range o.length) hord
   have hev:∀hi k,k<o.length→(s.qu (Sv.pick s.W o)).endOf hi (List.range o.length) k=s.endW hi o k:=fun hi k hk=>by
    unfold Qu.endOf Sv.endW
    rw[if_pos (a1F.2 hk)]
    have e:(List.range o.length).idxOf k=k:=by
     have h1:=List.nodup_range (n:=o.length)
     have h2:=h1.idxOf_getElem k (by rw[hrl];exact hk)
     rwa [List.getElem_range] at h2
    rw[e,Sv.stQ_pick hi ho (k+1) (by omega)]
   have hrq:(s.qu (Sv.pick s.W o)).rq=s.rqs o o.length:=by
    unfold Sv.rqs Sv.qu
    rw[a2M]
   unfold Qu.c at he
   rw[hql,hrl,hrq] at he
   refine a0u he ?_
   refine x5 ?_
   refine⟨fun k hk=>by unfold a0e;rw[hrg k hk];rfl,.inl rfl,?_⟩
   refine x5 ?_
   rintro _ rfl
   refine x5 ?_
   refine⟨_,rfl,?_⟩
   refine x5 ?_
   exact⟨fun k hk=>by dsimp only;rw[hev false k hk,hev true k hk],trivial⟩
theorem CrsI.crs {W:List Wt} {l:List Int} (h:CrsI W l):IsCrs W (l.map Int.toNat):=by
 have ho:=h.1.ord
 refine⟨ho.len,ho.nd,ho.lt,?_⟩
 have hlt:∀j,j<l.length→(l.map Int.toNat).getD j 0=(l.getD j 0).toNat:=fun j hj=>by
  simp[a0A,a1O,a0C hj]
 have hm:∀j k,j+k<l.length→epW W ((l.map Int.toNat).getD j 0)≤epW W ((l.map Int.toNat).getD (j+k) 0):=fun j k=>by
  induction k with
  |zero=>intro _;exact a0K _
  |succ k ih=>
   intro hk
   have h1:=ih (by omega)
   have h2:=h.2 (j+k) (by omega)
   rw[←hlt _ (by omega),←hlt _ (by omega)] at h2
   exact a3S h1 h2
 rw[a0T]
 intro a b ha hb hab
 have hll:(l.map Int.toNat).length=l.length:=a1L ..
 have:=hm a (b-a) (by omega)
 rw[show a+(b-a)=b by omega,a1a ha,a1a hb] at this
 exact this
theorem IsCrs.crsI {W:List Wt} {o:List Nat} (h:IsCrs W o):CrsI W (o.map Int.ofNat):=by
 refine⟨IsOrd.int ⟨h.len,h.nd,h.lt⟩,fun j hj=>?_⟩
 rw[a1L] at hj
 have hlt:∀j,j<o.length→((o.map Int.ofNat).getD j 0).toNat=o.getD j 0:=fun j hj=>by
  simp[a0A,a1O,a0C hj]
 rw[hlt j (by omega),hlt (j+1) hj,a1a (by omega),a1a hj]
 have:=h.asc
 rw[a0T] at this
 exact this j (j+1) (by omega) hj (by omega)
theorem Sv.cerr_ok {s:Sv} {l:List Int} (h:s.cerr l=0):s.err=0∧CrsI s.W l:=by
 unfold Sv.cerr at h
 split at h
 ·split at h
  ·exact⟨by assumption,by assumption⟩
  ·exact absurd h (by decide)
 ·contradiction
end Go.Proofs
namespace Go.Proofs
open Go Go.Sx
set_option maxRecDepth 100000
set_option maxHeartbeats 40000000
open Ca (Wt epW IsCrs RS)
theorem order_W (n:Nat) (s:RS) (k:Int) (o:Int×Int):s.W≤(s.order n k o).W∧(s.order n k o).W≤s.W+(s.E.length*n:Nat)+1:=by
 have hl:(s.E.length-1)*n≤s.E.length*n:=a0H n (Nat.sub_le ..)
 unfold RS.order
 split
 ·exact⟨a1Q _,by show s.W≤_;omega⟩
 ·split
  ·have h1:=RS.wrE_W n (s.setE (s.E.length-1) o.2.toNat k) (s.E.length-1)
   have h2:=RS.wr_W ((s.setE (s.E.length-1) o.2.toNat k).wrE n (s.E.length-1)) (s.E.length-1) o.2.toNat
   have h3:(s.setE (s.E.length-1) o.2.toNat k).W=s.W:=rfl
   have h4:((s.E.length-1:Nat):Int)*n=((s.E.length-1)*n:Nat):=by rw[Int.natCast_mul]
   omega
  ·split
   ·exact⟨a1Q _,by show s.W≤_;omega⟩
   ·split
    ·have h1:=RS.wrE_W n s s.E.length
     have h4:(s.E.length:Int)*n=(s.E.length*n:Nat):=by rw[Int.natCast_mul]
     omega
    ·omega
theorem Sv.at_W {s:Sv} (hx:s.x.Ok):∀i,i≤s.x.l.length→0≤(s.at i).W∧(s.at i).W≤103*i
 |0,_=>⟨a1Q 0,a1Q 0⟩
 |i+1,hi=>by
  have ih:=Sv.at_W hx i (by omega)
  have h:=order_W s.n (s.at i) i (s.x.l.getD i (0,0))
  have e:s.at (i+1)=(s.at i).order s.n i (s.x.l.getD i (0,0)):=rfl
  rw[e]
  have hsm:=Sv.at_small hx (show i≤s.x.l.length by omega)
  have:(s.at i).E.length*s.n≤17*6:=a2I hsm.1.2 hsm.2.2.2.1
  omega
theorem last69 (s:Sv) (hx:s.x.Ok):a0g Tryz.prog 69 true [.agg s.c] (·=s.st.v s.n):=by
 have hni:=Sv.nI hx
 have hxl:=hx.len
 have hb:=Ca.begin16 s.x s.n hni.symm (by have:=(Sv.at_small hx (a0K _)).2.2.2.1;omega)
 unfold Ca.Cache.v at hb
 refine a0a Tryz.E_ok Tryz.func69 rfl (by kernel_rfl) ?_
 unfold Sv.c
 refine x2 ?_
 refine a0b hb rfl ?_
 rintro _ rfl
 unfold RS.v RS.c
 refine x2 ?_
 refine⟨Nat,fun i=>i≤s.x.l.length,fun i=>s.x.l.length-i,fun i=>[(4,.int .i64 (i:Nat))],fun i=>[(2,.cells 126 ((s.at i).c s.n))],fun _=>[],0,⟨by omega,some [some 0,some 1,some 2],?_⟩,?_⟩
 ·unfold RS.c
  exact xc4
 ·intro i hi
  have hi:i≤s.x.l.length:=hi
  have hti:(i:Int).toNat=i:=a0E i
  unfold RS.c
  refine x30 (fun hc=>?_) (fun hc=>?_)
  ·have hil:i<s.x.l.length:=by omega
   obtain⟨o1,o2,hoe,hk⟩:=Sv.ord_at hx hil
   have hsm:=Sv.at_small hx hi
   have hn1:=hx.n
   have hw:=Sv.at_W hx i hi
   have hst:=Sv.step hx hil hoe
   have hdo:=Ca.do18 s.n ⟨by omega,by omega⟩ (s.at i) ⟨hsm.1.1,by omega⟩ ⟨hw.1,by omega⟩ i (o1,o2) (fun h=>by dsimp only at h ⊢;rcases hk with⟨_,b,h1,h2⟩|h1<;>omega)
   rw[←hst] at hdo
   unfold RS.v RS.c Ca.oV at hdo
   rw[hti,hoe]
   refine a0d hdo rfl ?_
   refine x2 ?_
   refine⟨i+1,⟨by omega,by dsimp only;omega⟩,some [some 0,some 1,some 2],?_⟩
   dsimp only
   exact xc4
  ·obtain rfl:i=s.x.l.length:=by omega
   refine⟨_,rfl,?_⟩
   exact xc4
theorem entB_len (f:Nat→Int) (e:Nat):∀b,(Ca.entB f e b).length≤b
 |0=>a0K 0
 |b+1=>by
  have ih:=entB_len f e b
  unfold Ca.entB
  rw[a0M]
  split<;>simp<;>omega
theorem entE_len (n:Nat) (F:Nat→Nat→Int):∀e,(Ca.entE n F e).length≤e*n
 |0=>a1X _
 |e+1=>by
  have ih:=entE_len n F e
  have:=entB_len (F e) e n
  unfold Ca.entE
  rw[a0M,Nat.succ_mul]
  omega
def entP (n:Nat) (F:Nat→Nat→Int) (i b:Nat):List Wt:=Ca.entE n F i++Ca.entB (F i) i b
theorem entP_zero (n:Nat) (F:Nat→Nat→Int) (i:Nat):entP n F i 0=Ca.entE n F i:=a3V _
theorem entP_all (n:Nat) (F:Nat→Nat→Int) (i:Nat):entP n F i n=Ca.entE n F (i+1):=rfl
theorem entP_old {n:Nat} {F:Nat→Nat→Int} {i b:Nat} (h:F i b=-1):entP n F i (b+1)=entP n F i b:=by
 unfold entP
 rw[Ca.entB,if_pos h,a3V]
theorem entP_new {n:Nat} {F:Nat→Nat→Int} {i b:Nat} (h:F i b≠-1):entP n F i (b+1)=entP n F i b++[(i,b,F i b)]:=by
 unfold entP
 rw[Ca.entB,if_neg h,a1P]
theorem entP_len (n:Nat) (F:Nat→Nat→Int) (i b:Nat):(entP n F i b).length≤i*n+b:=by
 unfold entP
 rw[a0M]
 have:=entE_len n F i
 have:=entB_len (F i) i b
 omega
theorem entries49 (s:Sv) (hx:s.x.Ok):a0g Tryz.prog 49 false [.agg s.c] (·=.sl 3 s.W.length (a0e wtC wt0 s.W)):=by
 have hl:=last69 s hx
 have hsm:=Sv.at_small hx (a0K s.x.l.length)
 have hEl:s.st.E.length≤17:=hsm.1.2
 have hn6:=hsm.2.2.2.1
 unfold RS.v RS.c at hl
 unfold Sv.c at hl ⊢
 refine a0a Tryz.E_ok Tryz.func49 rfl (by kernel_rfl) ?_
 refine x1 ?_
 refine a0b hl rfl ?_
 rintro _ rfl
 refine x1 ?_
 refine⟨Nat,fun i=>i≤s.st.E.length,fun i=>s.st.E.length-i,fun i=>[(5,.int .i64 (i:Nat)),(3,.osl 2 (Ca.entE s.n s.st.ep i).length)],fun _=>[],fun i=>[.row 59 3 (Ca.entE s.n s.st.ep i).length (a0e wtC wt0 (Ca.entE s.n s.st.ep i)) true],0,⟨by omega,some [some 0,some 1,none],?_⟩,?_⟩
 ·exact xc0
 ·intro i hi
  have hi:i≤s.st.E.length:=hi
  have hti:(i:Int).toNat=i:=a0E i
  refine x3 (fun hc=>?_) (fun hc=>?_)
  ·have hil:i<s.st.E.length:=by omega
   refine⟨Nat,fun b=>b≤s.n,fun b=>s.n-b,fun b=>[(6,.int .i64 (b:Nat)),(3,.osl 2 (entP s.n s.st.ep i b).length)],fun b=>[(2,.row 59 3 (entP s.n s.st.ep i b).length (a0e wtC wt0 (entP s.n s.st.ep i b)) true)],fun _=>[],0,⟨by omega,some [some 0,some 1,some 2],?_⟩,?_⟩
   ·dsimp only
    rw[entP_zero]
    exact xc0
   ·intro b hb
    have hb:b≤s.n:=hb
    have htb:(b:Int).toNat=b:=a0E b
    have hpl:(entP s.n s.st.ep i b).length≤1000:=by
     have h1:=entP_len s.n s.st.ep i b
     have h2:i*s.n≤17*6:=a2I (by omega) hn6
     omega
    refine x52 (fun hc hc=>?_) (fun hc hc=>?_) (fun hc=>?_)
    ·have hv:s.st.ep i b≠-1:=by rw[hti,htb] at hc;exact hc
     refine⟨b+1,⟨by dsimp only;omega,by dsimp only;omega⟩,some [some 0,some 1,some 4],?_⟩
     dsimp only
     rw[entP_new hv,hti,htb,a0M]
     refine x1 ?_
     refine And.intro (a1q (c:=wtC) (a:=(i,b,s.st.ep i b)) rfl (fun _ _=>rfl)) ?_
     exact xc0
    ·have hv:s.st.ep i b=-1:=by rw[hti,htb] at hc;exact a0O.1 hc
     refine⟨b+1,⟨by dsimp only;omega,by dsimp only;omega⟩,some [some 0,some 1,some 2],?_⟩
     dsimp only
     rw[entP_old hv]
     exact xc0
    ·obtain rfl:b=s.n:=by omega
     rw[entP_all]
     refine⟨i+1,⟨by dsimp only;omega,by dsimp only;omega⟩,some [some 0,some 1,some 2],?_⟩
     exact xc0
  ·obtain rfl:i=s.st.E.length:=by omega
   refine⟨_,rfl,?_⟩
   unfold Sv.W RS.ents
   exact xc0
def Sv.AreS (s:Sv):Prop:=(∀i,i<s.sec.length→(0≤s.sec.getD i 0∧s.sec.getD i 0≤(s.d.cnt:Int)-1)∧∀k,k<i→s.sec.getD k 0≠s.sec.getD i 0)∧s.sec.length=s.n
theorem areSectors73 (s:Sv) (hd:s.d.Ok) (hx:s.x.Ok) (hsec:s.sec.length≤1000000):a0g Tryz.prog 73 false [.agg s.c] (·=.prop s.AreS (Classical.propDecidable _)):=by
 have hni:=Sv.nI hx
 refine a0a Tryz.E_ok Tryz.func73 rfl (by kernel_rfl) ?_
 unfold Sv.c
 (repeat' ((conv=>whnf);first|(with_reducible first|apply spl|apply spl'|refine iJ ?_)<;>intro hc<;>try(exfalso;omega)|refine vcq ?_|refine dr 9 ?_|refine dr 11 ?_));all_goals(try conv=>whnf);try exact trivial
 refine⟨Nat,fun i=>i≤s.sec.length∧∀j,j<i→(0≤s.sec.getD j 0∧s.sec.getD j 0≤(s.d.cnt:Int)-1)∧∀k,k<j→s.sec.getD k 0≠s.sec.getD j 0,fun i=>s.sec.length-i,fun i=>[(3,.int .i64 (i:Nat))],fun _=>[],fun _=>[],0,⟨⟨by omega,fun j hj=>by omega⟩,none,?_⟩,?_⟩
 ·exact xc50
 ·rintro i ⟨hi,hall⟩
  have hti:(i:Int).toNat=i:=a0E i
  (repeat' ((conv=>whnf);first|(with_reducible first|apply spl|apply spl'|refine iJ ?_)<;>intro hc<;>try(exfalso;omega)|refine vcq ?_|refine dr 9 ?_|refine dr 11 ?_));all_goals(try conv=>whnf);try exact trivial
  ·have hil:i<s.sec.length:=by omega
   rw[hti]
   refine a0d (IsSector56 s.d hd (s.sec.getD i 0)) rfl ?_
   (repeat' ((conv=>whnf);first|(with_reducible first|apply spl|apply spl'|refine iJ ?_)<;>intro hc<;>try(exfalso;omega)|refine vcq ?_|refine dr 9 ?_|refine dr 11 ?_));all_goals(try conv=>whnf);try exact trivial
   ·have hno:¬s.AreS:=fun h=>hc (h.1 i hil).1
    refine⟨_,rfl,?_⟩
    exact xc50
   ·have hr:=a0O.1 hc
    refine⟨Nat,fun k=>k≤i∧∀a,a<k→s.sec.getD a 0≠s.sec.getD i 0,fun k=>i-k,fun k=>[(4,.int .i64 (k:Nat))],fun _=>[],fun _=>[],0,⟨⟨by omega,fun j hj=>by omega⟩,none,?_⟩,?_⟩
    ·exact xc50
    ·rintro k ⟨hk,hka⟩
     have htk:(k:Int).toNat=k:=a0E k
     (repeat' ((conv=>whnf);first|(with_reducible first|apply spl|apply spl'|refine iJ ?_)<;>intro hc<;>try(exfalso;omega)|refine vcq ?_|refine dr 9 ?_|refine dr 11 ?_));all_goals(try conv=>whnf);try exact trivial
     ·rw[hti,htk] at hc
      have hno:¬s.AreS:=fun h=>(h.1 i hil).2 k (by omega) hc.symm
      refine⟨_,rfl,?_⟩
      exact xc50
     ·rw[hti,htk] at hc
      refine⟨k+1,⟨⟨by omega,fun a ha=>?_⟩,by dsimp only;omega⟩,none,?_⟩
      ·rcases a0I (show a≤k by omega) with g|rfl
       ·exact hka a g
       ·exact fun e=>hc e.symm
      ·exact xc50
     ·obtain rfl:k=i:=by omega
      refine⟨k+1,⟨⟨by omega,fun j hj=>?_⟩,by dsimp only;omega⟩,none,?_⟩
      ·rcases a0I (show j≤k by omega) with g|rfl
       ·exact hall j g
       ·exact⟨hr,hka⟩
      ·exact xc50
  ·obtain rfl:i=s.sec.length:=by omega
   have hiff:s.AreS↔(s.sec.length:Int)=s.x.n:=⟨fun h=>by have:=h.2;omega,fun h=>⟨hall,by omega⟩⟩
   refine⟨_,rfl,?_⟩
   (repeat' ((conv=>whnf);first|(with_reducible first|apply spl|apply spl'|refine iJ ?_)<;>intro hc<;>try(exfalso;omega)|refine vcq ?_|refine dr 9 ?_|refine dr 11 ?_));all_goals(try conv=>whnf);try exact trivial
   exact⟨hiff.symm,trivial⟩
end Go.Proofs
