/- Own work: texts of the proof of a law (WvT1, WqD9, WvA, WvN, WqDA, WvT2, WsR, WsS, WsT, WsU, WsV, WsX, WsY, WsZ, WtA, Wc3, WtB, WtC, WtD, WuA, WuB, WuC). No condition. -/
import Derived.Test.YtkgjhinmndcmjaaGreatPart20
import Derived.Shelf.Sort.Plain
namespace Go.Proofs
open Go.Shelf
def Tryz.lays189_ren:Go.Shelf.Ren:=⟨fun|189=>137|125=>169|257=>168|128=>194|129=>195|294=>185|295=>186|296=>187|297=>188|298=>189|299=>190|216=>191|300=>192|301=>193|328=>205|329=>206|330=>207|331=>208|332=>209|215=>210|343=>211|n=>n,fun|28=>31|3=>3|46=>183|0=>0|51=>227|53=>230|4=>4|183=>257|182=>256|131=>172|5=>5|9=>9|218=>278|222=>282|228=>284|229=>100|n=>n,fun|n=>n⟩
theorem Tryz.lays189:Go.Proofs.Lays.n189 Tryz.prog Tryz.lays189_ren:={
 mixed:=by kernel_rfl
 f125:=Tryz.func169.trans (congrArg some (by kernel_rfl))
 f128:=Tryz.func194.trans (congrArg some (by kernel_rfl))
 f129:=Tryz.func195.trans (congrArg some (by kernel_rfl))
 f189:=Tryz.func137.trans (congrArg some (by kernel_rfl))
 f215:=Tryz.func210.trans (congrArg some (by kernel_rfl))
 f216:=Tryz.func191.trans (congrArg some (by kernel_rfl))
 f257:=Tryz.func168.trans (congrArg some (by kernel_rfl))
 f294:=Tryz.func185.trans (congrArg some (by kernel_rfl))
 f295:=Tryz.func186.trans (congrArg some (by kernel_rfl))
 f296:=Tryz.func187.trans (congrArg some (by kernel_rfl))
 f297:=Tryz.func188.trans (congrArg some (by kernel_rfl))
 f298:=Tryz.func189.trans (congrArg some (by kernel_rfl))
 f299:=Tryz.func190.trans (congrArg some (by kernel_rfl))
 f300:=Tryz.func192.trans (congrArg some (by kernel_rfl))
 f301:=Tryz.func193.trans (congrArg some (by kernel_rfl))
 f328:=Tryz.func205.trans (congrArg some (by kernel_rfl))
 f329:=Tryz.func206.trans (congrArg some (by kernel_rfl))
 f330:=Tryz.func207.trans (congrArg some (by kernel_rfl))
 f331:=Tryz.func208.trans (congrArg some (by kernel_rfl))
 f332:=Tryz.func209.trans (congrArg some (by kernel_rfl))
 f343:=Tryz.func211.trans (congrArg some (by kernel_rfl))
 t0:=Tryz.underlying0
 a0:=Tryz.isAgg0
 z0:=Tryz.sizeOf0
 v0:=Tryz.zeroValue0
 t3:=Tryz.underlying3
 a3:=Tryz.isAgg3
 z3:=Tryz.sizeOf3
 v3:=Tryz.zeroValue3
 t4:=Tryz.underlying4
 a4:=Tryz.isAgg4
 z4:=Tryz.sizeOf4
 v4:=Tryz.zeroValue4
 t5:=Tryz.underlying5
 a5:=Tryz.isAgg5
 z5:=Tryz.sizeOf5
 v5:=Tryz.zeroValue5
 t9:=Tryz.underlying9
 a9:=Tryz.isAgg9
 z9:=Tryz.sizeOf9
 v9:=Tryz.zeroValue9
 t28:=Tryz.underlying31
 a28:=Tryz.isAgg31
 z28:=Tryz.sizeOf31
 v28:=Tryz.zeroValue31
 t46:=Tryz.underlying183
 a46:=Tryz.isAgg183
 z46:=Tryz.sizeOf183
 v46:=Tryz.zeroValue183
 t51:=Tryz.underlying227
 a51:=Tryz.isAgg227
 z51:=Tryz.sizeOf227
 v51:=Tryz.zeroValue227
 t53:=Tryz.underlying230
 a53:=Tryz.isAgg230
 z53:=Tryz.sizeOf230
 v53:=Tryz.zeroValue230
 t131:=Tryz.underlying172
 a131:=Tryz.isAgg172
 z131:=Tryz.sizeOf172
 v131:=Tryz.zeroValue172
 t182:=Tryz.underlying256
 a182:=Tryz.isAgg256
 z182:=Tryz.sizeOf256
 v182:=Tryz.zeroValue256
 t183:=Tryz.underlying257
 a183:=Tryz.isAgg257
 z183:=Tryz.sizeOf257
 v183:=Tryz.zeroValue257
 t218:=Tryz.underlying278
 a218:=Tryz.isAgg278
 z218:=Tryz.sizeOf278
 v218:=Tryz.zeroValue278
 t222:=Tryz.underlying282
 a222:=Tryz.isAgg282
 z222:=Tryz.sizeOf282
 v222:=Tryz.zeroValue282
 t228:=Tryz.underlying284
 a228:=Tryz.isAgg284
 z228:=Tryz.sizeOf284
 v228:=Tryz.zeroValue284
 t229:=Tryz.underlying100
 a229:=Tryz.isAgg100
 z229:=Tryz.sizeOf100
 v229:=Tryz.zeroValue100}
end Go.Proofs
namespace Go.Proofs
open Go Go.Sx
set_option maxRecDepth 100000
set_option maxHeartbeats 40000000
theorem sortsInt:SortsInt Tryz.prog 137:=fun blk cap l w hH hb hl=>Any.slices_Sort_int Tryz.lays189 blk 0 cap l w hH hb hl
theorem sortAny (l:List Int) (hl:l.length≤1000000):Sx.Callee Tryz.prog 137 [.osl 0 l.length] [.row 3 1 l.length (a0e intC 0 l) true]
  (fun r H=>r=.tup []∧∃m:List Int,m.Perm l∧(∀p q,p<q→q<l.length→m.getD p 0≤m.getD q 0)∧H=[.row 3 1 l.length (a0e intC 0 m) true]):=by
 by_cases h:l.length≤12
 ·exact sort71 l h
 ·refine Callee.mono (callee_sort ⟨_,Tryz.func137,by kernel_rfl,by kernel_rfl⟩ sortsInt (by omega) (by omega)) ?_
  rintro v H ⟨rfl,rfl⟩
  refine⟨rfl,_,List.mergeSort_perm l _,fun p q hpq hq=>?_,rfl⟩
  have hs:=List.pairwise_mergeSort (le:=fun x y:Int=>decide (x≤y)) (fun a b c h1 h2=>by simp only[decide_eq_true_eq] at *;omega) (fun a b=>by simp only[Bool.or_eq_true,decide_eq_true_eq];omega) l
  have hml:(l.mergeSort fun x y=>decide (x≤y)).length=l.length:=List.length_mergeSort _
  rw[List.pairwise_iff_getElem] at hs
  have:=hs p q (by omega) (by omega) hpq
  simp only[decide_eq_true_eq] at this
  rw[List.getD_eq_getElem?_getD,List.getElem?_eq_getElem (by omega),List.getD_eq_getElem?_getD,List.getElem?_eq_getElem (by omega)]
  exact this
theorem sortedAny (l:List Int) (hl:l.length≤1000000):Sx.Callee Tryz.prog 93 [.fn (.func 138) [] [.ptr 0 0]] [.cells 31 [.sl 1 l.length (a0e intC 0 l)]]
  (fun r H=>∃m:List Int,m.Perm l∧(∀p q,p<q→q<l.length→m.getD p 0≤m.getD q 0)∧r=.osl 1 l.length∧H=[.cells 31 [.sl 1 l.length (a0e intC 0 l)],.row 3 1 l.length (a0e intC 0 m) true]):=by
 refine a0o Tryz.E_ok Tryz.func93 rfl (by kernel_rfl) ?_
 (repeat' ((conv=>whnf);first|(with_reducible first|apply spl|apply spl'|refine iJ ?_)<;>intro hc<;>try(exfalso;omega)|refine vcq ?_|fail));all_goals(try conv=>whnf);try exact trivial
 refine a0u Tryz.E_ok Tryz.func136 rfl (by kernel_rfl) ?_
 (repeat' ((conv=>whnf);first|(with_reducible first|apply spl|apply spl'|refine iJ ?_)<;>intro hc<;>try(exfalso;omega)|refine vcq ?_|fail));all_goals(try conv=>whnf);try exact trivial
 refine a0u Tryz.E_ok Tryz.func167 rfl (by kernel_rfl) ?_
 (repeat' ((conv=>whnf);first|(with_reducible first|apply spl|apply spl'|refine iJ ?_)<;>intro hc<;>try(exfalso;omega)|refine vcq ?_|fail));all_goals(try conv=>whnf);try exact trivial
 refine a0u Tryz.E_ok Tryz.func138 rfl (by kernel_rfl) ?_
 (repeat' ((conv=>whnf);first|(with_reducible first|apply spl|apply spl'|refine iJ ?_)<;>intro hc<;>try(exfalso;omega)|refine vcq ?_|fail));all_goals(try conv=>whnf);try exact trivial
 refine⟨Nat,fun i=>i≤l.length,fun i=>l.length-i,fun i=>[(7,.int .i64 (i:Nat))],fun i=>[(1,.cells 31 [.osl 3 (l.take i).length])],fun i=>[.row 3 1 (l.take i).length (a0e intC 0 (l.take i)) true],0,⟨by omega,some [some 0,some 1,some 2,none],?_⟩,?_⟩
 ·(repeat' ((conv=>whnf);first|(with_reducible first|apply spl|apply spl'|refine iJ ?_)<;>intro hc<;>try(exfalso;omega)|refine vcq ?_|fail));all_goals(try conv=>whnf);try exact trivial
 ·intro i hi
  have hi:i≤l.length:=hi
  have hti:(i:Int).toNat=i:=Int.toNat_natCast i
  (repeat' ((conv=>whnf);first|(with_reducible first|apply spl|apply spl'|refine iJ ?_)<;>intro hc<;>try(exfalso;omega)|refine vcq ?_|fail));all_goals(try conv=>whnf);try exact trivial
  ·have hil:i<l.length:=by omega
   have hlt:(l.take i).length=i:=by rw[List.length_take];omega
   rw[hti]
   refine ycall_exec Tryz.E_ok rfl rfl rfl ?_
   (repeat' ((conv=>whnf);first|(with_reducible first|apply spl|apply spl'|refine iJ ?_)<;>intro hc<;>try(exfalso;omega)|refine vcq ?_|fail));all_goals(try conv=>whnf);try exact trivial
   have e:l.take (i+1)=l.take i++[l.getD i 0]:=by
    rw[List.take_succ_eq_append_getElem hil]
    simp[List.getD_eq_getElem?_getD,hil]
   have hlt2:(l.take (i+1)).length=(l.take i).length+1:=by rw[e];simp
   refine⟨i+1,⟨by omega,by dsimp only;omega⟩,some [some 0,some 1,some 2,some 5],?_⟩
   (repeat' ((conv=>whnf);first|(with_reducible first|apply spl|apply spl'|refine iJ ?_)<;>intro hc<;>try(exfalso;omega)|refine vcq ?_|fail));all_goals(try conv=>whnf);try exact trivial
   refine⟨fun k hk=>?_,?_⟩
   ·rw[e]
    exact a2h (c:=intC) rfl (fun _ _=>rfl) k (by omega)
   ·(repeat' ((conv=>whnf);first|(with_reducible first|apply spl|apply spl'|refine iJ ?_)<;>intro hc<;>try(exfalso;omega)|refine vcq ?_|fail));all_goals(try conv=>whnf);try exact trivial
  ·obtain rfl:i=l.length:=by omega
   rw[List.take_length]
   refine a0f [3] (sortAny l hl) rfl ?_ ?_
   ·(repeat' ((conv=>whnf);first|(with_reducible first|apply spl|apply spl'|refine iJ ?_)<;>intro hc<;>try(exfalso;omega)|refine vcq ?_|fail));all_goals(try conv=>whnf);try exact trivial
   ·rintro _ _ ⟨rfl,m,g1,g2,rfl⟩
    (repeat' ((conv=>whnf);first|(with_reducible first|apply spl|apply spl'|refine iJ ?_)<;>intro hc<;>try(exfalso;omega)|refine vcq ?_|fail));all_goals(try conv=>whnf);try exact trivial
    refine⟨_,_,⟨m,g1,g2,rfl,rfl⟩,some [some 0,some 3],?_⟩
    (repeat' ((conv=>whnf);first|(with_reducible first|apply spl|apply spl'|refine iJ ?_)<;>intro hc<;>try(exfalso;omega)|refine vcq ?_|fail));all_goals(try conv=>whnf);try exact trivial
theorem ordI_of_sorted {l m:List Int} (g1:m.Perm l) (hall:∀j,j<l.length→m.getD j 0=j):IsOrdI l.length l:=by
 have hml:=g1.length_eq
 have hg:∀i (hi:i<l.length),l[i]=l.getD i 0:=fun i hi=>by simp[List.getD_eq_getElem?_getD,hi]
 have hm:m=(List.range l.length).map Int.ofNat:=by
  refine List.ext_getElem (by simp[hml]) fun j h1 h2=>?_
  have:=hall j (by omega)
  rw[List.getD_eq_getElem?_getD,List.getElem?_eq_getElem h1] at this
  simpa using this
 have hnd:l.Nodup:=g1.nodup_iff.1 (by
  rw[hm,List.Nodup,List.pairwise_map]
  exact List.nodup_range.imp fun h e=>h (Int.ofNat.inj e))
 refine⟨fun i hi=>?_,fun i hi k hk e=>?_,rfl⟩
 ·have h1:l.getD i 0∈m:=g1.mem_iff.2 (by rw[←hg i hi];exact List.getElem_mem hi)
  rw[hm] at h1
  obtain⟨j,hj,e⟩:=List.mem_map.1 h1
  have:=List.mem_range.1 hj
  have e:(j:Int)=_:=e
  omega
 ·rw[List.Nodup,List.pairwise_iff_getElem] at hnd
  exact hnd k i (by omega) hi hk (by rw[hg k (by omega),hg i hi];exact e)
end Go.Proofs
namespace Go.Proofs
open Go Go.Sx
set_option maxRecDepth 100000
set_option maxHeartbeats 40000000
theorem Cyl13 (q:Qu) (hq:q.Ok) (n:Int) (h0:0≤n) (h1:n<q.d.cnt):a0h Tryz.prog 27 false [.agg q.c,.int .i64 n] (·=.int .i64 (q.cy n)):=by
 have h:=Cylinder13 q hq n.toNat (by omega)
 rwa [Int.toNat_of_nonneg h0] at h
theorem Run14q (q:Qu) (hq:q.Ok) (r:Nat) (hr:r<q.rq.length):a0h Tryz.prog 29 false [q.d.v,.int .i64 (q.rq.getD r Rq.none).fr,.int .i64 (q.rq.getD r Rq.none).ct] (·=.tup [.agg [.int .i64 (q.rn false r),.int .i64 (q.rn true r)],.int .i64 0]):=by
 have hr1:=Qu.rq_at hq hr
 unfold Qu.RqOk at hr1
 have h:=Run14 q.d hq.d (q.rq.getD r Rq.none).fr.toNat (q.rq.getD r Rq.none).ct.toNat (by omega) (by omega)
 rw[Int.toNat_of_nonneg (by omega),Int.toNat_of_nonneg (by omega)] at h
 exact h
theorem place_facts {q:Qu} (hq:q.Ok) {o:List Nat} (ho:∀x∈o,x<q.rq.length) (hol:o.length≤6) {i:Nat} (hi:i<o.length) :
  o.getD i 0<q.rq.length∧(0≤(q.rq.getD (o.getD i 0) Rq.none).fr∧(q.rq.getD (o.getD i 0) Rq.none).fr<q.d.cnt)∧
  (1≤(q.rq.getD (o.getD i 0) Rq.none).ct∧0≤(q.rq.getD (o.getD i 0) Rq.none).fr+(q.rq.getD (o.getD i 0) Rq.none).ct-1∧(q.rq.getD (o.getD i 0) Rq.none).fr+(q.rq.getD (o.getD i 0) Rq.none).ct-1<q.d.cnt)∧
  q.cy (q.rq.getD (o.getD i 0) Rq.none).fr<q.d.S.length∧((q.stQ true o i).1<q.d.S.length)∧
  (∀hi,0≤(q.stQ hi o i).2∧(q.stQ hi o i).2≤180000000)∧(∀hi,0≤q.rn hi (o.getD i 0)∧q.rn hi (o.getD i 0)≤24000000):=by
 have hr:o.getD i 0<q.rq.length:=by rw[a0r hi];exact ho _ (List.getElem_mem hi)
 have hr1:=Qu.rq_at hq hr
 unfold Qu.RqOk at hr1
 have hb:=fun h=>Qu.stQ_bnd hq h ho i (by omega)
 refine⟨hr,by omega,by omega,Qu.cy_lt (by omega) (by omega),(hb true).1,fun h=>⟨(hb h).2.1,by have:=(hb h).2.2;omega⟩,fun h=>Qu.rn_bndB hq hr h⟩
def Qu.eR (q:Qu) (o:List Nat) (k:Nat):List V:=[.int .i64 (q.stQ false o (k+1)).2,.int .i64 (q.stQ true o (k+1)).2]
theorem ends51 (q:Qu) (hq:q.Ok) (o:List Nat) (ho:∀x∈o,x<q.rq.length) (hol:o.length≤6):a0h Tryz.prog 149 false [.agg q.c,.sl 1 o.length (a0e natC 0 o)] (·=.sl 2 o.length (q.eR o)):=by
 have hqd:=hq.d
 have hcy:=hq.cyl
 have hcn:=q.d.cnt_le hqd
 refine a0a Tryz.E_ok Tryz.func149 rfl (by kernel_rfl) ?_
 (repeat' ((conv=>whnf);first|(with_reducible first|apply spl|apply spl'|refine iJ ?_)<;>intro hc<;>try(exfalso;omega)|refine vcq ?_|refine dr 25 ?_|refine dr 8 ?_|refine dr 9 ?_));all_goals(try conv=>whnf);try exact trivial
 refine⟨Nat,fun i=>i≤o.length,fun i=>o.length-i,fun i=>[(8,.int .i64 (i:Nat)),(7,.int .i64 (q.stQ true o i).1),(5,.osl 2 i)],fun i=>[(1,.cells 27 [.int .i64 (q.stQ false o i).2,.int .i64 (q.stQ true o i).2])],fun i=>[.row 27 2 i (q.eR o) true],0,⟨by omega,some [some 0,some 1,none],?_⟩,?_⟩
 ·(repeat' ((conv=>whnf);first|(with_reducible first|apply spl|apply spl'|refine iJ ?_)<;>intro hc<;>try(exfalso;omega)|refine vcq ?_|refine dr 25 ?_|refine dr 8 ?_|refine dr 9 ?_));all_goals(try conv=>whnf);try exact trivial
  refine⟨show q.cyl=((q.cyl.toNat:Nat):Int) by omega,?_⟩
  (repeat' ((conv=>whnf);first|(with_reducible first|apply spl|apply spl'|refine iJ ?_)<;>intro hc<;>try(exfalso;omega)|refine vcq ?_|refine dr 25 ?_|refine dr 8 ?_|refine dr 9 ?_));all_goals(try conv=>whnf);try exact trivial
 ·intro i hi
  have hi:i≤o.length:=hi
  have hti:(i:Int).toNat=i:=Int.toNat_natCast i
  have hfa:=fun h=>place_facts hq ho hol (i:=i) h
  (repeat' ((conv=>whnf);first|(with_reducible first|apply spl|apply spl'|refine iJ ?_)<;>intro hc<;>try(exfalso;omega)|refine vcq ?_|refine dr 9 ?_|refine dr 8 ?_|refine dr 25 ?_));all_goals(try conv=>whnf);try exact trivial
  ·have hil:i<o.length:=by omega
   obtain⟨f1,f2,f3,f4,f5,f6,f7⟩:=hfa hil
   have e1:q.stQ false o (i+1)=(q.cy ((q.rq.getD (o.getD i 0) Rq.none).fr+(q.rq.getD (o.getD i 0) Rq.none).ct-1),q.srv (o.getD i 0) (q.stQ false o i).2 (q.sek (q.stQ true o i).1 (q.cy (q.rq.getD (o.getD i 0) Rq.none).fr)).1 (q.rn false (o.getD i 0))):=by rw[q.stQ_cyl];rfl
   have e2:q.stQ true o (i+1)=(q.cy ((q.rq.getD (o.getD i 0) Rq.none).fr+(q.rq.getD (o.getD i 0) Rq.none).ct-1),q.srv (o.getD i 0) (q.stQ true o i).2 (q.sek (q.stQ true o i).1 (q.cy (q.rq.getD (o.getD i 0) Rq.none).fr)).2 (q.rn true (o.getD i 0))):=rfl
   have hk:=q.sek_bnd hq (q.stQ true o i).1 (q.cy (q.rq.getD (o.getD i 0) Rq.none).fr)
   have htr:((o.getD i 0:Nat):Int).toNat=o.getD i 0:=Int.toNat_natCast _
   rw[hti]
   (repeat' ((conv=>whnf);first|(with_reducible first|apply spl|apply spl'|refine iJ ?_)<;>intro hc<;>try(exfalso;omega)|refine vcq ?_|refine dr 9 ?_|refine dr 8 ?_|refine dr 25 ?_));all_goals(try conv=>whnf);try exact trivial
   rw[htr]
   (repeat' ((conv=>whnf);first|(with_reducible first|apply spl|apply spl'|refine iJ ?_)<;>intro hc<;>try(exfalso;omega)|refine vcq ?_|refine dr 9 ?_|refine dr 8 ?_|refine dr 25 ?_));all_goals((try conv=>whnf);try exact trivial);(repeat' ((first|(refine a0b (Cyl13 q hq _ (by omega) (by omega)) rfl ?_;rintro _ rfl)|(refine a0c (Cyl13 q hq _ (by omega) (by omega)) rfl ?_)|(refine a0g (fun _=>Cyl13 q hq _ (by omega) (by omega)) rfl ?_)|(refine a0b (SeekOf12 q hq _ _ f5 f4) rfl ?_;rintro _ rfl)|(refine a0c (SeekOf12 q hq _ _ f5 f4) rfl ?_)|(refine a0g (fun _=>SeekOf12 q hq _ _ f5 f4) rfl ?_)|(refine a0b (Run14q q hq _ f1) rfl ?_;rintro _ rfl)|(refine a0c (Run14q q hq _ f1) rfl ?_)|(refine a0g (fun _=>Run14q q hq _ f1) rfl ?_));(repeat' ((conv=>whnf);first|(with_reducible first|apply spl|apply spl'|refine iJ ?_)<;>intro hc<;>try(exfalso;omega)|refine vcq ?_|refine dr 9 ?_|refine dr 8 ?_|refine dr 25 ?_));all_goals((try conv=>whnf);try exact trivial)))
   rw[hti]
   refine a0c (Serve15 q hq _ f1 _ _ _ (by have:=f6 false;omega) (by omega) (by have:=f7 false;omega)) rfl ?_
   (repeat' ((conv=>whnf);first|(with_reducible first|apply spl|apply spl'|refine iJ ?_)<;>intro hc<;>try(exfalso;omega)|refine vcq ?_|refine dr 9 ?_|refine dr 8 ?_|refine dr 25 ?_));all_goals(try conv=>whnf);try exact trivial
   rw[hti]
   refine a0c (Serve15 q hq _ f1 _ _ _ (by have:=f6 true;omega) (by omega) (by have:=f7 true;omega)) rfl ?_
   (repeat' ((conv=>whnf);first|(with_reducible first|apply spl|apply spl'|refine iJ ?_)<;>intro hc<;>try(exfalso;omega)|refine vcq ?_|refine dr 9 ?_|refine dr 8 ?_|refine dr 25 ?_));all_goals((try conv=>whnf);try exact trivial);(repeat' ((first|(refine a0b (Cyl13 q hq _ (by omega) (by omega)) rfl ?_;rintro _ rfl)|(refine a0c (Cyl13 q hq _ (by omega) (by omega)) rfl ?_)|(refine a0g (fun _=>Cyl13 q hq _ (by omega) (by omega)) rfl ?_));(repeat' ((conv=>whnf);first|(with_reducible first|apply spl|apply spl'|refine iJ ?_)<;>intro hc<;>try(exfalso;omega)|refine vcq ?_|refine dr 9 ?_|refine dr 8 ?_|refine dr 25 ?_));all_goals((try conv=>whnf);try exact trivial)))
   refine⟨i+1,⟨by omega,by dsimp only;omega⟩,some [some 0,some 1,some 7],?_⟩
   have ea:q.eR o i=[.int .i64 (q.stQ false o (i+1)).2,.int .i64 (q.stQ true o (i+1)).2]:=rfl
   rw[e1,e2] at ea
   dsimp only
   rw[e1,e2]
   (repeat' ((conv=>whnf);first|(with_reducible first|apply spl|apply spl'|refine iJ ?_)<;>intro hc<;>try(exfalso;omega)|refine vcq ?_|refine dr 25 ?_|refine dr 8 ?_|refine dr 9 ?_));all_goals(try conv=>whnf);try exact trivial
   refine⟨appF_last ea.symm,?_⟩
   (repeat' ((conv=>whnf);first|(with_reducible first|apply spl|apply spl'|refine iJ ?_)<;>intro hc<;>try(exfalso;omega)|refine vcq ?_|refine dr 25 ?_|refine dr 8 ?_|refine dr 9 ?_));all_goals(try conv=>whnf);try exact trivial
  ·obtain rfl:i=o.length:=by omega
   refine⟨_,rfl,?_⟩
   (repeat' ((conv=>whnf);first|(with_reducible first|apply spl|apply spl'|refine iJ ?_)<;>intro hc<;>try(exfalso;omega)|refine vcq ?_|refine dr 25 ?_|refine dr 8 ?_|refine dr 9 ?_));all_goals(try conv=>whnf);try exact trivial
theorem chkV (q:Qu) (hq:q.Ok):a0h Tryz.prog 72 false [.agg q.c] (·=.int .i64 0):=by
 have hz:=hq.d.z
 have hSl:=(q.d.S_len hq.d).1
 have hskl:=hq.skl
 have hn:=hq.rql
 have hck:=Check26 q (by omega) (by omega) (by omega)
 rwa [Qu.chk_of hq] at hck
theorem IsOrd.int {n:Nat} {o:List Nat} (h:IsOrd n o):IsOrdI n (o.map Int.ofNat):=by
 have hg:∀i,i<o.length→(o.map Int.ofNat).getD i 0=(o.getD i 0:Nat):=fun i hi=>by
  rw[List.getD_eq_getElem?_getD,List.getElem?_map,List.getD_eq_getElem?_getD,List.getElem?_eq_getElem hi]
  rfl
 have hl:(o.map Int.ofNat).length=o.length:=List.length_map ..
 refine⟨fun i hi=>?_,fun i hi k hk e=>?_,by rw[hl];exact h.len⟩
 ·rw[hl] at hi
  rw[hg i hi]
  have:=h.lt (o.getD i 0) (by rw[a0r hi];exact List.getElem_mem hi)
  omega
 ·rw[hl] at hi
  rw[hg i hi,hg k (by omega)] at e
  have:=h.inj (by omega) hi (Int.ofNat_inj.1 e)
  omega
theorem IsOrderN (q:Qu) (hrq:q.rq.length≤1000000) (o:List Nat) (ho:IsOrd q.rq.length o):a0h Tryz.prog 172 false [.agg q.c,.sl 1 o.length (a0e natC 0 o)] (·=.kb true):=by
 have h:=ho.int
 have hl:(o.map Int.ofNat).length=o.length:=List.length_map ..
 have hc:=IsOrder9 q hrq (o.map Int.ofNat) (by rw[hl,ho.len];exact hrq)
 rw[hl,←rowNat] at hc
 exact pureWk hc fun _ e=>⟨_,rfl,fun I w v hd=>by subst e;simpa [Den,h] using hd⟩
/-! a queue that is not valid -/
/-! an order that is none -/
/-! an order -/
theorem CheckOrderO (q:Qu) (hq:q.Ok) (o:List Nat) (ho:IsOrd q.rq.length o):a0h Tryz.prog 148 false [.agg q.c,.sl 1 o.length (a0e natC 0 o)] (·=.int .i64 0):=by
 have hrl:=hq.rql
 refine a0a Tryz.E_ok Tryz.func148 rfl (by kernel_rfl) ?_
 (repeat' ((conv=>whnf);first|(with_reducible first|apply spl|apply spl'|refine iJ ?_)<;>intro hc<;>try(exfalso;omega)|refine vcq ?_|refine dr 9 ?_));all_goals(try conv=>whnf);try exact trivial
 refine a0b (chkV q hq) rfl ?_
 rintro _ rfl
 (repeat' ((conv=>whnf);first|(with_reducible first|apply spl|apply spl'|refine iJ ?_)<;>intro hc<;>try(exfalso;omega)|refine vcq ?_|refine dr 9 ?_));all_goals(try conv=>whnf);try exact trivial
 refine a0b (IsOrderN q (by omega) o ho) rfl ?_
 rintro _ rfl
 (repeat' ((conv=>whnf);first|(with_reducible first|apply spl|apply spl'|refine iJ ?_)<;>intro hc<;>try(exfalso;omega)|refine vcq ?_|refine dr 9 ?_));all_goals(try conv=>whnf);try exact trivial
 refine⟨_,rfl,?_⟩
 (repeat' ((conv=>whnf);first|(with_reducible first|apply spl|apply spl'|refine iJ ?_)<;>intro hc<;>try(exfalso;omega)|refine vcq ?_|refine dr 9 ?_));all_goals(try conv=>whnf);try exact trivial
theorem REndsO (q:Qu) (hq:q.Ok) (o:List Nat) (ho:IsOrd q.rq.length o):a0h Tryz.prog 110 false [.agg q.c,.sl 1 o.length (a0e natC 0 o)] (·=.tup [.sl 2 q.rq.length (fun r=>[.int .i64 (q.endOf false o r),.int .i64 (q.endOf true o r)]),.int .i64 0]):=by
 have hn:=hq.rql
 have hlen:=ho.len
 refine a0a Tryz.E_ok Tryz.func110 rfl (by kernel_rfl) ?_
 (repeat' ((conv=>whnf);first|(with_reducible first|apply spl|apply spl'|refine iJ ?_)<;>intro hc<;>try(exfalso;omega)|refine vcq ?_|refine dr 9 ?_));all_goals(try conv=>whnf);try exact trivial
 refine a0b (CheckOrderO q hq o ho) rfl ?_
 rintro _ rfl
 (repeat' ((conv=>whnf);first|(with_reducible first|apply spl|apply spl'|refine iJ ?_)<;>intro hc<;>try(exfalso;omega)|refine vcq ?_|refine dr 9 ?_));all_goals(try conv=>whnf);try exact trivial
 refine a0b (ends51 q hq o ho.lt (by omega)) rfl ?_
 rintro _ rfl
 (repeat' ((conv=>whnf);first|(with_reducible first|apply spl|apply spl'|refine iJ ?_)<;>intro hc<;>try(exfalso;omega)|refine vcq ?_|refine dr 9 ?_));all_goals(try conv=>whnf);try exact trivial
 refine⟨Nat,fun i=>i≤o.length,fun i=>o.length-i,fun i=>[(9,.int .i64 (i:Nat))],fun i=>[(1,.row 27 2 o.length (fun r=>[.int .i64 (q.endTo false o i r),.int .i64 (q.endTo true o i r)]) false)],fun _=>[],0,⟨by omega,some [some 0,some 1],?_⟩,?_⟩
 ·(repeat' ((conv=>whnf);first|(with_reducible first|apply spl|apply spl'|refine iJ ?_)<;>intro hc<;>try(exfalso;omega)|refine vcq ?_|refine dr 9 ?_));all_goals(try conv=>whnf);try exact trivial
 ·intro i hi
  have hi:i≤o.length:=hi
  have hti:(i:Int).toNat=i:=Int.toNat_natCast i
  (repeat' ((conv=>whnf);first|(with_reducible first|apply spl|apply spl'|refine iJ ?_)<;>intro hc<;>try(exfalso;omega)|refine vcq ?_|refine dr 9 ?_));all_goals(try conv=>whnf);try exact trivial
  ·have hil:i<o.length:=by omega
   have hr:o.getD i 0<q.rq.length:=by rw[a0r hil];exact ho.lt _ (List.getElem_mem hil)
   have he1:=Qu.endTo_succ (q:=q) (hi:=false) ho hil
   have he2:=Qu.endTo_succ (q:=q) (hi:=true) ho hil
   rw[hti]
   (repeat' ((conv=>whnf);first|(with_reducible first|apply spl|apply spl'|refine iJ ?_)<;>intro hc<;>try(exfalso;omega)|refine vcq ?_|refine dr 9 ?_));all_goals(try conv=>whnf);try exact trivial
   refine⟨i+1,⟨by omega,by dsimp only;omega⟩,some [some 0,some 1],?_⟩
   (repeat' ((conv=>whnf);first|(with_reducible first|apply spl|apply spl'|refine iJ ?_)<;>intro hc<;>try(exfalso;omega)|refine vcq ?_|refine dr 9 ?_));all_goals(try conv=>whnf);try exact trivial
   refine⟨fun r _=>?_,?_⟩
   ·dsimp only
    rw[he1 r,he2 r,Int.toNat_natCast]
    by_cases h:r=o.getD i 0
    ·rw[a0v h,if_pos h,if_pos h]
     rfl
    ·rw[a0t h,if_neg h,if_neg h]
   ·(repeat' ((conv=>whnf);first|(with_reducible first|apply spl|apply spl'|refine iJ ?_)<;>intro hc<;>try(exfalso;omega)|refine vcq ?_|refine dr 9 ?_));all_goals(try conv=>whnf);try exact trivial
  ·obtain rfl:i=o.length:=by omega
   refine⟨_,rfl,?_⟩
   (repeat' ((conv=>whnf);first|(with_reducible first|apply spl|apply spl'|refine iJ ?_)<;>intro hc<;>try(exfalso;omega)|refine vcq ?_|refine dr 9 ?_));all_goals(try conv=>whnf);try exact trivial
   refine⟨fun r _=>by dsimp only;rw[Qu.endTo_all,Qu.endTo_all],.inr fun r _=>rfl,?_⟩
   (repeat' ((conv=>whnf);first|(with_reducible first|apply spl|apply spl'|refine iJ ?_)<;>intro hc<;>try(exfalso;omega)|refine vcq ?_|refine dr 9 ?_));all_goals(try conv=>whnf);try exact trivial
end Go.Proofs
namespace Go.Proofs
open Go Go.Sx
set_option maxRecDepth 100000
set_option maxHeartbeats 4000000
open Ca (Wt epW IsCrs)
def Sv.oc (s:Sv):List V:=[.int .i64 s.x.n,.sl 2 s.x.l.length (a0e Ca.oC (0,0) s.x.l),.int .i64 s.d.H,.int .i64 s.d.T,.sl 2 s.d.Z.length (a0e zC (0,0) s.d.Z),.int .i64 s.d.hk,.int .i64 s.d.ck,.int .i64 s.d.hs.1,.int .i64 s.d.hs.2,.int .i64 s.d.cs.1,.int .i64 s.d.cs.2,.sl 2 s.sk.length (a0e zC (0,0) s.sk),.int .i64 s.cyl,.sl 1 s.sec.length (a0e seC 0 s.sec),.sl 3 s.W.length (a0e wtC wt0 s.W),.sl 1 s.n (mdC s.st.M)]
theorem Sv.ov_eq (s:Sv):s.ov=.iptr s.oc:=rfl
theorem cmp133 (s:Sv) (hW:∀w∈s.W,WtS w) (a b:Nat) (ha:a<s.W.length) (hb:b<s.W.length):a0h Tryz.prog 133 false [.int .i64 (a:Nat),.int .i64 (b:Nat),.iptr [.iptr s.oc]] (·=.int .i64 ((epW s.W a:Int)-epW s.W b)):=by
 have hta:(a:Int).toNat=a:=Int.toNat_natCast a
 have htb:(b:Int).toNat=b:=Int.toNat_natCast b
 have h1:=hW _ (show s.W.getD a wt0∈s.W by rw[getW ha];exact List.getElem_mem ha)
 have h2:=hW _ (show s.W.getD b wt0∈s.W by rw[getW hb];exact List.getElem_mem hb)
 unfold WtS at h1 h2
 refine a0a Tryz.E_ok Tryz.func133 rfl (by kernel_rfl) ?_
 unfold Sv.oc
 (repeat' ((conv=>whnf);first|(with_reducible first|apply spl|apply spl'|refine iJ ?_)<;>intro hc<;>try(exfalso;omega)|refine vcq ?_|refine dr 18 ?_|refine dr 10 ?_));all_goals(try conv=>whnf);try exact trivial
 rw[hta,htb]
 refine And.intro (inR64 (by omega) (by omega)) ?_
 (repeat' ((conv=>whnf);first|(with_reducible first|apply spl|apply spl'|refine iJ ?_)<;>intro hc<;>try(exfalso;omega)|refine vcq ?_|refine dr 18 ?_|refine dr 10 ?_));all_goals(try conv=>whnf);try exact trivial
 refine⟨_,rfl,?_⟩
 unfold epW
 (repeat' ((conv=>whnf);first|(with_reducible first|apply spl|apply spl'|refine iJ ?_)<;>intro hc<;>try(exfalso;omega)|refine vcq ?_|refine dr 18 ?_|refine dr 10 ?_));all_goals(try conv=>whnf);try exact trivial
def AscI (W:List Wt) (l:List Int):Prop:=∀j,j+1<l.length→epW W (l.getD j 0).toNat≤epW W (l.getD (j+1) 0).toNat
theorem sorted132 (s:Sv) (hW:∀w∈s.W,WtS w) (l:List Int) (hl:l.length≤1000000) (hr:∀i,i<l.length→0≤l.getD i 0∧l.getD i 0<s.W.length):a0h Tryz.prog 132 false [.sl 1 l.length (a0e intC 0 l),.fn (.func 133) [] [.iptr [.iptr s.oc]]] (·=.prop (AscI s.W l) (Classical.propDecidable _)):=by
 refine a0a Tryz.E_ok Tryz.func132 rfl (by kernel_rfl) ?_
 (repeat' ((conv=>whnf);first|(with_reducible first|apply spl|apply spl'|refine iJ ?_)<;>intro hc<;>try(exfalso;omega)|refine vcq ?_|refine dr 18 ?_|refine dr 10 ?_));all_goals(try conv=>whnf);try exact trivial
 refine⟨Int,fun i=>(i≤(l.length:Int)-1∧-1≤i)∧∀j:Nat,i≤(j:Int)→j+1<l.length→epW s.W (l.getD j 0).toNat≤epW s.W (l.getD (j+1) 0).toNat,fun i=>i.toNat,fun i=>[(5,.int .i64 i)],fun _=>[],fun _=>[],(l.length:Int)-1,⟨⟨by omega,fun j hj hj2=>by omega⟩,none,?_⟩,?_⟩
 ·(repeat' ((conv=>whnf);first|(with_reducible first|apply spl|apply spl'|refine iJ ?_)<;>intro hc<;>try(exfalso;omega)|refine vcq ?_|refine dr 18 ?_|refine dr 10 ?_));all_goals(try conv=>whnf);try exact trivial
 ·rintro i ⟨⟨hi1,hi2⟩,hall⟩
  (repeat' ((conv=>whnf);first|(with_reducible first|apply spl|apply spl'|refine iJ ?_)<;>intro hc<;>try(exfalso;omega)|refine vcq ?_|refine dr 18 ?_|refine dr 10 ?_));all_goals(try conv=>whnf);try exact trivial
  ·have hin:i.toNat<l.length:=by omega
   have hin2:(i-1).toNat<l.length:=by omega
   have e1:(i-1).toNat+1=i.toNat:=by omega
   obtain⟨a,ha⟩:∃a:Nat,l.getD i.toNat 0=a:=⟨(l.getD i.toNat 0).toNat,by have:=hr _ hin;omega⟩
   obtain⟨b,hb⟩:∃b:Nat,l.getD (i-1).toNat 0=b:=⟨(l.getD (i-1).toNat 0).toNat,by have:=hr _ hin2;omega⟩
   have hra:=hr _ hin
   have hrb:=hr _ hin2
   rw[ha] at hra
   rw[hb] at hrb
   have hcmp:=cmp133 s hW a b (by omega) (by omega)
   unfold Sv.oc at hcmp
   rw[ha,hb]
   refine a0b hcmp rfl ?_
   rintro _ rfl
   (repeat' ((conv=>whnf);first|(with_reducible first|apply spl|apply spl'|refine iJ ?_)<;>intro hc<;>try(exfalso;omega)|refine vcq ?_|refine dr 18 ?_|refine dr 10 ?_));all_goals(try conv=>whnf);try exact trivial
   ·have hno:¬AscI s.W l:=fun h=>by
     have:=h (i-1).toNat (by omega)
     rw[e1,ha,hb] at this
     simp only[Int.toNat_natCast] at this
     omega
    refine⟨_,rfl,?_⟩
    (repeat' ((conv=>whnf);first|(with_reducible first|apply spl|apply spl'|refine iJ ?_)<;>intro hc<;>try(exfalso;omega)|refine vcq ?_|refine dr 18 ?_|refine dr 10 ?_));all_goals(try conv=>whnf);try exact trivial
   ·refine⟨i-1,⟨⟨⟨by omega,by omega⟩,fun j h1 h2=>?_⟩,by dsimp only;omega⟩,none,?_⟩
    ·rcases Int.lt_or_le (j:Int) i with g|g
     ·obtain rfl:j=(i-1).toNat:=by omega
      rw[e1,ha,hb]
      simp only[Int.toNat_natCast]
      omega
     ·exact hall j g h2
    ·(repeat' ((conv=>whnf);first|(with_reducible first|apply spl|apply spl'|refine iJ ?_)<;>intro hc<;>try(exfalso;omega)|refine vcq ?_|refine dr 18 ?_|refine dr 10 ?_));all_goals(try conv=>whnf);try exact trivial
  ·have hyes:AscI s.W l:=fun j hj=>by
    rcases Int.lt_or_le (j:Int) i with g|g
    ·omega
    ·exact hall j g hj
   refine⟨_,rfl,?_⟩
   (repeat' ((conv=>whnf);first|(with_reducible first|apply spl|apply spl'|refine iJ ?_)<;>intro hc<;>try(exfalso;omega)|refine vcq ?_|refine dr 18 ?_|refine dr 10 ?_));all_goals(try conv=>whnf);try exact trivial
def CrsI (W:List Wt) (l:List Int):Prop:=IsOrdI W.length l∧AscI W l
theorem sorted_of_ordI {l m:List Int} (g1:m.Perm l) (g2:∀p q,p<q→q<l.length→m.getD p 0≤m.getD q 0) (h:IsOrdI l.length l):∀j,j<l.length→m.getD j 0=j:=by
 have hml:=g1.length_eq
 have hg:∀(l:List Int) i (hi:i<l.length),l[i]=l.getD i 0:=fun l i hi=>by simp[List.getD_eq_getElem?_getD,hi]
 have hnl:l.Nodup:=by
  rw[List.Nodup,List.pairwise_iff_getElem]
  intro a b ha hb hab e
  exact h.nd b hb a hab (by rw[←hg l a ha,←hg l b hb,e])
 have hnm:m.Nodup:=g1.nodup_iff.2 hnl
 rw[List.Nodup,List.pairwise_iff_getElem] at hnm
 have hr:∀j,j<l.length→0≤m.getD j 0∧m.getD j 0<l.length:=fun j hj=>by
  have h1:m[j]∈l:=g1.mem_iff.1 (List.getElem_mem (by omega))
  obtain⟨k,hk,e⟩:=List.getElem_of_mem h1
  rw[←hg m j (by omega),←e,hg l k hk]
  have:=h.1 k hk
  omega
 have hst:∀p,p+1<l.length→m.getD p 0<m.getD (p+1) 0:=fun p hp=>by
  have h1:=g2 p (p+1) (by omega) hp
  have h2:=hnm p (p+1) (by omega) (by omega) (by omega)
  rw[hg m p (by omega),hg m (p+1) (by omega)] at h2
  omega
 have hlo:∀j,j<l.length→(j:Int)≤m.getD j 0:=fun j=>by
  induction j with
  |zero=>intro hj;exact(hr 0 hj).1
  |succ j ih=>intro hj;have:=ih (by omega);have:=hst j hj;omega
 have hhi:∀k j,j+k+1=l.length→m.getD j 0≤(j:Int):=fun k=>by
  induction k with
  |zero=>intro j hj;have:=(hr j (by omega)).2;omega
  |succ k ih=>intro j hj;have:=ih (j+1) (by omega);have:=hst j (by omega);omega
 intro j hj
 have:=hlo j hj
 have:=hhi (l.length-j-1) j (by omega)
 omega
theorem isCourse91 (s:Sv) (hW:∀w∈s.W,WtS w) (_hWl:s.W.length≤6) (l:List Int) (hl:l.length≤1000000):a0h Tryz.prog 91 false [.iptr s.oc,.sl 1 l.length (a0e intC 0 l)] (·=.prop (CrsI s.W l) (Classical.propDecidable _)):=by
 refine a0a Tryz.E_ok Tryz.func91 rfl (by kernel_rfl) ?_
 unfold Sv.oc
 (repeat' ((conv=>whnf);first|(with_reducible first|apply spl|apply spl'|refine iJ ?_)<;>intro hc<;>try(exfalso;omega)|refine vcq ?_|fail));all_goals(try conv=>whnf);try exact trivial
 refine a0u Tryz.E_ok Tryz.func94 rfl (by kernel_rfl) ?_
 (repeat' ((conv=>whnf);first|(with_reducible first|apply spl|apply spl'|refine iJ ?_)<;>intro hc<;>try(exfalso;omega)|refine vcq ?_|fail));all_goals(try conv=>whnf);try exact trivial
 refine a0f [1] (sortedAny l hl) rfl ?_ ?_
 ·(repeat' ((conv=>whnf);first|(with_reducible first|apply spl|apply spl'|refine iJ ?_)<;>intro hc<;>try(exfalso;omega)|refine vcq ?_|fail));all_goals(try conv=>whnf);try exact trivial
 ·rintro _ _ ⟨m,g1,g2,rfl,rfl⟩
  have hml:=g1.length_eq
  (repeat' ((conv=>whnf);first|(with_reducible first|apply spl|apply spl'|refine iJ ?_)<;>intro hc<;>try(exfalso;omega)|refine vcq ?_|fail));all_goals(try conv=>whnf);try exact trivial
  refine⟨Nat,fun i=>i≤l.length∧∀j,j<i→m.getD j 0=j,fun i=>l.length-i,fun i=>[(11,.int .i64 (i:Nat))],fun _=>[],fun _=>[],0,⟨⟨by omega,fun j hj=>by omega⟩,none,?_⟩,?_⟩
  ·(repeat' ((conv=>whnf);first|(with_reducible first|apply spl|apply spl'|refine iJ ?_)<;>intro hc<;>try(exfalso;omega)|refine vcq ?_|fail));all_goals(try conv=>whnf);try exact trivial
  ·rintro i ⟨hi,hall⟩
   have hti:(i:Int).toNat=i:=Int.toNat_natCast i
   (repeat' ((conv=>whnf);first|(with_reducible first|apply spl|apply spl'|refine iJ ?_)<;>intro hc<;>try(exfalso;omega)|refine vcq ?_|fail));all_goals(try conv=>whnf);try exact trivial
   ·rw[hti] at hc
    have hno:¬CrsI s.W l:=fun h=>hc (sorted_of_ordI g1 g2 (h.1.len▸h.1) i (by omega)).symm
    refine⟨_,rfl,?_⟩
    (repeat' ((conv=>whnf);first|(with_reducible first|apply spl|apply spl'|refine iJ ?_)<;>intro hc<;>try(exfalso;omega)|refine vcq ?_|fail));all_goals(try conv=>whnf);try exact trivial
   ·rw[hti] at hc
    refine⟨i+1,⟨⟨by omega,fun j hj=>?_⟩,by dsimp only;omega⟩,none,?_⟩
    ·rcases Nat.lt_or_eq_of_le (show j≤i by omega) with g|rfl
     ·exact hall j g
     ·omega
    ·(repeat' ((conv=>whnf);first|(with_reducible first|apply spl|apply spl'|refine iJ ?_)<;>intro hc<;>try(exfalso;omega)|refine vcq ?_|fail));all_goals(try conv=>whnf);try exact trivial
   ·have hno:¬CrsI s.W l:=fun h=>by
     have:=h.1.len
     omega
    refine⟨_,rfl,?_⟩
    (repeat' ((conv=>whnf);first|(with_reducible first|apply spl|apply spl'|refine iJ ?_)<;>intro hc<;>try(exfalso;omega)|refine vcq ?_|fail));all_goals(try conv=>whnf);try exact trivial
   ·obtain rfl:i=l.length:=by omega
    have hio:=ordI_of_sorted g1 hall
    have hs:=sorted132 s hW l hl (fun j hj=>by have:=hio.1 j hj;omega)
    unfold Sv.oc at hs
    refine a2a hs ?_
    (repeat' ((conv=>whnf);first|(with_reducible first|apply spl|apply spl'|refine iJ ?_)<;>intro hc<;>try(exfalso;omega)|refine vcq ?_|fail));all_goals(try conv=>whnf);try exact trivial
    rintro _ rfl
    have hiff:CrsI s.W l↔AscI s.W l:=⟨fun h=>h.2,fun h=>⟨(show l.length=s.W.length by omega)▸hio,h⟩⟩
    (repeat' ((conv=>whnf);first|(with_reducible first|apply spl|apply spl'|refine iJ ?_)<;>intro hc<;>try(exfalso;omega)|refine vcq ?_|fail));all_goals(try conv=>whnf);try exact trivial
    refine⟨_,rfl,?_⟩
    (repeat' ((conv=>whnf);first|(with_reducible first|apply spl|apply spl'|refine iJ ?_)<;>intro hc<;>try(exfalso;omega)|refine vcq ?_|fail));all_goals(try conv=>whnf);try exact trivial
    exact⟨hiff.symm,trivial⟩
end Go.Proofs
namespace Go.Proofs
open Go Go.Sx
set_option maxRecDepth 100000
set_option maxHeartbeats 4000000
open Ca (Wt epW IsCrs)
open Classical in
noncomputable def Sv.cerr (s:Sv) (l:List Int):Int:=if s.err=0 then if CrsI s.W l then 0 else 151 else s.err
theorem Sv.err_ok {s:Sv} (h:s.err=0):s.Ok:=by
 unfold Sv.err at h
 split at h
 ·split at h
  ·split at h
   ·split at h
    ·exact⟨by assumption,by assumption,by assumption,by assumption⟩
    ·exact absurd h (by decide)
   ·exact absurd h (by decide)
  ·rename_i h1 h2
   unfold Ca.Cache.chk at h
   rw[if_neg h2] at h
   exact absurd h (by decide)
 ·exact absurd h (by decide)
theorem Sv.Ok.ws {s:Sv} (h:s.Ok):∀w∈s.W,WtS w∧w.2.1<s.n:=(Sv.at_small h.x (Nat.le_refl _)).2.2.1
theorem with51 (s:Sv) (hz:s.d.Z.length≤1000000) (hx:s.x.l.length≤1000000) (hsk:s.sk.length≤1000000) (hsec:s.sec.length≤1000000) (l:List Int) (hl:l.length≤1000000):a0h Tryz.prog 51 true [.agg s.c,.sl 1 l.length (a0e intC 0 l)] (fun v=>(s.cerr l=0∧v=.tup [.iptr s.oc,.int .i64 0])∨s.cerr l≠0∧v=.tup [.lit (.pointer none),.int .i64 (s.cerr l)]):=by
 have ho:=open45 s hz hx hsk hsec
 rw[Sv.ov_eq] at ho
 unfold Sv.c at ho ⊢
 refine a0a Tryz.E_ok Tryz.func51 rfl (by kernel_rfl) ?_
 (repeat' ((conv=>whnf);first|(with_reducible first|apply spl|apply spl'|refine iJ ?_)<;>intro hc<;>try(exfalso;omega)|refine vcq ?_|fail));all_goals(try conv=>whnf);try exact trivial
 refine a0b ho rfl ?_
 rintro _ (⟨he,rfl⟩|⟨he,rfl⟩)
 ·have hok:=Sv.err_ok he
  have hi:=isCourse91 s (fun w hw=>(hok.ws w hw).1) hok.few l hl
  unfold Sv.oc at hi ⊢
  (repeat' ((conv=>whnf);first|(with_reducible first|apply spl|apply spl'|refine iJ ?_)<;>intro hc<;>try(exfalso;omega)|refine vcq ?_|fail));all_goals(try conv=>whnf);try exact trivial
  refine a0b hi rfl ?_
  rintro _ rfl
  (repeat' ((conv=>whnf);first|(with_reducible first|apply spl|apply spl'|refine iJ ?_)<;>intro hc<;>try(exfalso;omega)|refine vcq ?_|fail));all_goals(try conv=>whnf);try exact trivial
  ·have hc1:s.cerr l=151:=by unfold Sv.cerr;rw[if_pos he,if_neg hc]
   refine⟨_,.inr ⟨by rw[hc1];decide,rfl⟩,?_⟩
   rw[hc1]
   (repeat' ((conv=>whnf);first|(with_reducible first|apply spl|apply spl'|refine iJ ?_)<;>intro hc<;>try(exfalso;omega)|refine vcq ?_|fail));all_goals(try conv=>whnf);try exact trivial
  ·have hc1:s.cerr l=0:=by unfold Sv.cerr;rw[if_pos he,if_pos (Classical.not_not.1 hc)]
   refine⟨_,.inl ⟨hc1,rfl⟩,?_⟩
   (repeat' ((conv=>whnf);first|(with_reducible first|apply spl|apply spl'|refine iJ ?_)<;>intro hc<;>try(exfalso;omega)|refine vcq ?_|fail));all_goals(try conv=>whnf);try exact trivial
 ·have hc1:s.cerr l=s.err:=by unfold Sv.cerr;rw[if_neg he]
  (repeat' ((conv=>whnf);first|(with_reducible first|apply spl|apply spl'|refine iJ ?_)<;>intro hc<;>try(exfalso;omega)|refine vcq ?_|fail));all_goals(try conv=>whnf);try exact trivial
  refine⟨_,.inr ⟨by rw[hc1];exact he,rfl⟩,?_⟩
  rw[hc1]
  (repeat' ((conv=>whnf);first|(with_reducible first|apply spl|apply spl'|refine iJ ?_)<;>intro hc<;>try(exfalso;omega)|refine vcq ?_|fail));all_goals(try conv=>whnf);try exact trivial
end Go.Proofs
namespace Go.Proofs
open Go Go.Sx
set_option maxRecDepth 100000
set_option maxHeartbeats 40000000
open Ca (Wt epW IsCrs)
def Sv.rqs (s:Sv) (o:List Nat) (i:Nat):List Rq:=(Sv.pick s.W (o.take i)).map s.rqW
theorem Sv.rqs_len (s:Sv) (o:List Nat) {i:Nat} (h:i≤o.length):(s.rqs o i).length=i:=by
 unfold Sv.rqs Sv.pick
 rw[List.length_map,List.length_map,List.length_take]
 omega
theorem Sv.rqs_succ (s:Sv) (o:List Nat) {i:Nat} (h:i<o.length):s.rqs o (i+1)=s.rqs o i++[s.rqW (s.W.getD (o.getD i 0) wt0)]:=by
 unfold Sv.rqs Sv.pick
 rw[List.take_succ_eq_append_getElem h,List.map_append,List.map_append,a0r h]
 rfl
theorem vprop_iff {p q:Prop} {i:Decidable p} {j:Decidable q} (h:p↔q):V.prop p i=V.prop q j:=by
 cases propext h
 exact congrArg (V.prop p) (Subsingleton.elim _ _)
theorem rqC_rqW (s:Sv) (w:Wt):rqC (s.rqW w)=[.int .i64 (s.sec.getD w.2.1 0),.int .i64 1,.int .i64 0,.int .i64 (-1),.prop False inferInstance]:=by
 unfold rqC Sv.rqW
 rw[vprop_iff (p:=(false=true)) (q:=False) (j:=inferInstance) (by simp)]
theorem ends47 (s:Sv) (hs:s.Ok) (o:List Nat) (hol:o.length≤6) (ho:∀x∈o,x<s.W.length):a0h Tryz.prog 47 true [.iptr s.oc,.sl 1 o.length (a0e natC 0 o)] (·=.sl 2 o.length (fun k=>[.int .i64 (s.endW false o k),.int .i64 (s.endW true o k)])):=by
 refine a0a Tryz.E_ok Tryz.func47 rfl (by kernel_rfl) ?_
 unfold Sv.oc
 (repeat' ((conv=>whnf);first|(with_reducible first|apply spl|apply spl'|refine iJ ?_)<;>intro hc<;>try(exfalso;omega)|refine vcq ?_|refine dr 18 ?_));all_goals(try conv=>whnf);try exact trivial
 refine⟨Nat,fun i=>i≤o.length,fun i=>o.length-i,fun i=>[(13,.int .i64 (i:Nat)),(5,.osl 0 i),(6,.osl 1 i)],fun _=>[],fun i=>[.row 66 5 i (a0e rqC Rq.none (s.rqs o i)) true,.row 3 1 i (fun j=>[.int .i64 (j:Nat)]) true],0,⟨by omega,some [none,none],?_⟩,?_⟩
 ·(repeat' ((conv=>whnf);first|(with_reducible first|apply spl|apply spl'|refine iJ ?_)<;>intro hc<;>try(exfalso;omega)|refine vcq ?_|refine dr 18 ?_));all_goals(try conv=>whnf);try exact trivial
 ·intro i hi
  have hi:i≤o.length:=hi
  have hti:(i:Int).toNat=i:=Int.toNat_natCast i
  (repeat' ((conv=>whnf);first|(with_reducible first|apply spl|apply spl'|refine iJ ?_)<;>intro hc<;>try(exfalso;omega)|refine vcq ?_|refine dr 18 ?_));all_goals(try conv=>whnf);try exact trivial
  ·have hio:i<o.length:=by omega
   have ha:o.getD i 0<s.W.length:=by rw[a0r hio];exact ho _ (List.getElem_mem hio)
   have hta:((o.getD i 0:Nat):Int).toNat=o.getD i 0:=Int.toNat_natCast _
   have hw:=hs.ws _ (show s.W.getD (o.getD i 0) wt0∈s.W by rw[getW ha];exact List.getElem_mem ha)
   have hsl:=hs.so.len
   have htw:(((s.W.getD (o.getD i 0) wt0).2.1:Nat):Int).toNat=(s.W.getD (o.getD i 0) wt0).2.1:=Int.toNat_natCast _
   have hsc:=s.rqs_succ o hio
   have hsl2:=s.rqs_len o hi
   rw[hti]
   refine And.intro ⟨by omega,by omega⟩ ?_
   (repeat' ((conv=>whnf);first|(with_reducible first|apply spl|apply spl'|refine iJ ?_)<;>intro hc<;>try(exfalso;omega)|refine vcq ?_|refine dr 18 ?_));all_goals(try conv=>whnf);try exact trivial
   rw[hta]
   refine And.intro ⟨by omega,by omega⟩ ?_
   (repeat' ((conv=>whnf);first|(with_reducible first|apply spl|apply spl'|refine iJ ?_)<;>intro hc<;>try(exfalso;omega)|refine vcq ?_|refine dr 18 ?_));all_goals(try conv=>whnf);try exact trivial
   rw[htw]
   refine⟨i+1,⟨by dsimp only;omega,by dsimp only;omega⟩,some [some 3,some 5],?_⟩
   dsimp only
   rw[hsc]
   (repeat' ((conv=>whnf);first|(with_reducible first|apply spl|apply spl'|refine iJ ?_)<;>intro hc<;>try(exfalso;omega)|refine vcq ?_|refine dr 18 ?_));all_goals(try conv=>whnf);try exact trivial
   refine And.intro (fun k hk=>?_) ?_
   ·have h:=a2h (c:=rqC) (d:=Rq.none) (a:=s.rqW (s.W.getD (o.getD i 0) wt0)) hsl2.symm (fun _ _=>rfl) k (by omega)
    rw[rqC_rqW] at h
    exact h
   ·(repeat' ((conv=>whnf);first|(with_reducible first|apply spl|apply spl'|refine iJ ?_)<;>intro hc<;>try(exfalso;omega)|refine vcq ?_|refine dr 18 ?_));all_goals(try conv=>whnf);try exact trivial
    refine And.intro (appF_last rfl) ?_
    (repeat' ((conv=>whnf);first|(with_reducible first|apply spl|apply spl'|refine iJ ?_)<;>intro hc<;>try(exfalso;omega)|refine vcq ?_|refine dr 18 ?_));all_goals(try conv=>whnf);try exact trivial
  ·obtain rfl:i=o.length:=by omega
   refine a0u Tryz.E_ok Tryz.func90 rfl (by kernel_rfl) ?_
   (repeat' ((conv=>whnf);first|(with_reducible first|apply spl|apply spl'|refine iJ ?_)<;>intro hc<;>try(exfalso;omega)|refine vcq ?_|refine dr 18 ?_));all_goals(try conv=>whnf);try exact trivial
   have hrl:(List.range o.length).length=o.length:=List.length_range
   have hrg:∀k,k<o.length→(List.range o.length).getD k 0=k:=fun k hk=>by
    rw[List.getD_eq_getElem?_getD,List.getElem?_eq_getElem (by rw[hrl];exact hk)]
    simp
   have hpl:(Sv.pick s.W o).length=o.length:=by unfold Sv.pick;rw[List.length_map]
   have hq:(s.qu (Sv.pick s.W o)).Ok:=Sv.qu_ok hs.so (by omega) fun w hw=>by
    unfold Sv.pick at hw
    obtain⟨x,hx,rfl⟩:=List.mem_map.1 hw
    exact(hs.ws _ (by rw[show s.W.getD x (0,0,0)=s.W[x]'(ho x hx) from getW (ho x hx)];exact List.getElem_mem _)).2
   have hql:(s.qu (Sv.pick s.W o)).rq.length=o.length:=(Sv.qu_len s _).trans hpl
   have hord:IsOrd (s.qu (Sv.pick s.W o)).rq.length (List.range o.length):=⟨hrl.trans hql.symm,List.nodup_range,fun x hx=>by rw[hql];exact List.mem_range.1 hx⟩
   have he:=Ends11 (s.qu (Sv.pick s.W o)) hq (List.range o.length) hord
   have hev:∀hi k,k<o.length→(s.qu (Sv.pick s.W o)).endOf hi (List.range o.length) k=s.endW hi o k:=fun hi k hk=>by
    unfold Qu.endOf Sv.endW
    rw[if_pos (List.mem_range.2 hk)]
    have e:(List.range o.length).idxOf k=k:=by
     have h1:=List.nodup_range (n:=o.length)
     have h2:=h1.idxOf_getElem k (by rw[hrl];exact hk)
     rwa [List.getElem_range] at h2
    rw[e,Sv.stQ_pick hi ho (k+1) (by omega)]
   have hrq:(s.qu (Sv.pick s.W o)).rq=s.rqs o o.length:=by
    unfold Sv.rqs Sv.qu
    rw[List.take_length]
   unfold Qu.c at he
   rw[hql,hrl,hrq] at he
   refine a2a he ?_
   (repeat' ((conv=>whnf);first|(with_reducible first|apply spl|apply spl'|refine iJ ?_)<;>intro hc<;>try(exfalso;omega)|refine vcq ?_|refine dr 18 ?_));all_goals(try conv=>whnf);try exact trivial
   refine⟨fun k hk=>by unfold a0e;rw[hrg k hk];rfl,.inl rfl,?_⟩
   (repeat' ((conv=>whnf);first|(with_reducible first|apply spl|apply spl'|refine iJ ?_)<;>intro hc<;>try(exfalso;omega)|refine vcq ?_|refine dr 18 ?_));all_goals(try conv=>whnf);try exact trivial
   rintro _ rfl
   (repeat' ((conv=>whnf);first|(with_reducible first|apply spl|apply spl'|refine iJ ?_)<;>intro hc<;>try(exfalso;omega)|refine vcq ?_|refine dr 18 ?_));all_goals(try conv=>whnf);try exact trivial
   refine⟨_,rfl,?_⟩
   (repeat' ((conv=>whnf);first|(with_reducible first|apply spl|apply spl'|refine iJ ?_)<;>intro hc<;>try(exfalso;omega)|refine vcq ?_|refine dr 18 ?_));all_goals(try conv=>whnf);try exact trivial
   exact⟨fun k hk=>by dsimp only;rw[hev false k hk,hev true k hk],trivial⟩
theorem CrsI.crs {W:List Wt} {l:List Int} (h:CrsI W l):IsCrs W (l.map Int.toNat):=by
 have ho:=h.1.ord
 refine⟨ho.len,ho.nd,ho.lt,?_⟩
 have hlt:∀j,j<l.length→(l.map Int.toNat).getD j 0=(l.getD j 0).toNat:=fun j hj=>by
  simp[List.getD_eq_getElem?_getD,List.getElem?_map,List.getElem?_eq_getElem hj]
 have hm:∀j k,j+k<l.length→epW W ((l.map Int.toNat).getD j 0)≤epW W ((l.map Int.toNat).getD (j+k) 0):=fun j k=>by
  induction k with
  |zero=>intro _;exact Nat.le_refl _
  |succ k ih=>
   intro hk
   have h1:=ih (by omega)
   have h2:=h.2 (j+k) (by omega)
   rw[←hlt _ (by omega),←hlt _ (by omega)] at h2
   exact Nat.le_trans h1 h2
 rw[List.pairwise_iff_getElem]
 intro a b ha hb hab
 have hll:(l.map Int.toNat).length=l.length:=List.length_map ..
 have:=hm a (b-a) (by omega)
 rw[show a+(b-a)=b by omega,a0r ha,a0r hb] at this
 exact this
theorem IsCrs.crsI {W:List Wt} {o:List Nat} (h:IsCrs W o):CrsI W (o.map Int.ofNat):=by
 refine⟨IsOrd.int ⟨h.len,h.nd,h.lt⟩,fun j hj=>?_⟩
 rw[List.length_map] at hj
 have hlt:∀j,j<o.length→((o.map Int.ofNat).getD j 0).toNat=o.getD j 0:=fun j hj=>by
  simp[List.getD_eq_getElem?_getD,List.getElem?_map,List.getElem?_eq_getElem hj]
 rw[hlt j (by omega),hlt (j+1) hj,a0r (by omega),a0r hj]
 have:=h.asc
 rw[List.pairwise_iff_getElem] at this
 exact this j (j+1) (by omega) hj (by omega)
theorem Sv.cerr_ok {s:Sv} {l:List Int} (h:s.cerr l=0):s.err=0∧CrsI s.W l:=by
 unfold Sv.cerr at h
 split at h
 ·split at h
  ·exact⟨by assumption,by assumption⟩
  ·exact absurd h (by decide)
 ·contradiction
theorem endsS (s:Sv) (hz:s.d.Z.length≤1000000) (hx:s.x.l.length≤1000000) (hsk:s.sk.length≤1000000) (hsec:s.sec.length≤1000000) (l:List Int) (hl:l.length≤1000000):a0h Tryz.prog 22 true [.agg s.c,.sl 1 l.length (a0e intC 0 l)] (fun v=>(s.cerr l=0∧v=.tup [.sl 2 l.length (fun k=>[.int .i64 (s.endW false (l.map Int.toNat) k),.int .i64 (s.endW true (l.map Int.toNat) k)]),.int .i64 0])∨s.cerr l≠0∧v=.tup [.lit (.slice none 0 0),.int .i64 (s.cerr l)]):=by
 have ho:=with51 s hz hx hsk hsec l hl
 unfold Sv.c at ho ⊢
 refine a0a Tryz.E_ok Tryz.func22 rfl (by kernel_rfl) ?_
 (repeat' ((conv=>whnf);first|(with_reducible first|apply spl|apply spl'|refine iJ ?_)<;>intro hc<;>try(exfalso;omega)|refine vcq ?_|fail));all_goals(try conv=>whnf);try exact trivial
 refine a0b ho rfl ?_
 rintro _ (⟨he,rfl⟩|⟨he,rfl⟩)
 ·obtain⟨h1,h2⟩:=Sv.cerr_ok he
  have hok:=Sv.err_ok h1
  have hc:=h2.crs
  have hll:(l.map Int.toNat).length=l.length:=List.length_map ..
  have hf:=hok.few
  have hcl:=hc.len
  have hen:=ends47 s hok (l.map Int.toNat) (by omega) hc.lt
  rw[hll,←h2.1.row] at hen
  unfold Sv.oc at hen ⊢
  (repeat' ((conv=>whnf);first|(with_reducible first|apply spl|apply spl'|refine iJ ?_)<;>intro hc<;>try(exfalso;omega)|refine vcq ?_|fail));all_goals(try conv=>whnf);try exact trivial
  refine a0b hen rfl ?_
  rintro _ rfl
  (repeat' ((conv=>whnf);first|(with_reducible first|apply spl|apply spl'|refine iJ ?_)<;>intro hc<;>try(exfalso;omega)|refine vcq ?_|fail));all_goals(try conv=>whnf);try exact trivial
  refine⟨_,.inl ⟨he,rfl⟩,?_⟩
  (repeat' ((conv=>whnf);first|(with_reducible first|apply spl|apply spl'|refine iJ ?_)<;>intro hc<;>try(exfalso;omega)|refine vcq ?_|fail));all_goals(try conv=>whnf);try exact trivial
 ·(repeat' ((conv=>whnf);first|(with_reducible first|apply spl|apply spl'|refine iJ ?_)<;>intro hc<;>try(exfalso;omega)|refine vcq ?_|fail));all_goals(try conv=>whnf);try exact trivial
  refine⟨_,.inr ⟨he,rfl⟩,?_⟩
  (repeat' ((conv=>whnf);first|(with_reducible first|apply spl|apply spl'|refine iJ ?_)<;>intro hc<;>try(exfalso;omega)|refine vcq ?_|fail));all_goals(try conv=>whnf);try exact trivial
end Go.Proofs
namespace Go.Proofs
open Go Go.Sx
set_option maxRecDepth 100000
set_option maxHeartbeats 40000000
open Ca (Wt epW IsCrs RS)
theorem order_W (n:Nat) (s:RS) (k:Int) (o:Int×Int):s.W≤(s.order n k o).W∧(s.order n k o).W≤s.W+(s.E.length*n:Nat)+1:=by
 have hl:(s.E.length-1)*n≤s.E.length*n:=Nat.mul_le_mul_right n (Nat.sub_le ..)
 unfold RS.order
 split
 ·exact⟨Int.le_refl _,by show s.W≤_;omega⟩
 ·split
  ·have h1:=RS.wrE_W n (s.setE (s.E.length-1) o.2.toNat k) (s.E.length-1)
   have h2:=RS.wr_W ((s.setE (s.E.length-1) o.2.toNat k).wrE n (s.E.length-1)) (s.E.length-1) o.2.toNat
   have h3:(s.setE (s.E.length-1) o.2.toNat k).W=s.W:=rfl
   have h4:((s.E.length-1:Nat):Int)*n=((s.E.length-1)*n:Nat):=by rw[Int.natCast_mul]
   omega
  ·split
   ·exact⟨Int.le_refl _,by show s.W≤_;omega⟩
   ·split
    ·have h1:=RS.wrE_W n s s.E.length
     have h4:(s.E.length:Int)*n=(s.E.length*n:Nat):=by rw[Int.natCast_mul]
     omega
    ·omega
theorem Sv.at_W {s:Sv} (hx:s.x.Ok):∀i,i≤s.x.l.length→0≤(s.at i).W∧(s.at i).W≤103*i
 |0,_=>⟨Int.le_refl 0,Int.le_refl 0⟩
 |i+1,hi=>by
  have ih:=Sv.at_W hx i (by omega)
  have h:=order_W s.n (s.at i) i (s.x.l.getD i (0,0))
  have e:s.at (i+1)=(s.at i).order s.n i (s.x.l.getD i (0,0)):=rfl
  rw[e]
  have hsm:=Sv.at_small hx (show i≤s.x.l.length by omega)
  have:(s.at i).E.length*s.n≤17*6:=Nat.mul_le_mul hsm.1.2 hsm.2.2.2.1
  omega
theorem last69 (s:Sv) (hx:s.x.Ok):a0h Tryz.prog 69 true [.agg s.c] (·=s.st.v s.n):=by
 have hni:=Sv.nI hx
 have hxl:=hx.len
 have hb:=Ca.begin16 s.x s.n hni.symm (by have:=(Sv.at_small hx (Nat.le_refl _)).2.2.2.1;omega)
 unfold Ca.Cache.v at hb
 refine a0a Tryz.E_ok Tryz.func69 rfl (by kernel_rfl) ?_
 unfold Sv.c
 (repeat' ((conv=>whnf);first|(with_reducible first|apply spl|apply spl'|refine iJ ?_)<;>intro hc<;>try(exfalso;omega)|refine vcq ?_|refine dr 9 ?_));all_goals(try conv=>whnf);try exact trivial
 refine a0b hb rfl ?_
 rintro _ rfl
 unfold RS.v RS.c
 (repeat' ((conv=>whnf);first|(with_reducible first|apply spl|apply spl'|refine iJ ?_)<;>intro hc<;>try(exfalso;omega)|refine vcq ?_|refine dr 9 ?_));all_goals(try conv=>whnf);try exact trivial
 refine⟨Nat,fun i=>i≤s.x.l.length,fun i=>s.x.l.length-i,fun i=>[(4,.int .i64 (i:Nat))],fun i=>[(2,.cells 126 ((s.at i).c s.n))],fun _=>[],0,⟨by omega,some [some 0,some 1,some 2],?_⟩,?_⟩
 ·unfold RS.c
  (repeat' ((conv=>whnf);first|(with_reducible first|apply spl|apply spl'|refine iJ ?_)<;>intro hc<;>try(exfalso;omega)|refine vcq ?_|refine dr 9 ?_));all_goals(try conv=>whnf);try exact trivial
 ·intro i hi
  have hi:i≤s.x.l.length:=hi
  have hti:(i:Int).toNat=i:=Int.toNat_natCast i
  unfold RS.c
  (repeat' ((conv=>whnf);first|(with_reducible first|apply spl|apply spl'|refine iJ ?_)<;>intro hc<;>try(exfalso;omega)|refine vcq ?_|refine dr 9 ?_));all_goals(try conv=>whnf);try exact trivial
  ·have hil:i<s.x.l.length:=by omega
   obtain⟨o1,o2,hoe,hk⟩:=Sv.ord_at hx hil
   have hsm:=Sv.at_small hx hi
   have hn1:=hx.n
   have hw:=Sv.at_W hx i hi
   have hst:=Sv.step hx hil hoe
   have hdo:=Ca.do18 s.n ⟨by omega,by omega⟩ (s.at i) ⟨hsm.1.1,by omega⟩ ⟨hw.1,by omega⟩ i (o1,o2) (fun h=>by dsimp only at h ⊢;rcases hk with⟨_,b,h1,h2⟩|h1<;>omega)
   rw[←hst] at hdo
   unfold RS.v RS.c Ca.oV at hdo
   rw[hti,hoe]
   refine a0c hdo rfl ?_
   (repeat' ((conv=>whnf);first|(with_reducible first|apply spl|apply spl'|refine iJ ?_)<;>intro hc<;>try(exfalso;omega)|refine vcq ?_|refine dr 9 ?_));all_goals(try conv=>whnf);try exact trivial
   refine⟨i+1,⟨by omega,by dsimp only;omega⟩,some [some 0,some 1,some 2],?_⟩
   dsimp only
   (repeat' ((conv=>whnf);first|(with_reducible first|apply spl|apply spl'|refine iJ ?_)<;>intro hc<;>try(exfalso;omega)|refine vcq ?_|refine dr 9 ?_));all_goals(try conv=>whnf);try exact trivial
  ·obtain rfl:i=s.x.l.length:=by omega
   refine⟨_,rfl,?_⟩
   (repeat' ((conv=>whnf);first|(with_reducible first|apply spl|apply spl'|refine iJ ?_)<;>intro hc<;>try(exfalso;omega)|refine vcq ?_|refine dr 9 ?_));all_goals(try conv=>whnf);try exact trivial
theorem entB_len (f:Nat→Int) (e:Nat):∀b,(Ca.entB f e b).length≤b
 |0=>Nat.le_refl 0
 |b+1=>by
  have ih:=entB_len f e b
  unfold Ca.entB
  rw[List.length_append]
  split<;>simp<;>omega
theorem entE_len (n:Nat) (F:Nat→Nat→Int):∀e,(Ca.entE n F e).length≤e*n
 |0=>Nat.zero_le _
 |e+1=>by
  have ih:=entE_len n F e
  have:=entB_len (F e) e n
  unfold Ca.entE
  rw[List.length_append,Nat.succ_mul]
  omega
def entP (n:Nat) (F:Nat→Nat→Int) (i b:Nat):List Wt:=Ca.entE n F i++Ca.entB (F i) i b
theorem entP_zero (n:Nat) (F:Nat→Nat→Int) (i:Nat):entP n F i 0=Ca.entE n F i:=List.append_nil _
theorem entP_all (n:Nat) (F:Nat→Nat→Int) (i:Nat):entP n F i n=Ca.entE n F (i+1):=rfl
theorem entP_old {n:Nat} {F:Nat→Nat→Int} {i b:Nat} (h:F i b=-1):entP n F i (b+1)=entP n F i b:=by
 unfold entP
 rw[Ca.entB,if_pos h,List.append_nil]
theorem entP_new {n:Nat} {F:Nat→Nat→Int} {i b:Nat} (h:F i b≠-1):entP n F i (b+1)=entP n F i b++[(i,b,F i b)]:=by
 unfold entP
 rw[Ca.entB,if_neg h,List.append_assoc]
theorem entP_len (n:Nat) (F:Nat→Nat→Int) (i b:Nat):(entP n F i b).length≤i*n+b:=by
 unfold entP
 rw[List.length_append]
 have:=entE_len n F i
 have:=entB_len (F i) i b
 omega
theorem entries49 (s:Sv) (hx:s.x.Ok):a0h Tryz.prog 49 false [.agg s.c] (·=.sl 3 s.W.length (a0e wtC wt0 s.W)):=by
 have hl:=last69 s hx
 have hsm:=Sv.at_small hx (Nat.le_refl s.x.l.length)
 have hEl:s.st.E.length≤17:=hsm.1.2
 have hn6:=hsm.2.2.2.1
 unfold RS.v RS.c at hl
 unfold Sv.c at hl ⊢
 refine a0a Tryz.E_ok Tryz.func49 rfl (by kernel_rfl) ?_
 (repeat' ((conv=>whnf);first|(with_reducible first|apply spl|apply spl'|refine iJ ?_)<;>intro hc<;>try(exfalso;omega)|refine vcq ?_|fail));all_goals(try conv=>whnf);try exact trivial
 refine a0b hl rfl ?_
 rintro _ rfl
 (repeat' ((conv=>whnf);first|(with_reducible first|apply spl|apply spl'|refine iJ ?_)<;>intro hc<;>try(exfalso;omega)|refine vcq ?_|fail));all_goals(try conv=>whnf);try exact trivial
 refine⟨Nat,fun i=>i≤s.st.E.length,fun i=>s.st.E.length-i,fun i=>[(5,.int .i64 (i:Nat)),(3,.osl 2 (Ca.entE s.n s.st.ep i).length)],fun _=>[],fun i=>[.row 59 3 (Ca.entE s.n s.st.ep i).length (a0e wtC wt0 (Ca.entE s.n s.st.ep i)) true],0,⟨by omega,some [some 0,some 1,none],?_⟩,?_⟩
 ·(repeat' ((conv=>whnf);first|(with_reducible first|apply spl|apply spl'|refine iJ ?_)<;>intro hc<;>try(exfalso;omega)|refine vcq ?_|fail));all_goals(try conv=>whnf);try exact trivial
 ·intro i hi
  have hi:i≤s.st.E.length:=hi
  have hti:(i:Int).toNat=i:=Int.toNat_natCast i
  (repeat' ((conv=>whnf);first|(with_reducible first|apply spl|apply spl'|refine iJ ?_)<;>intro hc<;>try(exfalso;omega)|refine vcq ?_|fail));all_goals(try conv=>whnf);try exact trivial
  ·have hil:i<s.st.E.length:=by omega
   refine⟨Nat,fun b=>b≤s.n,fun b=>s.n-b,fun b=>[(6,.int .i64 (b:Nat)),(3,.osl 2 (entP s.n s.st.ep i b).length)],fun b=>[(2,.row 59 3 (entP s.n s.st.ep i b).length (a0e wtC wt0 (entP s.n s.st.ep i b)) true)],fun _=>[],0,⟨by omega,some [some 0,some 1,some 2],?_⟩,?_⟩
   ·dsimp only
    rw[entP_zero]
    (repeat' ((conv=>whnf);first|(with_reducible first|apply spl|apply spl'|refine iJ ?_)<;>intro hc<;>try(exfalso;omega)|refine vcq ?_|fail));all_goals(try conv=>whnf);try exact trivial
   ·intro b hb
    have hb:b≤s.n:=hb
    have htb:(b:Int).toNat=b:=Int.toNat_natCast b
    have hpl:(entP s.n s.st.ep i b).length≤1000:=by
     have h1:=entP_len s.n s.st.ep i b
     have h2:i*s.n≤17*6:=Nat.mul_le_mul (by omega) hn6
     omega
    (repeat' ((conv=>whnf);first|(with_reducible first|apply spl|apply spl'|refine iJ ?_)<;>intro hc<;>try(exfalso;omega)|refine vcq ?_|fail));all_goals(try conv=>whnf);try exact trivial
    ·have hv:s.st.ep i b≠-1:=by rw[hti,htb] at hc;exact hc
     refine⟨b+1,⟨by dsimp only;omega,by dsimp only;omega⟩,some [some 0,some 1,some 4],?_⟩
     dsimp only
     rw[entP_new hv,hti,htb,List.length_append]
     (repeat' ((conv=>whnf);first|(with_reducible first|apply spl|apply spl'|refine iJ ?_)<;>intro hc<;>try(exfalso;omega)|refine vcq ?_|fail));all_goals(try conv=>whnf);try exact trivial
     refine And.intro (a2h (c:=wtC) (a:=(i,b,s.st.ep i b)) rfl (fun _ _=>rfl)) ?_
     (repeat' ((conv=>whnf);first|(with_reducible first|apply spl|apply spl'|refine iJ ?_)<;>intro hc<;>try(exfalso;omega)|refine vcq ?_|fail));all_goals(try conv=>whnf);try exact trivial
    ·have hv:s.st.ep i b=-1:=by rw[hti,htb] at hc;exact Classical.not_not.1 hc
     refine⟨b+1,⟨by dsimp only;omega,by dsimp only;omega⟩,some [some 0,some 1,some 2],?_⟩
     dsimp only
     rw[entP_old hv]
     (repeat' ((conv=>whnf);first|(with_reducible first|apply spl|apply spl'|refine iJ ?_)<;>intro hc<;>try(exfalso;omega)|refine vcq ?_|fail));all_goals(try conv=>whnf);try exact trivial
    ·obtain rfl:b=s.n:=by omega
     rw[entP_all]
     refine⟨i+1,⟨by dsimp only;omega,by dsimp only;omega⟩,some [some 0,some 1,some 2],?_⟩
     (repeat' ((conv=>whnf);first|(with_reducible first|apply spl|apply spl'|refine iJ ?_)<;>intro hc<;>try(exfalso;omega)|refine vcq ?_|fail));all_goals(try conv=>whnf);try exact trivial
  ·obtain rfl:i=s.st.E.length:=by omega
   refine⟨_,rfl,?_⟩
   unfold Sv.W RS.ents
   (repeat' ((conv=>whnf);first|(with_reducible first|apply spl|apply spl'|refine iJ ?_)<;>intro hc<;>try(exfalso;omega)|refine vcq ?_|fail));all_goals(try conv=>whnf);try exact trivial
def Sv.AreS (s:Sv):Prop:=(∀i,i<s.sec.length→(0≤s.sec.getD i 0∧s.sec.getD i 0≤(s.d.cnt:Int)-1)∧∀k,k<i→s.sec.getD k 0≠s.sec.getD i 0)∧s.sec.length=s.n
theorem areSectors73 (s:Sv) (hd:s.d.Ok) (hx:s.x.Ok) (hsec:s.sec.length≤1000000):a0h Tryz.prog 73 false [.agg s.c] (·=.prop s.AreS (Classical.propDecidable _)):=by
 have hni:=Sv.nI hx
 refine a0a Tryz.E_ok Tryz.func73 rfl (by kernel_rfl) ?_
 unfold Sv.c
 (repeat' ((conv=>whnf);first|(with_reducible first|apply spl|apply spl'|refine iJ ?_)<;>intro hc<;>try(exfalso;omega)|refine vcq ?_|refine dr 9 ?_|refine dr 11 ?_));all_goals(try conv=>whnf);try exact trivial
 refine⟨Nat,fun i=>i≤s.sec.length∧∀j,j<i→(0≤s.sec.getD j 0∧s.sec.getD j 0≤(s.d.cnt:Int)-1)∧∀k,k<j→s.sec.getD k 0≠s.sec.getD j 0,fun i=>s.sec.length-i,fun i=>[(3,.int .i64 (i:Nat))],fun _=>[],fun _=>[],0,⟨⟨by omega,fun j hj=>by omega⟩,none,?_⟩,?_⟩
 ·(repeat' ((conv=>whnf);first|(with_reducible first|apply spl|apply spl'|refine iJ ?_)<;>intro hc<;>try(exfalso;omega)|refine vcq ?_|refine dr 9 ?_|refine dr 11 ?_));all_goals(try conv=>whnf);try exact trivial
 ·rintro i ⟨hi,hall⟩
  have hti:(i:Int).toNat=i:=Int.toNat_natCast i
  (repeat' ((conv=>whnf);first|(with_reducible first|apply spl|apply spl'|refine iJ ?_)<;>intro hc<;>try(exfalso;omega)|refine vcq ?_|refine dr 9 ?_|refine dr 11 ?_));all_goals(try conv=>whnf);try exact trivial
  ·have hil:i<s.sec.length:=by omega
   rw[hti]
   refine a0c (IsSector56 s.d hd (s.sec.getD i 0)) rfl ?_
   (repeat' ((conv=>whnf);first|(with_reducible first|apply spl|apply spl'|refine iJ ?_)<;>intro hc<;>try(exfalso;omega)|refine vcq ?_|refine dr 9 ?_|refine dr 11 ?_));all_goals(try conv=>whnf);try exact trivial
   ·have hno:¬s.AreS:=fun h=>hc (h.1 i hil).1
    refine⟨_,rfl,?_⟩
    (repeat' ((conv=>whnf);first|(with_reducible first|apply spl|apply spl'|refine iJ ?_)<;>intro hc<;>try(exfalso;omega)|refine vcq ?_|refine dr 9 ?_|refine dr 11 ?_));all_goals(try conv=>whnf);try exact trivial
   ·have hr:=Classical.not_not.1 hc
    refine⟨Nat,fun k=>k≤i∧∀a,a<k→s.sec.getD a 0≠s.sec.getD i 0,fun k=>i-k,fun k=>[(4,.int .i64 (k:Nat))],fun _=>[],fun _=>[],0,⟨⟨by omega,fun j hj=>by omega⟩,none,?_⟩,?_⟩
    ·(repeat' ((conv=>whnf);first|(with_reducible first|apply spl|apply spl'|refine iJ ?_)<;>intro hc<;>try(exfalso;omega)|refine vcq ?_|refine dr 9 ?_|refine dr 11 ?_));all_goals(try conv=>whnf);try exact trivial
    ·rintro k ⟨hk,hka⟩
     have htk:(k:Int).toNat=k:=Int.toNat_natCast k
     (repeat' ((conv=>whnf);first|(with_reducible first|apply spl|apply spl'|refine iJ ?_)<;>intro hc<;>try(exfalso;omega)|refine vcq ?_|refine dr 9 ?_|refine dr 11 ?_));all_goals(try conv=>whnf);try exact trivial
     ·rw[hti,htk] at hc
      have hno:¬s.AreS:=fun h=>(h.1 i hil).2 k (by omega) hc.symm
      refine⟨_,rfl,?_⟩
      (repeat' ((conv=>whnf);first|(with_reducible first|apply spl|apply spl'|refine iJ ?_)<;>intro hc<;>try(exfalso;omega)|refine vcq ?_|refine dr 9 ?_|refine dr 11 ?_));all_goals(try conv=>whnf);try exact trivial
     ·rw[hti,htk] at hc
      refine⟨k+1,⟨⟨by omega,fun a ha=>?_⟩,by dsimp only;omega⟩,none,?_⟩
      ·rcases Nat.lt_or_eq_of_le (show a≤k by omega) with g|rfl
       ·exact hka a g
       ·exact fun e=>hc e.symm
      ·(repeat' ((conv=>whnf);first|(with_reducible first|apply spl|apply spl'|refine iJ ?_)<;>intro hc<;>try(exfalso;omega)|refine vcq ?_|refine dr 9 ?_|refine dr 11 ?_));all_goals(try conv=>whnf);try exact trivial
     ·obtain rfl:k=i:=by omega
      refine⟨k+1,⟨⟨by omega,fun j hj=>?_⟩,by dsimp only;omega⟩,none,?_⟩
      ·rcases Nat.lt_or_eq_of_le (show j≤k by omega) with g|rfl
       ·exact hall j g
       ·exact⟨hr,hka⟩
      ·(repeat' ((conv=>whnf);first|(with_reducible first|apply spl|apply spl'|refine iJ ?_)<;>intro hc<;>try(exfalso;omega)|refine vcq ?_|refine dr 9 ?_|refine dr 11 ?_));all_goals(try conv=>whnf);try exact trivial
  ·obtain rfl:i=s.sec.length:=by omega
   have hiff:s.AreS↔(s.sec.length:Int)=s.x.n:=⟨fun h=>by have:=h.2;omega,fun h=>⟨hall,by omega⟩⟩
   refine⟨_,rfl,?_⟩
   (repeat' ((conv=>whnf);first|(with_reducible first|apply spl|apply spl'|refine iJ ?_)<;>intro hc<;>try(exfalso;omega)|refine vcq ?_|refine dr 9 ?_|refine dr 11 ?_));all_goals(try conv=>whnf);try exact trivial
   exact⟨hiff.symm,trivial⟩
theorem queue25 (s:Sv) (U:List Wt) (hV:U.length≤1000) (hb:∀w∈U,w.2.1<s.sec.length):a0h Tryz.prog 25 true [.agg s.c,.sl 3 U.length (a0e wtC wt0 U)] (·=.agg (s.qu U).c):=by
 have hlen:∀i,i≤U.length→((U.take i).map s.rqW).length=i:=fun i hi=>by rw[List.length_map,List.length_take];omega
 refine a0a Tryz.E_ok Tryz.func25 rfl (by kernel_rfl) ?_
 unfold Sv.c
 (repeat' ((conv=>whnf);first|(with_reducible first|apply spl|apply spl'|refine iJ ?_)<;>intro hc<;>try(exfalso;omega)|refine vcq ?_|refine dr 13 ?_));all_goals(try conv=>whnf);try exact trivial
 refine⟨Nat,fun i=>i≤U.length,fun i=>U.length-i,fun i=>[(6,.int .i64 (i:Nat))],fun i=>[(2,.cells 62 [.int .i64 s.d.H,.int .i64 s.d.T,.sl 2 s.d.Z.length (a0e zC (0,0) s.d.Z),.int .i64 s.d.hk,.int .i64 s.d.ck,.int .i64 s.d.hs.1,.int .i64 s.d.hs.2,.int .i64 s.d.cs.1,.int .i64 s.d.cs.2,.int .i64 s.cyl,.int .i64 0,.sl 2 s.sk.length (a0e zC (0,0) s.sk),.osl 3 i])],fun i=>[.row 66 5 i (a0e rqC Rq.none ((U.take i).map s.rqW)) true],0,⟨by omega,some [some 0,some 1,some 2,none],?_⟩,?_⟩
 ·(repeat' ((conv=>whnf);first|(with_reducible first|apply spl|apply spl'|refine iJ ?_)<;>intro hc<;>try(exfalso;omega)|refine vcq ?_|refine dr 13 ?_));all_goals(try conv=>whnf);try exact trivial
 ·intro i hi
  have hi:i≤U.length:=hi
  have hti:(i:Int).toNat=i:=Int.toNat_natCast i
  (repeat' ((conv=>whnf);first|(with_reducible first|apply spl|apply spl'|refine iJ ?_)<;>intro hc<;>try(exfalso;omega)|refine vcq ?_|refine dr 13 ?_));all_goals(try conv=>whnf);try exact trivial
  ·have hil:i<U.length:=by omega
   have hw:=hb _ (show U.getD i wt0∈U by rw[getW hil];exact List.getElem_mem hil)
   have htw:(((U.getD i wt0).2.1:Nat):Int).toNat=(U.getD i wt0).2.1:=Int.toNat_natCast _
   have hsc:(U.take (i+1)).map s.rqW=(U.take i).map s.rqW++[s.rqW (U.getD i wt0)]:=by
    rw[List.take_succ_eq_append_getElem hil,List.map_append,getW hil]
    rfl
   rw[hti]
   refine And.intro ⟨by omega,by omega⟩ ?_
   (repeat' ((conv=>whnf);first|(with_reducible first|apply spl|apply spl'|refine iJ ?_)<;>intro hc<;>try(exfalso;omega)|refine vcq ?_|refine dr 13 ?_));all_goals(try conv=>whnf);try exact trivial
   rw[htw]
   refine⟨i+1,⟨by dsimp only;omega,by dsimp only;omega⟩,some [some 0,some 1,some 2,some 5],?_⟩
   dsimp only
   rw[hsc]
   (repeat' ((conv=>whnf);first|(with_reducible first|apply spl|apply spl'|refine iJ ?_)<;>intro hc<;>try(exfalso;omega)|refine vcq ?_|refine dr 13 ?_));all_goals(try conv=>whnf);try exact trivial
   refine And.intro (fun k hk=>?_) ?_
   ·have h:=a2h (c:=rqC) (d:=Rq.none) (a:=s.rqW (U.getD i wt0)) (hlen i hi).symm (fun _ _=>rfl) k (by omega)
    rw[rqC_rqW] at h
    exact h
   ·(repeat' ((conv=>whnf);first|(with_reducible first|apply spl|apply spl'|refine iJ ?_)<;>intro hc<;>try(exfalso;omega)|refine vcq ?_|refine dr 13 ?_));all_goals(try conv=>whnf);try exact trivial
  ·obtain rfl:i=U.length:=by omega
   refine⟨_,rfl,?_⟩
   unfold Qu.c Sv.qu
   dsimp only
   rw[List.length_map,List.take_length]
   (repeat' ((conv=>whnf);first|(with_reducible first|apply spl|apply spl'|refine iJ ?_)<;>intro hc<;>try(exfalso;omega)|refine vcq ?_|refine dr 13 ?_));all_goals(try conv=>whnf);try exact trivial
end Go.Proofs
namespace Go.Proofs.Ca
open Go Go.Sx
set_option maxRecDepth 100000
set_option maxHeartbeats 40000000
theorem Cache.at {x:Cache} {i:Nat} (h:i<x.l.length):x.l.getD i (0,0)∈x.l:=by
 have e:x.l.getD i (0,0)=x.l[i]:=by simp[List.getD_eq_getElem?_getD,h]
 rw[e]
 exact List.getElem_mem h
theorem Check37 (x:Cache) (hl:x.l.length≤1000000):a0h Tryz.prog 71 false [x.v] (·=.int .i64 x.chk):=by
 refine a0a Tryz.E_ok Tryz.func71 rfl (by kernel_rfl) ?_
 unfold Cache.chk
 (repeat' ((conv=>whnf);first|(with_reducible first|apply spl|apply spl'|refine iJ ?_)<;>intro hc<;>try(exfalso;omega)|refine vcq ?_|fail));all_goals((try conv=>whnf);try exact trivial);(repeat' ((first|(refine a0b (within47 _ _ _) rfl ?_;rintro _ rfl)|(refine a0c (within47 _ _ _) rfl ?_)|(refine a0g (fun _=>within47 _ _ _) rfl ?_));(repeat' ((conv=>whnf);first|(with_reducible first|apply spl|apply spl'|refine iJ ?_)<;>intro hc<;>try(exfalso;omega)|refine vcq ?_|fail));all_goals((try conv=>whnf);try exact trivial)))
 ·rw[if_neg (fun h=>by have:=h.n;have:=h.len;omega)]
  refine⟨_,rfl,?_⟩
  (repeat' ((conv=>whnf);first|(with_reducible first|apply spl|apply spl'|refine iJ ?_)<;>intro hc<;>try(exfalso;omega)|refine vcq ?_|fail));all_goals(try conv=>whnf);try exact trivial
 ·have hn:(1≤x.n∧x.n≤6)∧(x.l.length:Int)≤16:=by omega
  refine⟨Nat,fun i=>i≤x.l.length∧∀j,j<i→Cache.OkO x.n (x.l.getD j (0,0)),fun i=>x.l.length-i,fun i=>[(3,.int .i64 (i:Nat)),(10,.any)],fun _=>[],fun _=>[],0,⟨⟨by omega,fun j hj=>by omega⟩,some [some 0],?_⟩,?_⟩
  ·(repeat' ((conv=>whnf);first|(with_reducible first|apply spl|apply spl'|refine iJ ?_)<;>intro hc<;>try(exfalso;omega)|refine vcq ?_|fail));all_goals(try conv=>whnf);try exact trivial
  ·rintro i ⟨h1,h2⟩
   have hti:(i:Int).toNat=i:=Int.toNat_natCast i
   have hbad:∀(hi:i<x.l.length),¬Cache.OkO x.n (x.l.getD i (0,0))→¬x.Ok:=fun hi h g=>h (g.ord _ (Cache.at hi))
   (repeat' ((conv=>whnf);first|(with_reducible first|apply spl|apply spl'|refine iJ ?_)<;>intro hc<;>try(exfalso;omega)|refine vcq ?_|fail));all_goals((try conv=>whnf);try exact trivial);(repeat' ((first|(refine a0b (within47 _ _ _) rfl ?_;rintro _ rfl)|(refine a0c (within47 _ _ _) rfl ?_)|(refine a0g (fun _=>within47 _ _ _) rfl ?_)|(refine a0b (puts35 _) rfl ?_;rintro _ rfl)|(refine a0c (puts35 _) rfl ?_)|(refine a0g (fun _=>puts35 _) rfl ?_));(repeat' ((conv=>whnf);first|(with_reducible first|apply spl|apply spl'|refine iJ ?_)<;>intro hc<;>try(exfalso;omega)|refine vcq ?_|fail));all_goals((try conv=>whnf);try exact trivial)))
   ·have hi:i<x.l.length:=by omega
    rw[hti] at *
    rw[if_neg (hbad hi (fun g=>by unfold Cache.OkO at g;omega))]
    refine⟨_,rfl,?_⟩
    (repeat' ((conv=>whnf);first|(with_reducible first|apply spl|apply spl'|refine iJ ?_)<;>intro hc<;>try(exfalso;omega)|refine vcq ?_|fail));all_goals(try conv=>whnf);try exact trivial
   ·have hi:i<x.l.length:=by omega
    rw[hti] at *
    refine⟨i+1,⟨⟨by omega,fun j hj=>?_⟩,by dsimp only;omega⟩,some [some 0],?_⟩
    ·rcases Nat.lt_or_eq_of_le (show j≤i by omega) with g|rfl
     ·exact h2 j g
     ·unfold Cache.OkO
      omega
    ·(repeat' ((conv=>whnf);first|(with_reducible first|apply spl|apply spl'|refine iJ ?_)<;>intro hc<;>try(exfalso;omega)|refine vcq ?_|fail));all_goals(try conv=>whnf);try exact trivial
   ·have hi:i<x.l.length:=by omega
    rw[hti] at *
    rw[if_neg (hbad hi (fun g=>by unfold Cache.OkO at g;omega))]
    refine⟨_,rfl,?_⟩
    (repeat' ((conv=>whnf);first|(with_reducible first|apply spl|apply spl'|refine iJ ?_)<;>intro hc<;>try(exfalso;omega)|refine vcq ?_|fail));all_goals(try conv=>whnf);try exact trivial
   ·have hi:i<x.l.length:=by omega
    rw[hti] at *
    rw[if_neg (hbad hi (fun g=>by unfold Cache.OkO at g;omega))]
    refine⟨_,rfl,?_⟩
    (repeat' ((conv=>whnf);first|(with_reducible first|apply spl|apply spl'|refine iJ ?_)<;>intro hc<;>try(exfalso;omega)|refine vcq ?_|fail));all_goals(try conv=>whnf);try exact trivial
   ·have hii:i=x.l.length:=by omega
    subst hii
    have hok:x.Ok:=by
     refine⟨hn.1,by omega,fun o ho=>?_⟩
     obtain⟨q,hq,rfl⟩:=List.getElem_of_mem ho
     have e:x.l.getD q (0,0)=x.l[q]:=by simp[List.getD_eq_getElem?_getD,hq]
     rw[←e]
     exact h2 q hq
    rw[if_pos hok]
    refine⟨_,rfl,?_⟩
    (repeat' ((conv=>whnf);first|(with_reducible first|apply spl|apply spl'|refine iJ ?_)<;>intro hc<;>try(exfalso;omega)|refine vcq ?_|fail));all_goals(try conv=>whnf);try exact trivial
end Go.Proofs.Ca
namespace Go.Proofs
open Go Go.Sx
set_option maxRecDepth 100000
set_option maxHeartbeats 40000000
open Ca (Wt epW IsCrs RS)
theorem Sv.sok_iff {s:Sv}:s.SOk↔(s.qu []).Ok∧s.AreS:=
 ⟨fun h=>⟨h.q,fun i hi=>⟨h.rng i hi,h.nd i hi⟩,h.len⟩,fun h=>⟨h.2.2,fun i hi=>(h.2.1 i hi).1,fun i hi=>(h.2.1 i hi).2,h.1⟩⟩
theorem rcheck33 (s:Sv) (hz:s.d.Z.length≤1000000) (hl:s.x.l.length≤1000000) (hsk:s.sk.length≤1000000) (hsec:s.sec.length≤1000000):a0h Tryz.prog 33 false [.agg s.c] (·=.int .i64 s.err):=by
 have hck:=Check37 s.d hz
 have hcx:=Ca.Check37 s.x hl
 unfold Ca.Cache.v at hcx
 have hq:=a0h.view (args:=[.agg s.c,.lit (.slice none 0 0)]) (queue25 s [] (Nat.zero_le _) (by simp)) (by unfold Sv.c;(repeat' ((conv=>whnf);first|(with_reducible first|apply spl|apply spl'|refine iJ ?_)<;>intro hc<;>try(exfalso;omega)|refine vcq ?_|fail));all_goals((try conv=>whnf);try exact trivial))
 have hcq:=Check26 (s.qu []) hz hsk (Nat.zero_le _)
 unfold Qu.c Sv.qu at hq hcq
 dsimp only[List.map_nil,List.length_nil] at hq hcq
 unfold Sv.c at hq ⊢
 refine a0a Tryz.E_ok Tryz.func33 rfl (by kernel_rfl) ?_
 (repeat' ((conv=>whnf);first|(with_reducible first|apply spl|apply spl'|refine iJ ?_)<;>intro hc<;>try(exfalso;omega)|refine vcq ?_|fail));all_goals(try conv=>whnf);try exact trivial
 refine a0b hck rfl ?_
 rintro _ rfl
 (repeat' ((conv=>whnf);first|(with_reducible first|apply spl|apply spl'|refine iJ ?_)<;>intro hc<;>try(exfalso;omega)|refine vcq ?_|fail));all_goals(try conv=>whnf);try exact trivial
 ·have hd:¬s.d.Ok:=fun h=>hc (Dk.chk_of h)
  have he:s.err=10:=by unfold Sv.err;rw[if_neg hd]
  refine⟨_,rfl,?_⟩
  rw[he]
  (repeat' ((conv=>whnf);first|(with_reducible first|apply spl|apply spl'|refine iJ ?_)<;>intro hc<;>try(exfalso;omega)|refine vcq ?_|fail));all_goals(try conv=>whnf);try exact trivial
 ·have hd:s.d.Ok:=Dk.chk_ok (Classical.not_not.1 hc)
  refine a0b hcx rfl ?_
  rintro _ rfl
  (repeat' ((conv=>whnf);first|(with_reducible first|apply spl|apply spl'|refine iJ ?_)<;>intro hc<;>try(exfalso;omega)|refine vcq ?_|fail));all_goals(try conv=>whnf);try exact trivial
  ·have hx:¬s.x.Ok:=fun h=>hc (by unfold Ca.Cache.chk;rw[if_pos h])
   have he:s.err=80:=by unfold Sv.err;rw[if_pos hd,if_neg hx];unfold Ca.Cache.chk;rw[if_neg hx]
   refine⟨_,rfl,?_⟩
   rw[he]
   (repeat' ((conv=>whnf);first|(with_reducible first|apply spl|apply spl'|refine iJ ?_)<;>intro hc<;>try(exfalso;omega)|refine vcq ?_|fail));all_goals(try conv=>whnf);try exact trivial
  ·have hx:s.x.Ok:=by
    have h:=Classical.not_not.1 hc
    unfold Ca.Cache.chk at h
    split at h
    ·assumption
    ·exact absurd h (by decide)
   have hsm:=Sv.at_small hx (Nat.le_refl _)
   refine a0b hq rfl ?_
   rintro _ rfl
   (repeat' ((conv=>whnf);first|(with_reducible first|apply spl|apply spl'|refine iJ ?_)<;>intro hc<;>try(exfalso;omega)|refine vcq ?_|fail));all_goals(try conv=>whnf);try exact trivial
   refine a0b hcq rfl ?_
   rintro _ rfl
   (repeat' ((conv=>whnf);first|(with_reducible first|apply spl|apply spl'|refine iJ ?_)<;>intro hc<;>try(exfalso;omega)|refine vcq ?_|fail));all_goals(try conv=>whnf);try exact trivial
   ·have hqk:(s.qu []).Ok:=Qu.chk_ok (by first|exact hc|exact Classical.not_not.1 hc)
    have har:=areSectors73 s hd hx hsec
    have hen:=entries49 s hx
    unfold Sv.c at har hen
    refine a0b har rfl ?_
    rintro _ rfl
    (repeat' ((conv=>whnf);first|(with_reducible first|apply spl|apply spl'|refine iJ ?_)<;>intro hc<;>try(exfalso;omega)|refine vcq ?_|fail));all_goals(try conv=>whnf);try exact trivial
    ·have hso:¬s.SOk:=fun h=>hc (Sv.sok_iff.1 h).2
     have he:s.err=150:=by unfold Sv.err;rw[if_pos hd,if_pos hx,if_neg hso]
     refine⟨_,rfl,?_⟩
     rw[he]
     (repeat' ((conv=>whnf);first|(with_reducible first|apply spl|apply spl'|refine iJ ?_)<;>intro hc<;>try(exfalso;omega)|refine vcq ?_|fail));all_goals(try conv=>whnf);try exact trivial
    ·have hso:s.SOk:=Sv.sok_iff.2 ⟨hqk,by first|exact hc|exact Classical.not_not.1 hc⟩
     refine a0b hen rfl ?_
     rintro _ rfl
     (repeat' ((conv=>whnf);first|(with_reducible first|apply spl|apply spl'|refine iJ ?_)<;>intro hc<;>try(exfalso;omega)|refine vcq ?_|fail));all_goals(try conv=>whnf);try exact trivial
     ·have he:s.err=2:=by unfold Sv.err;rw[if_pos hd,if_pos hx,if_pos hso,if_neg (by omega)]
      refine⟨_,rfl,?_⟩
      rw[he]
      (repeat' ((conv=>whnf);first|(with_reducible first|apply spl|apply spl'|refine iJ ?_)<;>intro hc<;>try(exfalso;omega)|refine vcq ?_|fail));all_goals(try conv=>whnf);try exact trivial
     ·have he:s.err=0:=by unfold Sv.err;rw[if_pos hd,if_pos hx,if_pos hso,if_pos (by omega)]
      refine⟨_,rfl,?_⟩
      rw[he]
      (repeat' ((conv=>whnf);first|(with_reducible first|apply spl|apply spl'|refine iJ ?_)<;>intro hc<;>try(exfalso;omega)|refine vcq ?_|fail));all_goals(try conv=>whnf);try exact trivial
   ·have hso:¬s.SOk:=fun h=>hc (Qu.chk_of h.q)
    have he:s.err=150:=by unfold Sv.err;rw[if_pos hd,if_pos hx,if_neg hso]
    refine⟨_,rfl,?_⟩
    rw[he]
    (repeat' ((conv=>whnf);first|(with_reducible first|apply spl|apply spl'|refine iJ ?_)<;>intro hc<;>try(exfalso;omega)|refine vcq ?_|fail));all_goals(try conv=>whnf);try exact trivial
theorem rentries34 (s:Sv) (hz:s.d.Z.length≤1000000) (hl:s.x.l.length≤1000000) (hsk:s.sk.length≤1000000) (hsec:s.sec.length≤1000000):a0h Tryz.prog 34 true [.agg s.c] (fun v=>(s.err=0∧v=.tup [.sl 3 s.W.length (a0e wtC wt0 s.W),.int .i64 0])∨s.err≠0∧v=.tup [.lit (.slice none 0 0),.int .i64 s.err]):=by
 have hck:=rcheck33 s hz hl hsk hsec
 have hent:=fun h=>entries49 s (Sv.err_ok h).x
 unfold Sv.c at hck hent ⊢
 refine a0a Tryz.E_ok Tryz.func34 rfl (by kernel_rfl) ?_
 (repeat' ((conv=>whnf);first|(with_reducible first|apply spl|apply spl'|refine iJ ?_)<;>intro hc<;>try(exfalso;omega)|refine vcq ?_|refine dr 28 ?_));all_goals(try conv=>whnf);try exact trivial
 refine a0b hck rfl ?_
 rintro _ rfl
 (repeat' ((conv=>whnf);first|(with_reducible first|apply spl|apply spl'|refine iJ ?_)<;>intro hc<;>try(exfalso;omega)|refine vcq ?_|refine dr 28 ?_));all_goals(try conv=>whnf);try exact trivial
 ·refine⟨_,.inr ⟨hc,rfl⟩,?_⟩
  (repeat' ((conv=>whnf);first|(with_reducible first|apply spl|apply spl'|refine iJ ?_)<;>intro hc<;>try(exfalso;omega)|refine vcq ?_|refine dr 28 ?_));all_goals(try conv=>whnf);try exact trivial
 ·have he:=Classical.not_not.1 hc
  refine a0b (hent he) rfl ?_
  rintro _ rfl
  (repeat' ((conv=>whnf);first|(with_reducible first|apply spl|apply spl'|refine iJ ?_)<;>intro hc<;>try(exfalso;omega)|refine vcq ?_|refine dr 28 ?_));all_goals(try conv=>whnf);try exact trivial
  refine⟨_,.inl ⟨he,rfl⟩,?_⟩
  (repeat' ((conv=>whnf);first|(with_reducible first|apply spl|apply spl'|refine iJ ?_)<;>intro hc<;>try(exfalso;omega)|refine vcq ?_|refine dr 28 ?_));all_goals(try conv=>whnf);try exact trivial
theorem within55n (n x y:Int):a0h Tryz.prog 55 false [.int .i64 n,.int .i64 x,.int .i64 y] (·=.prop (x≤n∧n≤y) inferInstance):=by
 refine a0a Tryz.E_ok Tryz.func55 rfl (by kernel_rfl) ?_
 (repeat' ((conv=>whnf);first|(with_reducible first|apply spl|apply spl'|refine iJ ?_)<;>intro hc<;>try(exfalso;omega)|refine vcq ?_|refine dr 28 ?_));all_goals(try conv=>whnf);try exact trivial
 refine⟨_,rfl,?_⟩
 (repeat' ((conv=>whnf);first|(with_reducible first|apply spl|apply spl'|refine iJ ?_)<;>intro hc<;>try(exfalso;omega)|refine vcq ?_|refine dr 28 ?_));all_goals(try conv=>whnf);try exact trivial
def CrsR (W:List Wt) (l:List Int):Prop:=(∀i,i<l.length→(0≤l.getD i 0∧l.getD i 0≤(W.length:Int)-1)∧∀k,k<i→l.getD k 0≠l.getD i 0∧epW W (l.getD k 0).toNat≤epW W (l.getD i 0).toNat)∧l.length=W.length
theorem crsR_iff {W:List Wt} {l:List Int}:CrsR W l↔CrsI W l:=by
 constructor
 ·intro h
  exact⟨⟨fun i hi=>(h.1 i hi).1,fun i hi k hk=>((h.1 i hi).2 k hk).1,h.2⟩,fun j hj=>((h.1 (j+1) hj).2 j (by omega)).2⟩
 ·intro h
  have hm:∀j k,j+k<l.length→epW W (l.getD j 0).toNat≤epW W (l.getD (j+k) 0).toNat:=fun j k=>by
   induction k with
   |zero=>intro _;exact Nat.le_refl _
   |succ k ih=>intro hk;exact Nat.le_trans (ih (by omega)) (h.2 (j+k) (by omega))
  refine⟨fun i hi=>⟨h.1.rng i hi,fun k hk=>⟨h.1.nd i hi k hk,?_⟩⟩,h.1.len⟩
  have:=hm k (i-k) (by omega)
  rwa [show k+(i-k)=i by omega] at this
theorem isCourse57 (W:List Wt) (_hW:∀w∈W,WtS w) (hWl:W.length≤6) (l:List Int) (hl:l.length≤1000000):a0h Tryz.prog 57 false [.sl 3 W.length (a0e wtC wt0 W),.sl 1 l.length (a0e intC 0 l)] (·=.prop (CrsR W l) (Classical.propDecidable _)):=by
 refine a0a Tryz.E_ok Tryz.func57 rfl (by kernel_rfl) ?_
 (repeat' ((conv=>whnf);first|(with_reducible first|apply spl|apply spl'|refine iJ ?_)<;>intro hc<;>try(exfalso;omega)|refine vcq ?_|refine dr 28 ?_));all_goals(try conv=>whnf);try exact trivial
 refine⟨Nat,fun i=>i≤l.length∧∀j,j<i→(0≤l.getD j 0∧l.getD j 0≤(W.length:Int)-1)∧∀k,k<j→l.getD k 0≠l.getD j 0∧epW W (l.getD k 0).toNat≤epW W (l.getD j 0).toNat,fun i=>l.length-i,fun i=>[(5,.int .i64 (i:Nat))],fun _=>[],fun _=>[],0,⟨⟨by omega,fun j hj=>by omega⟩,none,?_⟩,?_⟩
 ·(repeat' ((conv=>whnf);first|(with_reducible first|apply spl|apply spl'|refine iJ ?_)<;>intro hc<;>try(exfalso;omega)|refine vcq ?_|refine dr 28 ?_));all_goals(try conv=>whnf);try exact trivial
 ·rintro i ⟨hi,hall⟩
  have hti:(i:Int).toNat=i:=Int.toNat_natCast i
  (repeat' ((conv=>whnf);first|(with_reducible first|apply spl|apply spl'|refine iJ ?_)<;>intro hc<;>try(exfalso;omega)|refine vcq ?_|refine dr 28 ?_));all_goals(try conv=>whnf);try exact trivial
  ·have hil:i<l.length:=by omega
   rw[hti]
   refine a0b (within55n _ _ _) rfl ?_
   rintro _ rfl
   (repeat' ((conv=>whnf);first|(with_reducible first|apply spl|apply spl'|refine iJ ?_)<;>intro hc<;>try(exfalso;omega)|refine vcq ?_|refine dr 28 ?_));all_goals(try conv=>whnf);try exact trivial
   ·have hno:¬CrsR W l:=fun h=>hc (h.1 i hil).1
    refine⟨_,rfl,?_⟩
    (repeat' ((conv=>whnf);first|(with_reducible first|apply spl|apply spl'|refine iJ ?_)<;>intro hc<;>try(exfalso;omega)|refine vcq ?_|refine dr 28 ?_));all_goals(try conv=>whnf);try exact trivial
   ·have hr:=Classical.not_not.1 hc
    refine⟨Nat,fun k=>k≤i∧∀a,a<k→l.getD a 0≠l.getD i 0∧epW W (l.getD a 0).toNat≤epW W (l.getD i 0).toNat,fun k=>i-k,fun k=>[(6,.int .i64 (k:Nat))],fun _=>[],fun _=>[],0,⟨⟨by omega,fun j hj=>by omega⟩,none,?_⟩,?_⟩
    ·(repeat' ((conv=>whnf);first|(with_reducible first|apply spl|apply spl'|refine iJ ?_)<;>intro hc<;>try(exfalso;omega)|refine vcq ?_|refine dr 28 ?_));all_goals(try conv=>whnf);try exact trivial
    ·rintro k ⟨hk,hka⟩
     have htk:(k:Int).toNat=k:=Int.toNat_natCast k
     (repeat' ((conv=>whnf);first|(with_reducible first|apply spl|apply spl'|refine iJ ?_)<;>intro hc<;>try(exfalso;omega)|refine vcq ?_|refine dr 28 ?_));all_goals(try conv=>whnf);try exact trivial
     ·have hki:k<i:=by omega
      have hkr:=(hall k hki).1
      rw[hti,htk]
      refine And.intro (fun _=>⟨by omega,by omega⟩) ?_
      (repeat' ((conv=>whnf);first|(with_reducible first|apply spl|apply spl'|refine iJ ?_)<;>intro hc<;>try(exfalso;omega)|refine vcq ?_|refine dr 28 ?_));all_goals(try conv=>whnf);try exact trivial
      rw[hti]
      refine And.intro (fun _=>⟨by omega,by omega⟩) ?_
      (repeat' ((conv=>whnf);first|(with_reducible first|apply spl|apply spl'|refine iJ ?_)<;>intro hc<;>try(exfalso;omega)|refine vcq ?_|refine dr 28 ?_));all_goals(try conv=>whnf);try exact trivial
      ·have hno:¬CrsR W l:=fun h=>by
        have h1:=(h.1 i hil).2 k hki
        rcases hc with h2|h2
        ·exact h1.1 h2
        ·have h3:=h1.2
         unfold epW at h3
         have h4:((W.getD (l.getD i 0).toNat wt0).1:Int)<(W.getD (l.getD k 0).toNat wt0).1:=h2
         have h5:(W.getD (l.getD k 0).toNat wt0).1≤(W.getD (l.getD i 0).toNat wt0).1:=h3
         omega
       refine⟨_,rfl,?_⟩
       (repeat' ((conv=>whnf);first|(with_reducible first|apply spl|apply spl'|refine iJ ?_)<;>intro hc<;>try(exfalso;omega)|refine vcq ?_|refine dr 28 ?_));all_goals(try conv=>whnf);try exact trivial
      ·refine⟨k+1,⟨⟨by omega,fun a ha=>?_⟩,by dsimp only;omega⟩,none,?_⟩
       ·rcases Nat.lt_or_eq_of_le (show a≤k by omega) with g|rfl
        ·exact hka a g
        ·refine⟨fun e=>hc (.inl e),?_⟩
         have h2:¬((W.getD (l.getD i 0).toNat wt0).1:Int)<(W.getD (l.getD a 0).toNat wt0).1:=fun e=>hc (.inr e)
         show(W.getD (l.getD a 0).toNat wt0).1≤(W.getD (l.getD i 0).toNat wt0).1
         omega
       ·(repeat' ((conv=>whnf);first|(with_reducible first|apply spl|apply spl'|refine iJ ?_)<;>intro hc<;>try(exfalso;omega)|refine vcq ?_|refine dr 28 ?_));all_goals(try conv=>whnf);try exact trivial
     ·obtain rfl:k=i:=by omega
      refine⟨k+1,⟨⟨by omega,fun j hj=>?_⟩,by dsimp only;omega⟩,none,?_⟩
      ·rcases Nat.lt_or_eq_of_le (show j≤k by omega) with g|rfl
       ·exact hall j g
       ·exact⟨hr,hka⟩
      ·(repeat' ((conv=>whnf);first|(with_reducible first|apply spl|apply spl'|refine iJ ?_)<;>intro hc<;>try(exfalso;omega)|refine vcq ?_|refine dr 28 ?_));all_goals(try conv=>whnf);try exact trivial
  ·obtain rfl:i=l.length:=by omega
   have hiff:CrsR W l↔(l.length:Int)=W.length:=⟨fun h=>by have:=h.2;omega,fun h=>⟨hall,by omega⟩⟩
   refine⟨_,rfl,?_⟩
   (repeat' ((conv=>whnf);first|(with_reducible first|apply spl|apply spl'|refine iJ ?_)<;>intro hc<;>try(exfalso;omega)|refine vcq ?_|refine dr 28 ?_));all_goals(try conv=>whnf);try exact trivial
   exact⟨hiff.symm,trivial⟩
theorem checkCourse21 (s:Sv) (hz:s.d.Z.length≤1000000) (hx:s.x.l.length≤1000000) (hsk:s.sk.length≤1000000) (hsec:s.sec.length≤1000000) (l:List Int) (hl:l.length≤1000000):a0h Tryz.prog 21 false [.agg s.c,.sl 1 l.length (a0e intC 0 l)] (·=.int .i64 (s.cerr l)):=by
 have hck:=rcheck33 s hz hx hsk hsec
 have hent:=fun h=>entries49 s (Sv.err_ok h).x
 unfold Sv.c at hck hent ⊢
 refine a0a Tryz.E_ok Tryz.func21 rfl (by kernel_rfl) ?_
 (repeat' ((conv=>whnf);first|(with_reducible first|apply spl|apply spl'|refine iJ ?_)<;>intro hc<;>try(exfalso;omega)|refine vcq ?_|refine dr 28 ?_));all_goals(try conv=>whnf);try exact trivial
 refine a0b hck rfl ?_
 rintro _ rfl
 (repeat' ((conv=>whnf);first|(with_reducible first|apply spl|apply spl'|refine iJ ?_)<;>intro hc<;>try(exfalso;omega)|refine vcq ?_|refine dr 28 ?_));all_goals(try conv=>whnf);try exact trivial
 ·have he:s.cerr l=s.err:=by unfold Sv.cerr;rw[if_neg hc]
  refine⟨_,rfl,?_⟩
  rw[he]
  (repeat' ((conv=>whnf);first|(with_reducible first|apply spl|apply spl'|refine iJ ?_)<;>intro hc<;>try(exfalso;omega)|refine vcq ?_|refine dr 28 ?_));all_goals(try conv=>whnf);try exact trivial
 ·have he:=Classical.not_not.1 hc
  have hok:=Sv.err_ok he
  refine a0b (hent he) rfl ?_
  rintro _ rfl
  (repeat' ((conv=>whnf);first|(with_reducible first|apply spl|apply spl'|refine iJ ?_)<;>intro hc<;>try(exfalso;omega)|refine vcq ?_|refine dr 28 ?_));all_goals(try conv=>whnf);try exact trivial
  refine a0b (isCourse57 s.W (fun w hw=>(hok.ws w hw).1) hok.few l hl) rfl ?_
  rintro _ rfl
  (repeat' ((conv=>whnf);first|(with_reducible first|apply spl|apply spl'|refine iJ ?_)<;>intro hc<;>try(exfalso;omega)|refine vcq ?_|refine dr 28 ?_));all_goals(try conv=>whnf);try exact trivial
  ·have hne:¬CrsI s.W l:=fun h=>hc (crsR_iff.2 h)
   have he2:s.cerr l=151:=by unfold Sv.cerr;rw[if_pos he,if_neg hne]
   refine⟨_,rfl,?_⟩
   rw[he2]
   (repeat' ((conv=>whnf);first|(with_reducible first|apply spl|apply spl'|refine iJ ?_)<;>intro hc<;>try(exfalso;omega)|refine vcq ?_|refine dr 28 ?_));all_goals(try conv=>whnf);try exact trivial
  ·have hye:CrsI s.W l:=crsR_iff.1 (by first|exact hc|exact Classical.not_not.1 hc)
   have he2:s.cerr l=0:=by unfold Sv.cerr;rw[if_pos he,if_pos hye]
   refine⟨_,rfl,?_⟩
   rw[he2]
   (repeat' ((conv=>whnf);first|(with_reducible first|apply spl|apply spl'|refine iJ ?_)<;>intro hc<;>try(exfalso;omega)|refine vcq ?_|refine dr 28 ?_));all_goals(try conv=>whnf);try exact trivial
theorem rends74 (s:Sv) (hs:s.Ok) (o:List Nat) (ho:IsCrs s.W o):a0h Tryz.prog 74 false [.agg s.c,.sl 1 o.length (a0e natC 0 o)] (·=.sl 2 o.length (fun k=>[.int .i64 (s.endW false o k),.int .i64 (s.endW true o k)])):=by
 have hf:=hs.few
 have hol:=ho.len
 have hq:=queue25 s s.W (by omega) (fun w hw=>by have:=(hs.ws w hw).2;rw[hs.so.len];exact this)
 have hql:(s.qu s.W).rq.length=o.length:=by rw[Sv.qu_len,ho.len]
 have he:=REndsO (s.qu s.W) (Sv.quW_ok hs) o ⟨by rw[hql],ho.nd,fun x hx=>by rw[hql,ho.len];exact ho.lt x hx⟩
 have hen:=entries49 s hs.x
 have hev:∀hi k,k<o.length→(s.qu s.W).endOf hi o (o.getD k 0)=s.endW hi o k:=fun hi k hk=>by
  unfold Qu.endOf Sv.endW
  rw[a0r hk,if_pos (List.getElem_mem hk),ho.nd.idxOf_getElem k hk]
 rw[hql] at he
 unfold Qu.c at hq he
 unfold Sv.c at hq hen ⊢
 refine a0a Tryz.E_ok Tryz.func74 rfl (by kernel_rfl) ?_
 (repeat' ((conv=>whnf);first|(with_reducible first|apply spl|apply spl'|refine iJ ?_)<;>intro hc<;>try(exfalso;omega)|refine vcq ?_|refine dr 11 ?_));all_goals(try conv=>whnf);try exact trivial
 refine a0c hen rfl ?_
 (repeat' ((conv=>whnf);first|(with_reducible first|apply spl|apply spl'|refine iJ ?_)<;>intro hc<;>try(exfalso;omega)|refine vcq ?_|refine dr 11 ?_));all_goals(try conv=>whnf);try exact trivial
 refine a0c hq rfl ?_
 (repeat' ((conv=>whnf);first|(with_reducible first|apply spl|apply spl'|refine iJ ?_)<;>intro hc<;>try(exfalso;omega)|refine vcq ?_|refine dr 11 ?_));all_goals(try conv=>whnf);try exact trivial
 refine a0c he rfl ?_
 (repeat' ((conv=>whnf);first|(with_reducible first|apply spl|apply spl'|refine iJ ?_)<;>intro hc<;>try(exfalso;omega)|refine vcq ?_|refine dr 11 ?_));all_goals(try conv=>whnf);try exact trivial
 refine⟨Nat,fun i=>i≤o.length,fun i=>o.length-i,fun i=>[(8,.int .i64 (i:Nat)),(7,.osl 1 i)],fun _=>[],fun i=>[.row 27 2 i (fun k=>[.int .i64 (s.endW false o k),.int .i64 (s.endW true o k)]) true],0,⟨by omega,some [some 0,none],?_⟩,?_⟩
 ·(repeat' ((conv=>whnf);first|(with_reducible first|apply spl|apply spl'|refine iJ ?_)<;>intro hc<;>try(exfalso;omega)|refine vcq ?_|refine dr 11 ?_));all_goals(try conv=>whnf);try exact trivial
 ·intro i hi
  have hi:i≤o.length:=hi
  have hti:(i:Int).toNat=i:=Int.toNat_natCast i
  (repeat' ((conv=>whnf);first|(with_reducible first|apply spl|apply spl'|refine iJ ?_)<;>intro hc<;>try(exfalso;omega)|refine vcq ?_|refine dr 11 ?_));all_goals(try conv=>whnf);try exact trivial
  ·have hio:i<o.length:=by omega
   have hx:=ho.lt (o.getD i 0) (by rw[a0r hio];exact List.getElem_mem hio)
   have hto:((o.getD i 0:Nat):Int).toNat=o.getD i 0:=Int.toNat_natCast _
   rw[hti]
   refine And.intro ⟨by omega,by omega⟩ ?_
   (repeat' ((conv=>whnf);first|(with_reducible first|apply spl|apply spl'|refine iJ ?_)<;>intro hc<;>try(exfalso;omega)|refine vcq ?_|refine dr 11 ?_));all_goals(try conv=>whnf);try exact trivial
   rw[hto,hev false i hio,hev true i hio]
   refine⟨i+1,⟨by dsimp only;omega,by dsimp only;omega⟩,some [some 0,some 3],?_⟩
   (repeat' ((conv=>whnf);first|(with_reducible first|apply spl|apply spl'|refine iJ ?_)<;>intro hc<;>try(exfalso;omega)|refine vcq ?_|refine dr 11 ?_));all_goals(try conv=>whnf);try exact trivial
   refine And.intro (appF_last rfl) ?_
   (repeat' ((conv=>whnf);first|(with_reducible first|apply spl|apply spl'|refine iJ ?_)<;>intro hc<;>try(exfalso;omega)|refine vcq ?_|refine dr 11 ?_));all_goals(try conv=>whnf);try exact trivial
  ·obtain rfl:i=o.length:=by omega
   refine⟨_,rfl,?_⟩
   (repeat' ((conv=>whnf);first|(with_reducible first|apply spl|apply spl'|refine iJ ?_)<;>intro hc<;>try(exfalso;omega)|refine vcq ?_|refine dr 11 ?_));all_goals(try conv=>whnf);try exact trivial
end Go.Proofs
namespace Go.Proofs
open Go Go.Sx
set_option maxRecDepth 100000
set_option maxHeartbeats 40000000
open Ca (Wt epW IsCrs okR okP)
theorem appF_zero {f g:Nat→List V} {k:Nat}:appF 0 f g k=g k:=by
 unfold appF
 simp
theorem rowOf_app {α:Type} {c:α→List V} {d:α} {l l':List α}:∀i,i<l.length+l'.length→appF l.length (a0e c d l) (a0e c d l') i=a0e c d (l++l') i:=by
 intro i hi
 unfold appF a0e
 by_cases h:i<l.length
 ·simp[h,List.getD_eq_getElem?_getD,List.getElem?_append_left h]
 ·simp[h,List.getD_eq_getElem?_getD,List.getElem?_append_right (Nat.le_of_not_lt h)]
def ordC (o:List Nat):List V:=[.sl 1 o.length (a0e natC 0 o)]
open Classical in
noncomputable def crsF (ok:List Nat→Nat→Prop) (N m:Nat) (b:List Nat) (k:Nat):List (List Nat):=if ok b k then Ca.crs ok N m (b++[k]) else []
noncomputable def crsP (ok:List Nat→Nat→Prop) (N m:Nat) (b:List Nat) (i:Nat):List (List Nat):=(List.range i).flatMap (crsF ok N m b)
section
variable {ok:List Nat→Nat→Prop} {N m:Nat} {b:List Nat} {i:Nat}
theorem crsP_succ:crsP ok N m b (i+1)=crsP ok N m b i++crsF ok N m b i:=by
 unfold crsP
 rw[List.range_succ,List.flatMap_append,List.flatMap_singleton]
theorem crsP_all:crsP ok N m b N=Ca.crs ok N (m+1) b:=rfl
theorem crsP_no (h:¬ok b i):crsP ok N m b (i+1)=crsP ok N m b i:=by
 rw[crsP_succ,crsF,if_neg h,List.append_nil]
theorem crsP_yes (h:ok b i):crsP ok N m b (i+1)=crsP ok N m b i++Ca.crs ok N m (b++[i]):=by
 rw[crsP_succ,crsF,if_pos h]
end
theorem crs_length (ok:List Nat→Nat→Prop) (N:Nat) (hn:N≤6):∀(m:Nat) (b:List Nat),(Ca.crs ok N m b).length≤6 ^ m
 |0,b=>by simp[Ca.crs]
 |m+1,b=>by
  have h:∀i,(crsP ok N m b i).length≤i*6 ^ m:=fun i=>by
   induction i with
   |zero=>simp[crsP]
   |succ i ih=>
    rw[crsP_succ,List.length_append]
    have h2:(crsF ok N m b i).length≤6 ^ m:=by
     unfold crsF
     split
     ·exact crs_length ok N hn m _
     ·simp
    rw[Nat.add_mul]
    omega
  have h1:=h N
  rw[crsP_all] at h1
  have h2:N*6 ^ m≤6*6 ^ m:=Nat.mul_le_mul_right _ hn
  rw[Nat.pow_succ,Nat.mul_comm (6 ^ m) 6]
  omega
theorem crsP_length (ok:List Nat→Nat→Prop) (N:Nat) (hn:N≤6) (m:Nat) (hm:m≤5) (b:List Nat) (i:Nat) (hi:i≤N):(crsP ok N m b i).length≤50000:=by
 have h:∀i,(crsP ok N m b i).length≤i*6 ^ m:=fun i=>by
  induction i with
  |zero=>simp[crsP]
  |succ i ih=>
   rw[crsP_succ,List.length_append]
   have h2:(crsF ok N m b i).length≤6 ^ m:=by
    unfold crsF
    split
    ·exact crs_length ok N hn m _
    ·simp
   rw[Nat.add_mul]
   omega
 have h1:=h i
 have h2:i*6 ^ m≤6*6 ^ m:=Nat.mul_le_mul_right _ (by omega)
 have h3:6 ^ m≤6 ^ 5:=Nat.pow_le_pow_right (by omega) hm
 omega
theorem okR_nil (W:List Wt) (i:Nat):okR W [] i:=fun x hx=>by cases hx
theorem okR_snoc {W:List Wt} {b:List Nat} {i j:Nat} (hj:j<b.length):okR W (b.take (j+1)) i↔(okR W (b.take j) i∧(b.getD j 0:Int)≠i)∧((W.getD (b.getD j 0) wt0).1:Int)≤(W.getD i wt0).1:=by
 rw[List.take_succ_eq_append_getElem hj,←a0r hj]
 unfold okR
 constructor
 ·intro h
  have h1:=h (b.getD j 0) (by simp)
  refine⟨⟨fun x hx=>h x (List.mem_append_left _ hx),fun g=>h1.1 (by omega)⟩,?_⟩
  have:=h1.2
  unfold epW at this
  exact_mod_cast this
 ·rintro⟨⟨h1,h2⟩,h3⟩ x hx
  rcases List.mem_append.1 hx with g|g
  ·exact h1 x g
  ·rw[List.mem_singleton] at g
   subst g
   exact⟨fun e=>h2 (by rw[e]),by unfold epW;exact_mod_cast h3⟩
theorem courses48 (W:List Wt) (hW:W.length≤6) (hsm:∀w∈W,WtS w):∀(m:Nat) (b:List Nat),b.length+m=W.length→(∀x∈b,x<W.length)→
  a0h Tryz.prog 48 true [.sl 3 W.length (a0e wtC wt0 W),.sl 1 b.length (a0e natC 0 b)] (·=.sl 1 (Ca.crs (okR W) W.length m b).length (a0e ordC [] (Ca.crs (okR W) W.length m b)))
 |0,b,hl,hlt=>by
  refine a0a Tryz.E_ok Tryz.func48 rfl (by kernel_rfl) ?_
  (repeat' ((conv=>whnf);first|(with_reducible first|apply spl|apply spl'|refine iJ ?_)<;>intro hc<;>try(exfalso;omega)|refine vcq ?_|refine dr 25 ?_));all_goals(try conv=>whnf);try exact trivial
  refine⟨_,rfl,?_⟩
  (repeat' ((conv=>whnf);first|(with_reducible first|apply spl|apply spl'|refine iJ ?_)<;>intro hc<;>try(exfalso;omega)|refine vcq ?_|refine dr 25 ?_));all_goals(try conv=>whnf);try exact trivial
  exact⟨fun i hi=>by(obtain rfl:i=0:=by omega);rfl,.inl rfl,trivial⟩
 |m+1,b,hl,hlt=>by
  have ih:=courses48 W hW hsm m
  refine a0a Tryz.E_ok Tryz.func48 rfl (by kernel_rfl) ?_
  (repeat' ((conv=>whnf);first|(with_reducible first|apply spl|apply spl'|refine iJ ?_)<;>intro hc<;>try(exfalso;omega)|refine vcq ?_|refine dr 25 ?_));all_goals(try conv=>whnf);try exact trivial
  refine⟨Nat,fun i=>i≤W.length,fun i=>W.length-i,fun i=>[(6,.int .i64 (i:Nat)),(5,.osl 0 (crsP (okR W) W.length m b i).length)],fun _=>[],fun i=>[.row 31 1 (crsP (okR W) W.length m b i).length (a0e ordC [] (crsP (okR W) W.length m b i)) true],0,⟨by omega,some [none],?_⟩,?_⟩
  ·(repeat' ((conv=>whnf);first|(with_reducible first|apply spl|apply spl'|refine iJ ?_)<;>intro hc<;>try(exfalso;omega)|refine vcq ?_|refine dr 25 ?_));all_goals(try conv=>whnf);try exact trivial
  ·intro i hi
   have hi:i≤W.length:=hi
   have hti:(i:Int).toNat=i:=Int.toNat_natCast i
   have hpl:=crsP_length (okR W) W.length hW m (by omega) b i hi
   (repeat' ((conv=>whnf);first|(with_reducible first|apply spl|apply spl'|refine iJ ?_)<;>intro hc<;>try(exfalso;omega)|refine vcq ?_|refine dr 25 ?_));all_goals(try conv=>whnf);try exact trivial
   ·have hil:i<W.length:=by omega
    refine⟨Nat,fun j=>j≤b.length,fun j=>b.length-j,fun j=>[(8,.int .i64 (j:Nat)),(7,.prop (okR W (b.take j) i) (Classical.propDecidable _))],fun _=>[],fun _=>[],0,⟨by omega,none,?_⟩,?_⟩
    ·(repeat' ((conv=>whnf);first|(with_reducible first|apply spl|apply spl'|refine iJ ?_)<;>intro hc<;>try(exfalso;omega)|refine vcq ?_|refine dr 25 ?_));all_goals(try conv=>whnf);try exact trivial
     refine⟨by simpa using okR_nil W i,?_⟩
     (repeat' ((conv=>whnf);first|(with_reducible first|apply spl|apply spl'|refine iJ ?_)<;>intro hc<;>try(exfalso;omega)|refine vcq ?_|refine dr 25 ?_));all_goals(try conv=>whnf);try exact trivial
    ·intro j hj
     have hj:j≤b.length:=hj
     have htj:(j:Int).toNat=j:=Int.toNat_natCast j
     (repeat' ((conv=>whnf);first|(with_reducible first|apply spl|apply spl'|refine iJ ?_)<;>intro hc<;>try(exfalso;omega)|refine vcq ?_|refine dr 25 ?_));all_goals(try conv=>whnf);try exact trivial
     ·have hjb:j<b.length:=by omega
      have hbj:b.getD j 0<W.length:=by rw[a0r hjb];exact hlt _ (List.getElem_mem hjb)
      have htb:((b.getD j 0:Nat):Int).toNat=b.getD j 0:=Int.toNat_natCast _
      rw[htj]
      have hv:=okR_snoc (W:=W) (b:=b) (i:=i) hjb
      refine And.intro (fun _=>⟨by omega,by omega⟩) ?_
      (repeat' ((conv=>whnf);first|(with_reducible first|apply spl|apply spl'|refine iJ ?_)<;>intro hc<;>try(exfalso;omega)|refine vcq ?_|refine dr 25 ?_));all_goals(try conv=>whnf);try exact trivial
      rw[htb,hti]
      refine⟨j+1,⟨by omega,by dsimp only;omega⟩,none,?_⟩
      (repeat' ((conv=>whnf);first|(with_reducible first|apply spl|apply spl'|refine iJ ?_)<;>intro hc<;>try(exfalso;omega)|refine vcq ?_|refine dr 25 ?_));all_goals(try conv=>whnf);try exact trivial
      refine⟨hv.symm,?_⟩
      (repeat' ((conv=>whnf);first|(with_reducible first|apply spl|apply spl'|refine iJ ?_)<;>intro hc<;>try(exfalso;omega)|refine vcq ?_|refine dr 25 ?_));all_goals(try conv=>whnf);try exact trivial
     ·obtain rfl:j=b.length:=by omega
      rw[List.take_length] at hc
      have hp:=crsP_yes (N:=W.length) (m:=m) hc
      have hpl2:=crsP_length (okR W) W.length hW m (by omega) b (i+1) (by omega)
      rw[hp,List.length_append] at hpl2
      have hlt2:∀x∈b++[i],x<W.length:=fun x hx=>by
       rcases List.mem_append.1 hx with g|g
       ·exact hlt x g
       ·rw[List.mem_singleton.1 g];exact hil
      refine callee_frz (a0h.view (ih (b++[i]) (by rw[List.length_append,List.length_singleton];omega) hlt2) ?_) rfl ?_ ?_
      ·(repeat' ((conv=>whnf);first|(with_reducible first|apply spl|apply spl'|refine iJ ?_)<;>intro hc<;>try(exfalso;omega)|refine vcq ?_|refine dr 25 ?_));all_goals(try conv=>whnf);try exact trivial
       refine⟨by simp,?_,?_⟩
       ·intro k hk
        exact a2h (n:=0+b.length) (Nat.zero_add _) (fun k hk=>appF_zero) k hk
       ·(repeat' ((conv=>whnf);first|(with_reducible first|apply spl|apply spl'|refine iJ ?_)<;>intro hc<;>try(exfalso;omega)|refine vcq ?_|refine dr 25 ?_));all_goals(try conv=>whnf);try exact trivial
      ·intro p hp
       simp[a2g] at hp
       exact hp
      ·rintro _ rfl
       (repeat' ((conv=>whnf);first|(with_reducible first|apply spl|apply spl'|refine iJ ?_)<;>intro hc<;>try(exfalso;omega)|refine vcq ?_|refine dr 25 ?_));all_goals(try conv=>whnf);try exact trivial
       refine⟨i+1,⟨by omega,by dsimp only;omega⟩,some [some 5],?_⟩
       dsimp only
       rw[hp]
       have hle:(crsP (okR W) W.length m b i++Ca.crs (okR W) W.length m (b++[i])).length=(crsP (okR W) W.length m b i).length+(Ca.crs (okR W) W.length m (b++[i])).length:=List.length_append
       (repeat' ((conv=>whnf);first|(with_reducible first|apply spl|apply spl'|refine iJ ?_)<;>intro hc<;>try(exfalso;omega)|refine vcq ?_|refine dr 25 ?_));all_goals(try conv=>whnf);try exact trivial
       refine⟨fun k hk=>rowOf_app (c:=ordC) (d:=([]:List Nat)) (l:=crsP (okR W) W.length m b i) (l':=Ca.crs (okR W) W.length m (b++[i])) k hk,?_⟩
       (repeat' ((conv=>whnf);first|(with_reducible first|apply spl|apply spl'|refine iJ ?_)<;>intro hc<;>try(exfalso;omega)|refine vcq ?_|refine dr 25 ?_));all_goals(try conv=>whnf);try exact trivial
     ·obtain rfl:j=b.length:=by omega
      rw[List.take_length] at hc
      have hp:=crsP_no (N:=W.length) (m:=m) hc
      refine⟨i+1,⟨by omega,by dsimp only;omega⟩,some [some 0],?_⟩
      dsimp only
      rw[hp]
      (repeat' ((conv=>whnf);first|(with_reducible first|apply spl|apply spl'|refine iJ ?_)<;>intro hc<;>try(exfalso;omega)|refine vcq ?_|refine dr 25 ?_));all_goals(try conv=>whnf);try exact trivial
   ·obtain rfl:i=W.length:=by omega
    refine⟨_,rfl,?_⟩
    (repeat' ((conv=>whnf);first|(with_reducible first|apply spl|apply spl'|refine iJ ?_)<;>intro hc<;>try(exfalso;omega)|refine vcq ?_|refine dr 25 ?_));all_goals(try conv=>whnf);try exact trivial
    all_goals exact⟨rfl,.inl rfl,trivial⟩
end Go.Proofs
namespace Go.Proofs
open Go Go.Sx
set_option maxRecDepth 100000
set_option maxHeartbeats 40000000
open Ca (Wt epW IsCrs okR okP)
def Sv.lE (s:Sv) (o:List Nat):Nat→Int
 |0=>0
 |k+1=>s.endW true o k
theorem Sv.lE_last (s:Sv) (o:List Nat):s.lE o s.W.length=s.lastE o:=by
 unfold Sv.lastE
 cases h:s.W.length with
 |zero=>rfl
 |succ k=>rfl
theorem latest50 (s:Sv) (hs:s.Ok) (o:List Nat) (ho:IsCrs s.W o):a0h Tryz.prog 50 false [.agg s.c,.sl 1 o.length (a0e natC 0 o)] (·=.int .i64 (s.lastE o)):=by
 have he:=rends74 s hs o ho
 have hn:=hs.few
 have hl:=ho.len
 rw[←s.lE_last,←hl]
 unfold Sv.c at he ⊢
 refine a0a Tryz.E_ok Tryz.func50 rfl (by kernel_rfl) ?_
 (repeat' ((conv=>whnf);first|(with_reducible first|apply spl|apply spl'|refine iJ ?_)<;>intro hc<;>try(exfalso;omega)|refine vcq ?_|refine dr 10 ?_|refine dr 7 ?_));all_goals(try conv=>whnf);try exact trivial
 refine a0b he rfl ?_
 rintro _ rfl
 (repeat' ((conv=>whnf);first|(with_reducible first|apply spl|apply spl'|refine iJ ?_)<;>intro hc<;>try(exfalso;omega)|refine vcq ?_|refine dr 10 ?_|refine dr 7 ?_));all_goals(try conv=>whnf);try exact trivial
 refine⟨Nat,fun i=>i≤o.length,fun i=>o.length-i,fun i=>[(7,.int .i64 (i:Nat)),(5,.int .i64 (s.lE o i))],fun _=>[],fun _=>[],0,⟨by omega,none,?_⟩,?_⟩
 ·(repeat' ((conv=>whnf);first|(with_reducible first|apply spl|apply spl'|refine iJ ?_)<;>intro hc<;>try(exfalso;omega)|refine vcq ?_|refine dr 10 ?_|refine dr 7 ?_));all_goals(try conv=>whnf);try exact trivial
 ·intro i hi
  have hi:i≤o.length:=hi
  have hti:(i:Int).toNat=i:=Int.toNat_natCast i
  (repeat' ((conv=>whnf);first|(with_reducible first|apply spl|apply spl'|refine iJ ?_)<;>intro hc<;>try(exfalso;omega)|refine vcq ?_|refine dr 10 ?_|refine dr 7 ?_));all_goals(try conv=>whnf);try exact trivial
  ·refine⟨i+1,⟨by omega,by dsimp only;omega⟩,none,?_⟩
   rw[hti]
   (repeat' ((conv=>whnf);first|(with_reducible first|apply spl|apply spl'|refine iJ ?_)<;>intro hc<;>try(exfalso;omega)|refine vcq ?_|refine dr 10 ?_|refine dr 7 ?_));all_goals(try conv=>whnf);try exact trivial
  ·obtain rfl:i=o.length:=by omega
   refine⟨_,rfl,?_⟩
   (repeat' ((conv=>whnf);first|(with_reducible first|apply spl|apply spl'|refine iJ ?_)<;>intro hc<;>try(exfalso;omega)|refine vcq ?_|refine dr 10 ?_|refine dr 7 ?_));all_goals(try conv=>whnf);try exact trivial
theorem lastK_le (f:Nat→Int) (t:Int):∀k,Sv.lastK f t k≤k
 |0=>Nat.le_refl _
 |k+1=>by have:=lastK_le f t k;unfold Sv.lastK;split<;>omega
theorem lastK_yes {f:Nat→Int} {t:Int} {k:Nat} (h:f k≤t):Sv.lastK f t (k+1)=k+1:=if_pos h
theorem lastK_no {f:Nat→Int} {t:Int} {k:Nat} (h:¬f k≤t):Sv.lastK f t (k+1)=Sv.lastK f t k:=if_neg h
theorem cntK_yes {f:Nat→Int} {t:Int} {k:Nat} (h:f k≤t):Sv.cntK f t (k+1)=Sv.cntK f t k+1:=if_pos h
theorem cntK_no {f:Nat→Int} {t:Int} {k:Nat} (h:¬f k≤t):Sv.cntK f t (k+1)=Sv.cntK f t k:=if_neg h
theorem counts56 (s:Sv) (hs:s.Ok) (o:List Nat) (ho:IsCrs s.W o) (t:Int):a0h Tryz.prog 56 false [.agg s.c,.sl 1 o.length (a0e natC 0 o),.int .i64 t] (·=.tup [.int .i64 (Sv.lastK (s.endW true o) t o.length:Nat),.int .i64 (Sv.lastK (s.endW false o) t o.length:Nat)]):=by
 have he:=rends74 s hs o ho
 have hn:=hs.few
 have hl:=ho.len
 unfold Sv.c at he ⊢
 refine a0a Tryz.E_ok Tryz.func56 rfl (by kernel_rfl) ?_
 (repeat' ((conv=>whnf);first|(with_reducible first|apply spl|apply spl'|refine iJ ?_)<;>intro hc<;>try(exfalso;omega)|refine vcq ?_|refine dr 10 ?_|refine dr 7 ?_));all_goals(try conv=>whnf);try exact trivial
 refine a0b he rfl ?_
 rintro _ rfl
 (repeat' ((conv=>whnf);first|(with_reducible first|apply spl|apply spl'|refine iJ ?_)<;>intro hc<;>try(exfalso;omega)|refine vcq ?_|refine dr 10 ?_|refine dr 7 ?_));all_goals(try conv=>whnf);try exact trivial
 refine⟨Nat,fun i=>i≤o.length,fun i=>o.length-i,fun i=>[(9,.int .i64 (i:Nat)),(6,.int .i64 (Sv.lastK (s.endW true o) t i:Nat)),(7,.int .i64 (Sv.lastK (s.endW false o) t i:Nat))],fun _=>[],fun _=>[],0,⟨by omega,none,?_⟩,?_⟩
 ·(repeat' ((conv=>whnf);first|(with_reducible first|apply spl|apply spl'|refine iJ ?_)<;>intro hc<;>try(exfalso;omega)|refine vcq ?_|refine dr 10 ?_|refine dr 7 ?_));all_goals(try conv=>whnf);try exact trivial
 ·intro i hi
  have hi:i≤o.length:=hi
  have hti:(i:Int).toNat=i:=Int.toNat_natCast i
  have h1:=lastK_le (s.endW true o) t i
  have h2:=lastK_le (s.endW false o) t i
  (repeat' ((conv=>whnf);first|(with_reducible first|apply spl|apply spl'|refine iJ ?_)<;>intro hc<;>try(exfalso;omega)|refine vcq ?_|refine dr 10 ?_|refine dr 7 ?_));all_goals(try conv=>whnf);try exact trivial
  ·rw[hti] at *
   refine⟨i+1,⟨by omega,by dsimp only;omega⟩,none,?_⟩
   dsimp only
   rw[lastK_yes (f:=s.endW true o) (by assumption),lastK_yes (f:=s.endW false o) (by assumption)]
   (repeat' ((conv=>whnf);first|(with_reducible first|apply spl|apply spl'|refine iJ ?_)<;>intro hc<;>try(exfalso;omega)|refine vcq ?_|refine dr 10 ?_|refine dr 7 ?_));all_goals(try conv=>whnf);try exact trivial
  ·rw[hti] at *
   refine⟨i+1,⟨by omega,by dsimp only;omega⟩,none,?_⟩
   dsimp only
   rw[lastK_yes (f:=s.endW true o) (by assumption),lastK_no (f:=s.endW false o) (by assumption)]
   (repeat' ((conv=>whnf);first|(with_reducible first|apply spl|apply spl'|refine iJ ?_)<;>intro hc<;>try(exfalso;omega)|refine vcq ?_|refine dr 10 ?_|refine dr 7 ?_));all_goals(try conv=>whnf);try exact trivial
  ·rw[hti] at *
   refine⟨i+1,⟨by omega,by dsimp only;omega⟩,none,?_⟩
   dsimp only
   rw[lastK_no (f:=s.endW true o) (by assumption),lastK_yes (f:=s.endW false o) (by assumption)]
   (repeat' ((conv=>whnf);first|(with_reducible first|apply spl|apply spl'|refine iJ ?_)<;>intro hc<;>try(exfalso;omega)|refine vcq ?_|refine dr 10 ?_|refine dr 7 ?_));all_goals(try conv=>whnf);try exact trivial
  ·rw[hti] at *
   refine⟨i+1,⟨by omega,by dsimp only;omega⟩,none,?_⟩
   dsimp only
   rw[lastK_no (f:=s.endW true o) (by assumption),lastK_no (f:=s.endW false o) (by assumption)]
   (repeat' ((conv=>whnf);first|(with_reducible first|apply spl|apply spl'|refine iJ ?_)<;>intro hc<;>try(exfalso;omega)|refine vcq ?_|refine dr 10 ?_|refine dr 7 ?_));all_goals(try conv=>whnf);try exact trivial
  ·obtain rfl:i=o.length:=by omega
   refine⟨_,rfl,?_⟩
   (repeat' ((conv=>whnf);first|(with_reducible first|apply spl|apply spl'|refine iJ ?_)<;>intro hc<;>try(exfalso;omega)|refine vcq ?_|refine dr 10 ?_|refine dr 7 ?_));all_goals(try conv=>whnf);try exact trivial
/-! ### the courses,one behind the other -/
theorem Sv.all_get (s:Sv) {i:Nat} (h:i<(Ca.allCrs s.W).length):IsCrs s.W ((Ca.allCrs s.W).getD i []):=by
 rw[List.getD_eq_getElem?_getD,List.getElem?_eq_getElem h]
 exact Ca.mem_allCrs.1 (List.getElem_mem h)
theorem Sv.all_pos (s:Sv):0<(Ca.allCrs s.W).length:=List.length_pos_iff.2 (Ca.allCrs_ne _ _)
theorem Sv.all_c0 (s:Sv):(Ca.allCrs s.W).getD 0 []=s.c0:=by
 unfold Sv.c0
 cases Ca.allCrs s.W<;>rfl
theorem Sv.all_len {s:Sv} (hs:s.Ok):(Ca.allCrs s.W).length≤50000:=by
 have h:=crs_length (okP s.W) s.W.length hs.few s.W.length []
 have h2:6 ^ s.W.length≤6 ^ 6:=Nat.pow_le_pow_right (by omega) hs.few
 unfold Ca.allCrs
 omega
theorem Sv.allR (s:Sv):Ca.crs (okR s.W) s.W.length s.W.length []=Ca.allCrs s.W:=Ca.crs_eq _ _ (by simp) (Ca.Pre.nil s.W)
noncomputable def Sv.bT (s:Sv) (i:Nat):List Nat×Int:=s.foldE (s.c0,s.lastE s.c0) ((Ca.allCrs s.W).take i)
theorem Sv.bT_zero (s:Sv):s.bT 0=(s.c0,s.lastE s.c0):=by
 unfold Sv.bT
 rw[List.take_zero]
 rfl
theorem Sv.bT_succ {s:Sv} {i:Nat} (h:i<(Ca.allCrs s.W).length):s.bT (i+1)=s.stepE (s.bT i) ((Ca.allCrs s.W).getD i []):=by
 have e:(Ca.allCrs s.W).take (i+1)=(Ca.allCrs s.W).take i++[(Ca.allCrs s.W).getD i []]:=by
  rw[List.take_succ_eq_append_getElem h,List.getD_eq_getElem?_getD,List.getElem?_eq_getElem h]
  rfl
 unfold Sv.bT Sv.foldE
 rw[e,List.foldl_append]
 rfl
theorem Sv.bT_all (s:Sv):s.bT (Ca.allCrs s.W).length=s.best:=by
 unfold Sv.bT
 rw[List.take_length]
 rfl
noncomputable def Sv.vT (s:Sv) (t:Int) (i:Nat):List Nat×Int:=s.foldV t ([],-1) ((Ca.allCrs s.W).take i)
theorem Sv.vT_zero (s:Sv) (t:Int):s.vT t 0=([],-1):=by
 unfold Sv.vT
 rw[List.take_zero]
 rfl
theorem Sv.vT_succ {s:Sv} {t:Int} {i:Nat} (h:i<(Ca.allCrs s.W).length):s.vT t (i+1)=s.stepV t (s.vT t i) ((Ca.allCrs s.W).getD i []):=by
 have e:(Ca.allCrs s.W).take (i+1)=(Ca.allCrs s.W).take i++[(Ca.allCrs s.W).getD i []]:=by
  rw[List.take_succ_eq_append_getElem h,List.getD_eq_getElem?_getD,List.getElem?_eq_getElem h]
  rfl
 unfold Sv.vT Sv.foldV
 rw[e,List.foldl_append]
 rfl
theorem Sv.vT_all (s:Sv) (t:Int):s.vT t (Ca.allCrs s.W).length=s.most t:=by
 obtain⟨o,L,h⟩:=List.exists_cons_of_ne_nil (Ca.allCrs_ne s.n s.st)
 have h:Ca.allCrs s.W=o :: L:=h
 have hc:s.c0=o:=by unfold Sv.c0;rw[h];rfl
 unfold Sv.vT Sv.most
 rw[List.take_length,h,hc]
 unfold Sv.foldV
 rw[List.foldl_cons,List.foldl_cons]
 congr 1
 unfold Sv.stepV
 rw[if_pos (by show(-1:Int)<(s.sav t o:Nat);omega),if_neg (by dsimp only;omega)]
theorem sav_last {s:Sv} (hs:s.Ok) {o:List Nat} (ho:IsCrs s.W o) (t:Int):Sv.lastK (s.endW true o) t o.length=s.sav t o:=by
 rw[ho.len]
 exact Sv.cnt_last (fun i j hij hj=>Sv.endW_up hs true ho hij hj) _ (Nat.le_refl _)
theorem rbest14 (s:Sv) (hz:s.d.Z.length≤1000000) (hl:s.x.l.length≤1000000) (hsk:s.sk.length≤1000000) (hsec:s.sec.length≤1000000):a0h Tryz.prog 14 true [.agg s.c]
  (fun v=>(s.err=0∧v=.tup [.sl 1 s.best.1.length (a0e natC 0 s.best.1),.int .i64 s.best.2,.int .i64 0])∨s.err≠0∧v=.tup [.lit (.slice none 0 0),.int .i64 0,.int .i64 s.err]):=by
 have hc:=rcheck33 s hz hl hsk hsec
 by_cases he:s.err=0
 ·have hs:=Sv.err_ok he
  have hen:=entries49 s hs.x
  have hO:=courses48 s.W hs.few (fun w hw=>(hs.ws w hw).1) s.W.length [] (by simp) (by simp)
  rw[s.allR] at hO
  have hO:a0h Tryz.prog 48 true [.sl 3 s.W.length (a0e wtC wt0 s.W),.sl 1 0 (a0e natC 0 [])] (·=.sl 1 (Ca.allCrs s.W).length (a0e ordC [] (Ca.allCrs s.W))):=hO
  have hall:=Sv.all_len hs
  have hpos:=s.all_pos
  have h0:=s.bT_zero
  rw[←s.all_c0] at h0
  have hst:=fun i h=>Sv.bT_succ (s:=s) (i:=i) h
  have hla:=fun i h=>latest50 s hs _ (s.all_get (i:=i) h)
  have hba:=s.bT_all
  unfold Sv.c at hc hen hla ⊢
  rw[he] at hc ⊢
  refine a0a Tryz.E_ok Tryz.func14 rfl (by kernel_rfl) ?_
  (repeat' ((conv=>whnf);first|(with_reducible first|apply spl|apply spl'|refine iJ ?_)<;>intro hc<;>try(exfalso;omega)|refine vcq ?_|refine dr 10 ?_|refine dr 7 ?_));all_goals(try conv=>whnf);try exact trivial
  refine a0b hc rfl ?_
  rintro _ rfl
  (repeat' ((conv=>whnf);first|(with_reducible first|apply spl|apply spl'|refine iJ ?_)<;>intro hc<;>try(exfalso;omega)|refine vcq ?_|refine dr 10 ?_|refine dr 7 ?_));all_goals(try conv=>whnf);try exact trivial
  refine a0b hen rfl ?_
  rintro _ rfl
  (repeat' ((conv=>whnf);first|(with_reducible first|apply spl|apply spl'|refine iJ ?_)<;>intro hc<;>try(exfalso;omega)|refine vcq ?_|refine dr 10 ?_|refine dr 7 ?_));all_goals(try conv=>whnf);try exact trivial
  refine a0b (a0h.view hO ?_) rfl ?_
  ·(repeat' ((conv=>whnf);first|(with_reducible first|apply spl|apply spl'|refine iJ ?_)<;>intro hc<;>try(exfalso;omega)|refine vcq ?_|refine dr 10 ?_|refine dr 7 ?_));all_goals(try conv=>whnf);try exact trivial
  rintro _ rfl
  generalize Ca.allCrs s.W=L at *
  (repeat' ((conv=>whnf);first|(with_reducible first|apply spl|apply spl'|refine iJ ?_)<;>intro hc<;>try(exfalso;omega)|refine vcq ?_|refine dr 10 ?_|refine dr 7 ?_));all_goals(try conv=>whnf);try exact trivial
  refine a0c (hla 0 hpos) rfl ?_
  (repeat' ((conv=>whnf);first|(with_reducible first|apply spl|apply spl'|refine iJ ?_)<;>intro hc<;>try(exfalso;omega)|refine vcq ?_|refine dr 10 ?_|refine dr 7 ?_));all_goals(try conv=>whnf);try exact trivial
  refine⟨Nat,fun i=>i≤L.length,fun i=>L.length-i,fun i=>[(7,.int .i64 (i:Nat)),(2,.sl 1 (s.bT i).1.length (a0e natC 0 (s.bT i).1)),(3,.int .i64 (s.bT i).2)],fun _=>[],fun _=>[],0,⟨by omega,none,?_⟩,?_⟩
  ·dsimp only
   rw[h0]
   (repeat' ((conv=>whnf);first|(with_reducible first|apply spl|apply spl'|refine iJ ?_)<;>intro hc<;>try(exfalso;omega)|refine vcq ?_|refine dr 10 ?_|refine dr 7 ?_));all_goals(try conv=>whnf);try exact trivial
  ·intro i hi
   have hi:i≤L.length:=hi
   have hti:(i:Int).toNat=i:=Int.toNat_natCast i
   (repeat' ((conv=>whnf);first|(with_reducible first|apply spl|apply spl'|refine iJ ?_)<;>intro hc<;>try(exfalso;omega)|refine vcq ?_|refine dr 10 ?_|refine dr 7 ?_));all_goals(try conv=>whnf);try exact trivial
   ·have hil:i<L.length:=by omega
    have hst:=hst i hil
    rw[hti]
    refine a0c (hla i hil) rfl ?_
    (repeat' ((conv=>whnf);first|(with_reducible first|apply spl|apply spl'|refine iJ ?_)<;>intro hc<;>try(exfalso;omega)|refine vcq ?_|refine dr 10 ?_|refine dr 7 ?_));all_goals(try conv=>whnf);try exact trivial
    ·unfold Sv.stepE at hst
     rw[if_pos hc] at hst
     refine⟨i+1,⟨by omega,by dsimp only;omega⟩,none,?_⟩
     dsimp only
     rw[hst,hti]
     (repeat' ((conv=>whnf);first|(with_reducible first|apply spl|apply spl'|refine iJ ?_)<;>intro hc<;>try(exfalso;omega)|refine vcq ?_|refine dr 10 ?_|refine dr 7 ?_));all_goals(try conv=>whnf);try exact trivial
    ·unfold Sv.stepE at hst
     rw[if_neg hc] at hst
     refine⟨i+1,⟨by omega,by dsimp only;omega⟩,none,?_⟩
     dsimp only
     rw[hst]
     (repeat' ((conv=>whnf);first|(with_reducible first|apply spl|apply spl'|refine iJ ?_)<;>intro hc<;>try(exfalso;omega)|refine vcq ?_|refine dr 10 ?_|refine dr 7 ?_));all_goals(try conv=>whnf);try exact trivial
   ·obtain rfl:i=L.length:=by omega
    rw[hba]
    refine⟨_,.inl ⟨rfl,rfl⟩,?_⟩
    (repeat' ((conv=>whnf);first|(with_reducible first|apply spl|apply spl'|refine iJ ?_)<;>intro hc<;>try(exfalso;omega)|refine vcq ?_|refine dr 10 ?_|refine dr 7 ?_));all_goals(try conv=>whnf);try exact trivial
 ·unfold Sv.c at hc ⊢
  refine a0a Tryz.E_ok Tryz.func14 rfl (by kernel_rfl) ?_
  (repeat' ((conv=>whnf);first|(with_reducible first|apply spl|apply spl'|refine iJ ?_)<;>intro hc<;>try(exfalso;omega)|refine vcq ?_|refine dr 10 ?_|refine dr 7 ?_));all_goals(try conv=>whnf);try exact trivial
  refine a0b hc rfl ?_
  rintro _ rfl
  (repeat' ((conv=>whnf);first|(with_reducible first|apply spl|apply spl'|refine iJ ?_)<;>intro hc<;>try(exfalso;omega)|refine vcq ?_|refine dr 10 ?_|refine dr 7 ?_));all_goals(try conv=>whnf);try exact trivial
  refine⟨_,.inr ⟨he,rfl⟩,?_⟩
  (repeat' ((conv=>whnf);first|(with_reducible first|apply spl|apply spl'|refine iJ ?_)<;>intro hc<;>try(exfalso;omega)|refine vcq ?_|refine dr 10 ?_|refine dr 7 ?_));all_goals(try conv=>whnf);try exact trivial
def crsH (s:Sv) (b:List Nat) (nz:Bool):List O:=[.row 3 1 b.length (a0e natC 0 b) nz,.cells 89 [.iptr s.oc],.cells 148 [.yld 4],.cells 148 [.fn (.func 87) [] [.ptr 1 0,.ptr 2 0,.ptr 3 0]]]
def fstN (b:List Nat):Nat→Int
 |0=>-1
 |i+1=>if fstN b i<0∧i∉b then i else fstN b i
theorem fstN_spec (b:List Nat):∀i,(fstN b i=-1∧∀k,k<i→k∈b)∨∃f:Nat,fstN b i=f∧f<i∧f∉b∧∀k,k<f→k∈b
 |0=>.inl ⟨rfl,fun k hk=>by omega⟩
 |i+1=>by
  unfold fstN
  rcases fstN_spec b i with⟨h1,h2⟩|⟨f,h1,h2,h3,h4⟩
  ·by_cases hb:i∈b
   ·rw[if_neg (fun g=>g.2 hb)]
    refine .inl ⟨h1,fun k hk=>?_⟩
    rcases Nat.lt_or_eq_of_le (Nat.le_of_lt_succ hk) with g|g
    ·exact h2 k g
    ·rw[g];exact hb
   ·rw[if_pos ⟨by omega,hb⟩]
    exact .inr ⟨i,rfl,by omega,hb,h2⟩
  ·rw[if_neg (fun g=>by omega)]
   exact .inr ⟨f,h1,by omega,h3,h4⟩
theorem fstN_in {b:List Nat} {i:Nat} (h:i∈b):fstN b (i+1)=fstN b i:=by
 rw[fstN,if_neg (fun g=>g.2 h)]
theorem fstN_new {b:List Nat} {i:Nat} (h:i∉b) (h0:fstN b i<0):fstN b (i+1)=i:=by
 rw[fstN,if_pos ⟨h0,h⟩]
theorem fstN_old {b:List Nat} {i:Nat} (h0:¬fstN b i<0):fstN b (i+1)=fstN b i:=by
 rw[fstN,if_neg (fun g=>h0 g.1)]
theorem Sv.ep_up (s:Sv) {j k:Nat} (hjk:j≤k) (hk:k<s.W.length):epW s.W j≤epW s.W k:=by
 rcases Nat.lt_or_eq_of_le hjk with g|g
 ·have h:=Ca.RS.ents_sorted s.n s.st
  rw[List.pairwise_iff_getElem] at h
  have:=h j k (by show j<s.W.length;omega) hk g
  have e:∀i (hi:i<s.W.length),epW s.W i=(s.W[i]'hi).1:=fun i hi=>by
   unfold epW
   rw[List.getD_eq_getElem?_getD,List.getElem?_eq_getElem hi]
   rfl
  rw[e j (by omega),e k hk]
  unfold Ca.ltK at this
  show(s.W[j]'_).1≤(s.W[k]'_).1
  have h2:(s.W[j]'(by omega)).1<(s.W[k]'hk).1∨(s.W[j]'(by omega)).1=(s.W[k]'hk).1∧(s.W[j]'(by omega)).2.1<(s.W[k]'hk).2.1:=this
  omega
 ·rw[g];exact Nat.le_refl _
theorem okP_of {s:Sv} {b:List Nat} {i f:Nat} (hi:i<s.W.length) (hb:i∉b) (hfi:f≤i) (hf:f∉b) (hlow:∀k,k<f→k∈b):okP s.W b i↔((s.W.getD i wt0).1:Int)=(s.W.getD f wt0).1:=by
 have h1:=s.ep_up hfi hi
 constructor
 ·rintro⟨_,h⟩
  have h2:=h f (by omega) hf
  unfold epW at h1 h2
  show((s.W.getD i (0,0,0)).1:Int)=(s.W.getD f (0,0,0)).1
  omega
 ·intro h
  refine⟨hb,fun k hk hkb=>?_⟩
  have hfk:f≤k:=Nat.le_of_not_lt fun g=>hkb (hlow k g)
  have h2:=s.ep_up hfk hk
  have h:((s.W.getD i (0,0,0)).1:Int)=(s.W.getD f (0,0,0)).1:=h
  unfold epW at h2 ⊢
  omega
/-! ### the best course,and the one that saves the most,as the program looks for them -/
def Sv.stepB (s:Sv) (t:List Nat×Int×Bool) (o:List Nat):List Nat×Int×Bool:=if ¬t.2.2=true∨s.lastE o<t.2.1 then(o,s.lastE o,true) else t
def Sv.foldB (s:Sv) (t:List Nat×Int×Bool) (L:List (List Nat)):List Nat×Int×Bool:=L.foldl s.stepB t
def Sv.stepM (s:Sv) (x:Int) (t:List Nat×Int×Bool) (o:List Nat):List Nat×Int×Bool:=if ¬t.2.2=true∨t.2.1<s.sav x o then(o,s.sav x o,true) else t
def Sv.foldM (s:Sv) (x:Int) (t:List Nat×Int×Bool) (L:List (List Nat)):List Nat×Int×Bool:=L.foldl (s.stepM x) t
theorem Sv.foldB_eq (s:Sv):∀(L:List (List Nat)) (t:List Nat×Int),s.foldB (t.1,t.2,true) L=((s.foldE t L).1,(s.foldE t L).2,true)
 |[],_=>rfl
 |o :: L,t=>by
  have e1:s.foldB (t.1,t.2,true) (o :: L)=s.foldB (s.stepB (t.1,t.2,true) o) L:=rfl
  have e2:s.foldE t (o :: L)=s.foldE (s.stepE t o) L:=rfl
  rw[e1,e2,←Sv.foldB_eq s L]
  congr 1
  unfold Sv.stepB Sv.stepE
  by_cases h:s.lastE o<t.2
  ·rw[if_pos h,if_pos (.inr h)]
  ·rw[if_neg h,if_neg (by rintro(g|g);exact g rfl;exact h g)]
theorem Sv.foldM_eq (s:Sv) (x:Int):∀(L:List (List Nat)) (t:List Nat×Int),s.foldM x (t.1,t.2,true) L=((s.foldV x t L).1,(s.foldV x t L).2,true)
 |[],_=>rfl
 |o :: L,t=>by
  have e1:s.foldM x (t.1,t.2,true) (o :: L)=s.foldM x (s.stepM x (t.1,t.2,true) o) L:=rfl
  have e2:s.foldV x t (o :: L)=s.foldV x (s.stepV x t o) L:=rfl
  rw[e1,e2,←Sv.foldM_eq s x L]
  congr 1
  unfold Sv.stepM Sv.stepV
  by_cases h:t.2<s.sav x o
  ·rw[if_pos h,if_pos (.inr h)]
  ·rw[if_neg h,if_neg (by rintro(g|g);exact g rfl;exact h g)]
theorem Sv.foldB_all (s:Sv):s.foldB ([],0,false) (Ca.allCrs s.W)=(s.best.1,s.best.2,true):=by
 obtain⟨o,L,h⟩:=List.exists_cons_of_ne_nil (Ca.allCrs_ne s.n s.st)
 have h:Ca.allCrs s.W=o :: L:=h
 have hc:s.c0=o:=by unfold Sv.c0;rw[h];rfl
 unfold Sv.best
 rw[h,hc]
 have e1:s.foldB ([],0,false) (o :: L)=s.foldB (s.stepB ([],0,false) o) L:=rfl
 have e2:s.foldE (o,s.lastE o) (o :: L)=s.foldE (s.stepE (o,s.lastE o) o) L:=rfl
 have e3:s.stepB ([],0,false) o=(o,s.lastE o,true):=by unfold Sv.stepB;rw[if_pos (.inl (by simp))]
 have e4:s.stepE (o,s.lastE o) o=(o,s.lastE o):=by unfold Sv.stepE;rw[if_neg (by dsimp only;omega)]
 rw[e1,e2,e3,e4]
 exact s.foldB_eq L (o,s.lastE o)
theorem Sv.foldM_all (s:Sv) (x:Int):s.foldM x ([],0,false) (Ca.allCrs s.W)=((s.most x).1,(s.most x).2,true):=by
 obtain⟨o,L,h⟩:=List.exists_cons_of_ne_nil (Ca.allCrs_ne s.n s.st)
 have h:Ca.allCrs s.W=o :: L:=h
 have hc:s.c0=o:=by unfold Sv.c0;rw[h];rfl
 unfold Sv.most
 rw[h,hc]
 have e1:s.foldM x ([],0,false) (o :: L)=s.foldM x (s.stepM x ([],0,false) o) L:=rfl
 have e2:s.foldV x (o,s.sav x o) (o :: L)=s.foldV x (s.stepV x (o,s.sav x o) o) L:=rfl
 have e3:s.stepM x ([],0,false) o=(o,((s.sav x o:Nat):Int),true):=by unfold Sv.stepM;rw[if_pos (.inl (by simp))]
 have e4:s.stepV x (o,s.sav x o) o=(o,((s.sav x o:Nat):Int)):=by unfold Sv.stepV;rw[if_neg (by dsimp only;omega)]
 rw[e1,e2,e3,e4]
 exact s.foldM_eq x L (o,s.sav x o)
theorem isTime52 (n:Int):a0h Tryz.prog 52 false [.int .i64 n] (·=.prop (0≤n∧n≤100000) inferInstance):=by
 refine a0a Tryz.E_ok Tryz.func52 rfl (by kernel_rfl) ?_
 (repeat' ((conv=>whnf);first|(with_reducible first|apply spl|apply spl'|refine iJ ?_)<;>intro hc<;>try(exfalso;omega)|refine vcq ?_|fail));all_goals(try conv=>whnf);try exact trivial
 refine⟨_,rfl,?_⟩
 (repeat' ((conv=>whnf);first|(with_reducible first|apply spl|apply spl'|refine iJ ?_)<;>intro hc<;>try(exfalso;omega)|refine vcq ?_|fail));all_goals(try conv=>whnf);try exact trivial
theorem kept53 (s:Sv) (hs:s.Ok) (o:List Nat) (ho:IsCrs s.W o) (t:Int):a0h Tryz.prog 53 false [.iptr s.oc,.sl 1 o.length (a0e natC 0 o),.int .i64 t] (·=.tup [.int .i64 (Sv.cntK (s.endW true o) t o.length:Nat),.int .i64 (Sv.cntK (s.endW false o) t o.length:Nat)]):=by
 have hn:=hs.few
 have hl:=ho.len
 have he:=ends47 s hs o (by omega) (fun x hx=>ho.lt x hx)
 unfold Sv.oc at he ⊢
 refine a0a Tryz.E_ok Tryz.func53 rfl (by kernel_rfl) ?_
 (repeat' ((conv=>whnf);first|(with_reducible first|apply spl|apply spl'|refine iJ ?_)<;>intro hc<;>try(exfalso;omega)|refine vcq ?_|fail));all_goals(try conv=>whnf);try exact trivial
 refine a0b he rfl ?_
 rintro _ rfl
 (repeat' ((conv=>whnf);first|(with_reducible first|apply spl|apply spl'|refine iJ ?_)<;>intro hc<;>try(exfalso;omega)|refine vcq ?_|fail));all_goals(try conv=>whnf);try exact trivial
 refine⟨Nat,fun i=>i≤o.length,fun i=>o.length-i,fun i=>[(14,.int .i64 (i:Nat)),(6,.int .i64 (Sv.cntK (s.endW true o) t i:Nat)),(7,.int .i64 (Sv.cntK (s.endW false o) t i:Nat)),(9,.any)],fun _=>[],fun _=>[],0,⟨by omega,some [],?_⟩,?_⟩
 ·(repeat' ((conv=>whnf);first|(with_reducible first|apply spl|apply spl'|refine iJ ?_)<;>intro hc<;>try(exfalso;omega)|refine vcq ?_|fail));all_goals(try conv=>whnf);try exact trivial
 ·intro i hi
  have hi:i≤o.length:=hi
  have hti:(i:Int).toNat=i:=Int.toNat_natCast i
  have h1:=Sv.cntK_le (s.endW true o) t i
  have h2:=Sv.cntK_le (s.endW false o) t i
  (repeat' ((conv=>whnf);first|(with_reducible first|apply spl|apply spl'|refine iJ ?_)<;>intro hc<;>try(exfalso;omega)|refine vcq ?_|fail));all_goals(try conv=>whnf);try exact trivial
  ·rw[hti] at *
   refine⟨i+1,⟨by omega,by dsimp only;omega⟩,some [],?_⟩
   dsimp only
   rw[cntK_yes (f:=s.endW true o) (by assumption),cntK_yes (f:=s.endW false o) (by assumption)]
   (repeat' ((conv=>whnf);first|(with_reducible first|apply spl|apply spl'|refine iJ ?_)<;>intro hc<;>try(exfalso;omega)|refine vcq ?_|fail));all_goals(try conv=>whnf);try exact trivial
  ·rw[hti] at *
   refine⟨i+1,⟨by omega,by dsimp only;omega⟩,some [],?_⟩
   dsimp only
   rw[cntK_yes (f:=s.endW true o) (by assumption),cntK_no (f:=s.endW false o) (by assumption)]
   (repeat' ((conv=>whnf);first|(with_reducible first|apply spl|apply spl'|refine iJ ?_)<;>intro hc<;>try(exfalso;omega)|refine vcq ?_|fail));all_goals(try conv=>whnf);try exact trivial
  ·rw[hti] at *
   refine⟨i+1,⟨by omega,by dsimp only;omega⟩,some [],?_⟩
   dsimp only
   rw[cntK_no (f:=s.endW true o) (by assumption),cntK_yes (f:=s.endW false o) (by assumption)]
   (repeat' ((conv=>whnf);first|(with_reducible first|apply spl|apply spl'|refine iJ ?_)<;>intro hc<;>try(exfalso;omega)|refine vcq ?_|fail));all_goals(try conv=>whnf);try exact trivial
  ·rw[hti] at *
   refine⟨i+1,⟨by omega,by dsimp only;omega⟩,some [],?_⟩
   dsimp only
   rw[cntK_no (f:=s.endW true o) (by assumption),cntK_no (f:=s.endW false o) (by assumption)]
   (repeat' ((conv=>whnf);first|(with_reducible first|apply spl|apply spl'|refine iJ ?_)<;>intro hc<;>try(exfalso;omega)|refine vcq ?_|fail));all_goals(try conv=>whnf);try exact trivial
  ·obtain rfl:i=o.length:=by omega
   refine⟨_,rfl,?_⟩
   (repeat' ((conv=>whnf);first|(with_reducible first|apply spl|apply spl'|refine iJ ?_)<;>intro hc<;>try(exfalso;omega)|refine vcq ?_|fail));all_goals(try conv=>whnf);try exact trivial
end Go.Proofs
