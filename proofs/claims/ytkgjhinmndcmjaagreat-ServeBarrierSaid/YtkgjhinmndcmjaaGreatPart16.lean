/- Own work: texts of the proof of a law (WsIns, WsIns2, WsIns3, Ws1). No condition. -/
import Derived.Shelf.Spec.SlicesInsertGrow
import Derived.Test.YtkgjhinmndcmjaaGreatPart12
import Derived.Test.YtkgjhinmndcmjaaGreatPart8
import Derived.Test.YtkgjhinmndcmjaaGreatPart11
import Derived.Test.YtkgjhinmndcmjaaGreatPart14
import Derived.Test.YtkgjhinmndcmjaaGreatPart15
import Derived.Test.YtkgjhinmndcmjaaGreatPart0
set_option linter.unusedVariables false
set_option linter.unusedSimpArgs false
namespace Go.Proofs
open Go.Shelf Go.RowKit Go.Lib
set_option maxHeartbeats 4000000
set_option maxRecDepth 100000
theorem w_info59:(Tryz.prog.info? 59).map (fun i=>(i.zero,i.size,i.bytes))=some (some (.agg #[.int .i64 0,.int .i64 0,.int .i64 0]),3,24):=by kernel_rfl
theorem ins_shift (b n c i vb vc:Nat) (w:World) (hi:i<n) (hroom:n+1≤c) (hn:n≤140737488355328) (hc63:c≤9223372036854775807) 
  (W1 W2:World) (hov:∀lb cb,(callFunc 163 #[.slice (some ⟨vb,0,none⟩) 1 vc,.slice (some ⟨b,(i+1)*3,none⟩) lb cb]).run Tryz.prog w=.ok (.value (.bool false)) w)
  (hcp1:∀ty dc sc,(Builtin.copy_ #[55,55] ty #[.slice (some ⟨b,(i+1)*3,none⟩) (n-i) dc,.slice (some ⟨b,i*3,none⟩) (n+1-i) sc]).run Tryz.prog w.drew=.ok (goInt ((n-i:Nat):Int)) W1)
  (hcp2:∀ty dc,(Builtin.copy_ #[55,55] ty #[.slice (some ⟨b,i*3,none⟩) (n+1-i) dc,.slice (some ⟨vb,0,none⟩) 1 vc]).run Tryz.prog W1=.ok (goInt 1) W2) :
  Calls Tryz.prog 127 #[.slice (some ⟨b,0,none⟩) n c,.int .i64 i,.slice (some ⟨vb,0,none⟩) 1 vc] w fun e w'=>
   e=.returned (.slice (some ⟨b,0,none⟩) (n+1) c)∧w'=W2:=by
 have mixed:Tryz.prog.follows Departure.mixedOrders=true:=by kernel_rfl
 have hz2:¬((i:Int)=(n:Int)):=by omega
 have hw1:IntKind.i64.wrap ((i:Int)+1)=(i:Int)+1:=by rw[IntKind.wrap_i64];omega
 have hw2:IntKind.i64.wrap ((n:Int)+1)=(n:Int)+1:=by rw[IntKind.wrap_i64];omega
 have hb1:(0:Int)≤(i:Int)+1:=by omega
 have hin:i≤n:=by omega
 have htn:((i:Int)+1).toNat=i+1:=by omega
 have hb2:¬(c=i+1):=by omega
 have hb3:(i:Int)≤(n:Int)+1:=by omega
 have hb4:¬(c=i):=by omega
 go_enter Tryz.func127,Tryz.ntmps127
 go_wp2_with (simp only[hov])
 go_region_law_o (refine step_copy_runI rfl _ _ 55 55 rfl _ _ (by simp[Act.eval,Act.put]) (by simp[Act.eval,Act.put]) (hcp1 _ _ _) ?_)
 go_wp2_with (at_builtin;refine wpList_copy_runI _ rfl _ _ 55 55 rfl _ _ rfl rfl (hcp2 _ _) ?_)
 go_ret
 exact⟨rfl,rfl⟩
theorem ins_grow (b n c i vb vc g cap:Nat) (w:World) (hi:i<n) (hroom:c<n+1) (hnc:n≤c) (hc63:n≤140737488355328) (hnc2:n+1≤cap)
  (W0 W1 W2:World) (hap:∀ty,(Builtin.append_ #[55,3] ty #[.slice (some ⟨b,0,none⟩) i c,.int .i64 ((n+1-i:Nat):Int)]).run Tryz.prog w=.ok (.slice (some ⟨g,0,none⟩) (n+1) cap) W0)
  (hcp1:∀ty dc,(Builtin.copy_ #[55,55] ty #[.slice (some ⟨g,i*3,none⟩) (n+1-i) dc,.slice (some ⟨vb,0,none⟩) 1 vc]).run Tryz.prog W0=.ok (goInt 1) W1)
  (hcp2:∀ty dc sc,(Builtin.copy_ #[55,55] ty #[.slice (some ⟨g,(i+1)*3,none⟩) (n-i) dc,.slice (some ⟨b,i*3,none⟩) (n-i) sc]).run Tryz.prog W1.drew=.ok (goInt ((n-i:Nat):Int)) W2) :
  Calls Tryz.prog 127 #[.slice (some ⟨b,0,none⟩) n c,.int .i64 i,.slice (some ⟨vb,0,none⟩) 1 vc] w fun e w'=>
   e=.returned (.slice (some ⟨g,0,none⟩) (n+1) cap)∧w'=W2:=by
 have mixed:Tryz.prog.follows Departure.mixedOrders=true:=by kernel_rfl
 have hz2:¬((i:Int)=(n:Int)):=by omega
 have hz3:(c:Int)<(n:Int)+1:=by omega
 have hw1:IntKind.i64.wrap ((i:Int)+1)=(i:Int)+1:=by rw[IntKind.wrap_i64];omega
 have hw2:IntKind.i64.wrap ((n:Int)+1)=(n:Int)+1:=by rw[IntKind.wrap_i64];omega
 have hw3:IntKind.i64.wrap ((n:Int)+1-(i:Int))=((n+1-i:Nat):Int):=by rw[IntKind.wrap_i64];omega
 have hb1:(0:Int)≤(i:Int)+1:=by omega
 have hin:i≤n:=by omega
 have htn:((i:Int)+1).toNat=i+1:=by omega
 have hb2:¬(cap=i+1):=by omega
 have hb3:(i:Int)≤(n:Int)+1:=by omega
 have hb4:¬(cap=i):=by omega
 have hb5:¬(c=i):=by omega
 go_enter Tryz.func127,Tryz.ntmps127
 go_wp2_with (at_builtin;first
  |refine Go.Lib.wpList_append_run _ rfl _ _ _ _ rfl _ _ rfl rfl _ _ (hap _) ?_
  |refine wpList_copy_runI _ rfl _ _ 55 55 rfl _ _ rfl rfl (hcp1 _ _) ?_)
 go_region_law_o (refine step_copy_runI rfl _ _ 55 55 rfl _ _ (by simp[Act.eval,Act.put]) (by simp[Act.eval,Act.put]) (hcp2 _ _ _) ?_)
 go_wp2
 go_ret
 exact⟨rfl,rfl⟩
theorem ins_end (b n c vb vc:Nat) (v':Value) (w w':World) (hap:∀ty,(Builtin.append_ #[55,55] ty #[.slice (some ⟨b,0,none⟩) n c,.slice (some ⟨vb,0,none⟩) 1 vc]).run Tryz.prog w=.ok v' w') :
  Calls Tryz.prog 127 #[.slice (some ⟨b,0,none⟩) n c,.int .i64 n,.slice (some ⟨vb,0,none⟩) 1 vc] w fun e W=>
   e=.returned v'∧W=w':=by
 have mixed:Tryz.prog.follows Departure.mixedOrders=true:=by kernel_rfl
 go_enter Tryz.func127,Tryz.ntmps127
 go_wp2_with (at_builtin;refine Go.Lib.wpList_append_run _ rfl _ _ _ _ rfl _ _ rfl rfl _ _ (hap _) ?_)
 all_goals(go_ret;exact⟨rfl,rfl⟩)
theorem ins_nil (vb vc:Nat) (v':Value) (w w':World) (hap:∀ty,(Builtin.append_ #[55,55] ty #[.slice none 0 0,.slice (some ⟨vb,0,none⟩) 1 vc]).run Tryz.prog w=.ok v' w') :
  Calls Tryz.prog 127 #[.slice none 0 0,.int .i64 (0:Nat),.slice (some ⟨vb,0,none⟩) 1 vc] w fun e W=>
   e=.returned v'∧W=w':=by
 have mixed:Tryz.prog.follows Departure.mixedOrders=true:=by kernel_rfl
 go_enter Tryz.func127,Tryz.ntmps127
 go_wp2_with (at_builtin;refine Go.Lib.wpList_append_run _ rfl _ _ _ _ rfl _ _ rfl rfl _ _ (hap _) ?_)
 all_goals(go_ret;exact⟨rfl,rfl⟩)
end Go.Proofs
namespace Go.Proofs
open Go.RowKit
set_option maxHeartbeats 4000000
set_option maxRecDepth 100000
theorem w_under55:Tryz.prog.underlying 55=some (.slice 59):=by kernel_rfl
theorem w_under3:Tryz.prog.underlying 3=some (.int .i64):=by kernel_rfl
theorem w_size59:∀w,(Go.sizeOf 59).run Tryz.prog w=.ok 3 w:=Tryz.sizeOf59
theorem overlaps_no (w:World) (vb b vc o lb cb:Nat) (vcur cur:Array Value) (hne:vb≠b) (hv:w.heap[vb]? = some (.cells vcur 59 (0,0))) (hb:w.heap[b]? = some (.cells cur 59 (0,0))) (hk:cur.size≠0) :
  (callFunc 163 #[.slice (some ⟨vb,0,none⟩) 1 vc,.slice (some ⟨b,o,none⟩) lb cb]).run Tryz.prog w=.ok (.value (.bool false)) w:=by
 rw[run_callFunc_extern Tryz.func163 (by kernel_rfl) (by kernel_rfl) (by kernel_rfl) (e:=Extern.SlicesOverlaps.overlaps #[55,55] #[4]) (by kernel_rfl),
  Lib.run_overlaps_apart w 55 4 59 w_under55 3 w_size59 ⟨vb,0,none⟩ ⟨b,o,none⟩ 1 vc lb cb hne 59 59 vcur.size cur.size (by simp[World.shape?,hv]) (by simp[World.shape?,hb]) hk (by simp[World.frozen?,hv]) (by simp[World.frozen?,hv])]
 rfl
theorem ins_list (cur xs vs:List Value) (a m:Nat) (hx:cur.take m=xs) (ha:a≤m) (hm:m+3≤cur.length) (hv:vs.length=3) (A1:List Value) (h1:A1=cur.take (a+3)++xs.drop a++cur.drop (a+3+(xs.drop a).length)) :
  A1.length=cur.length∧(A1.take a++vs++A1.drop (a+vs.length)).length=cur.length∧(A1.take a++vs++A1.drop (a+vs.length)).take (m+3)=xs.take a++vs++xs.drop a:=by
 have hxl:xs.length=m:=by rw[←hx,a0J];omega
 have hdl:(xs.drop a).length=m-a:=by rw[a1E,hxl]
 have hl1:A1.length=cur.length:=by
  rw[h1]
  simp only[a0M,a0J,a1E]
  omega
 have ht:A1.take a=xs.take a:=by
  rw[h1,a1P,a2T (by rw[a0J];omega),a2F,←hx,a2F]
  congr 1
  omega
 have hd:A1.drop (a+vs.length)=xs.drop a++cur.drop (a+3+(xs.drop a).length):=by
  rw[h1,hv,a1P,a1S (by rw[a0J];omega),List.drop_eq_nil_of_le (by rw[a0J];omega),a4A]
 refine⟨hl1,?_,?_⟩
 ·simp only[a0M,a0J,a1E]
  omega
 ·rw[ht,hd,←a1P,List.take_left' (by rw[a0M,a0M,a0J,hv,hdl,hxl];omega)]
theorem ins_list2 (row xs vs:List Value) (a m:Nat) (hr:row.take a=xs.take a) (hxl:xs.length=m) (ha:a≤m) (hm:m+3≤row.length) (hv:vs.length=3) (R1:List Value) (h1:R1=row.take a++vs++row.drop (a+vs.length)) :
  R1.length=row.length∧(R1.take (a+3)++xs.drop a++R1.drop (a+3+(xs.drop a).length)).length=row.length∧(R1.take (a+3)++xs.drop a++R1.drop (a+3+(xs.drop a).length)).take (m+3)=xs.take a++vs++xs.drop a:=by
 have hdl:(xs.drop a).length=m-a:=by rw[a1E,hxl]
 have hl1:R1.length=row.length:=by
  rw[h1]
  simp only[a0M,a0J,a1E]
  omega
 have ht:R1.take (a+3)=xs.take a++vs:=by
  rw[h1,hr,List.take_left' (by rw[a0M,a0J,hv,hxl];omega)]
 refine⟨hl1,?_,?_⟩
 ·simp only[a0M,a0J,a1E]
  omega
 ·rw[ht,List.take_left' (by rw[a0M,a0M,a0J,hv,hdl,hxl];omega)]
theorem insert_own (w:World) (e0:Option Nat×Nat) (n i:Nat) (xs:List Value) (hown:w.ownsRow 0 59 3 (Go.Sx.slVal e0 n) n xs) (h1:∀u∈xs,u.oneCell'=true) (vb vc:Nat) (vcur:Array Value) (hv:w.heap[vb]? = some (.cells vcur 59 (0,0)))
  (vs:List Value) (hvs:vcur.toList.take 3=vs) (hvl:vs.length=3) (h1v:∀u∈vs,u.oneCell'=true) (hne:e0.1≠some vb) (hi:i≤n) (hn:n≤100000) :
  Calls Tryz.prog 127 #[Go.Sx.slVal e0 n,.int .i64 i,.slice (some ⟨vb,0,none⟩) 1 vc] w fun e w'=>∃v',e=.returned v'∧w'.ownsRow 0 59 3 v' (n+1) (xs.take (i*3)++vs++xs.drop (i*3))∧w.grownBy w' e0.1∧v'≠.slice none 0 0∧(∀g,v'.ownBlock=some g→e0.1=some g∨g=w.heap.size)∧(∀g,v'.ownBlock=some g→g<w'.heap.size):=by
 obtain⟨i0,hi0,hz0,hzs,hzb⟩:=info_parts w_info59
 have hvcell:∀j u,vs[j]? = some u→w.cell? ((⟨vb,0,none⟩:Addr).add j)=some u:=fun j u hj=>by
  rw[Addr.add_lit,a3B]
  rw[←hvs] at hj
  have hj3:j<3:=a0Q fun g=>by rw[a2Q (by omega)] at hj;cases hj
  rw[a1U hj3] at hj
  simp[World.cell?,hv,←a3T,hj]
 have hvw:vb<w.heap.size:=(a0L.1 hv).1
 have hxl:xs.length=n*3:=hown.1
 have hcalls:∀v:Value,Calls Tryz.prog 127 #[v,.int .i64 i,.slice (some ⟨vb,0,none⟩) 1 vc] w (fun e W=>∃v' w',(e=.returned v'∧W=w')∧w'.ownsRow 0 59 3 v' (n+1) (xs.take (i*3)++vs++xs.drop (i*3))∧w.grownBy w' e0.1∧v'≠.slice none 0 0∧(∀g,v'.ownBlock=some g→e0.1=some g∨g=w.heap.size))→
   Calls Tryz.prog 127 #[v,.int .i64 i,.slice (some ⟨vb,0,none⟩) 1 vc] w fun e w'=>∃v',e=.returned v'∧w'.ownsRow 0 59 3 v' (n+1) (xs.take (i*3)++vs++xs.drop (i*3))∧w.grownBy w' e0.1∧v'≠.slice none 0 0∧(∀g,v'.ownBlock=some g→e0.1=some g∨g=w.heap.size)∧(∀g,v'.ownBlock=some g→g<w'.heap.size):=fun v h=>h.mono fun e W ⟨v',w',⟨h1,h2⟩,h3,h4,h5,h6⟩=>by
  subst h2
  exact⟨v',h1,h3,h4,h5,h6,fun g hg=>(h3.lt g hg).2⟩
 refine hcalls _ ?_
 by_cases hin:i=n
 ·subst hin
  have hd:xs.drop (i*3)=[]:=List.drop_eq_nil_of_le (by omega)
  have ht:xs.take (i*3)=xs:=a3N (by omega)
  rw[hd,ht,a3V]
  have hown':w.ownsRow 0 59 i0.size (Go.Sx.slVal e0 i) i xs:=by rw[hzs];exact hown
  have hap:∀ty,∃v' w',(Builtin.append_ #[55,55] ty #[Go.Sx.slVal e0 i,.slice (some ⟨vb,0,none⟩) 1 vc]).run Tryz.prog w=.ok v' w'∧w'.ownsRow 0 59 i0.size v' (i+1) (xs++vs)∧w.grownBy w' (Go.Sx.slVal e0 i).ownBlock∧(v'=.slice none 0 0↔Go.Sx.slVal e0 i=.slice none 0 0∧1=0)∧(∀g,v'.ownBlock=some g→(Go.Sx.slVal e0 i).ownBlock=some g∨g=w.heap.size):=fun ty=>
   Go.Sx.run_append_ex w 55 ty 59 i0 _ w_under55 hi0 hz0 (by rw[hzs];rfl) (by omega) _ i xs hown' ⟨vb,0,none⟩ 1 vc vs (by rw[hzs];omega) hvcell h1v (by omega) (by rw[hzb];omega)
  -- the result does not hang on the type that the operation bears
  have hty:∀ty ty' v,Builtin.append_ #[55,55] ty v=Builtin.append_ #[55,55] ty' v:=fun _ _ _=>rfl
  obtain⟨v',w',g1,g2,g3,g4,g5⟩:=hap 55
  have g1':∀ty,(Builtin.append_ #[55,55] ty #[Go.Sx.slVal e0 i,.slice (some ⟨vb,0,none⟩) 1 vc]).run Tryz.prog w=.ok v' w':=fun ty=>by rw[hty ty 55];exact g1
  rw[hzs] at g2
  have hob:(Go.Sx.slVal e0 i).ownBlock=e0.1:=Go.Sx.slVal_own e0 i
  rw[hob] at g3 g5
  have hfin:∃v'' w'',(Ending.returned v'=.returned v''∧w'=w'')∧w''.ownsRow 0 59 3 v'' (i+1) (xs++vs)∧w.grownBy w'' e0.1∧v''≠.slice none 0 0∧(∀g,v''.ownBlock=some g→e0.1=some g∨g=w.heap.size):=
   ⟨v',w',⟨rfl,rfl⟩,g2,g3,fun h=>by have:=(g4.1 h).2;omega,g5⟩
  obtain⟨bb,cc⟩:=e0
  cases bb with
  |none=>
   rcases hown.2 with⟨_,h0⟩|⟨_,_,_,h0,_⟩
   ·subst h0
    exact(ins_nil vb vc v' w w' g1').mono fun e W ⟨ha,hb⟩=>by subst ha hb;exact hfin
   ·cases h0
  |some b=>
   exact(ins_end b i cc vb vc v' w w' g1').mono fun e W ⟨ha,hb⟩=>by subst ha hb;exact hfin
 ·have hin:i<n:=by omega
  obtain⟨bb,c⟩:=e0
  cases bb with
  |none=>
   rcases hown.2 with⟨_,h0⟩|⟨_,_,_,h0,_⟩
   ·omega
   ·cases h0
  |some b=>
  rcases hown.2 with⟨h0,_⟩|⟨b',c',cur,h0,_,hb,hnc,hcm,hcur,htk⟩
  ·cases h0
  cases h0
  have hbv:vb≠b:=fun e=>hne (by rw[e])
  have hbw:b<w.heap.size:=(a0L.1 hb).1
  have hcl:cur.toList.length=c*3:=by simpa using hcur
  have hdl:(xs.drop (i*3)).length=n*3-i*3:=by rw[a1E,hxl]
  have hcm':c≤9223372036854775807:=by unfold maxLen at hcm;omega
  have hsrc:∀(W:World),W.heap[b]? = w.heap[b]?→∀j u,(xs.drop (i*3))[j]? = some u→W.cell? ((⟨b,i*3,none⟩:Addr).add j)=some u:=fun W hW j u hj=>by
   rw[Addr.add_lit]
   rw[a0R,←htk] at hj
   have hj3:i*3+j<n*3:=a0Q fun g=>by rw[a2Q (by omega)] at hj;cases hj
   rw[a1U hj3] at hj
   simp[World.cell?,hW,hb,←a3T,hj]
  have h1d:∀u∈xs.drop (i*3),u.oneCell'=true:=fun u hu=>h1 u (a0Y hu)
  by_cases hroom:n+1≤c
  ·-- in place
   obtain⟨A1,hA1⟩:∃A1,A1=cur.toList.take (i*3+3)++xs.drop (i*3)++cur.toList.drop (i*3+3+(xs.drop (i*3)).length):=⟨_,rfl⟩
   obtain⟨l1,l2,l3⟩:=ins_list cur.toList xs vs (i*3) (n*3) htk (by omega) (by omega) hvl A1 hA1
   have e3:(i+1)*3=i*3+3:=by omega
   have hcp1:∀ty dc sc,(Builtin.copy_ #[55,55] ty #[.slice (some ⟨b,(i+1)*3,none⟩) (n-i) dc,.slice (some ⟨b,i*3,none⟩) (n+1-i) sc]).run Tryz.prog w.drew=.ok (goInt ((n-i:Nat):Int)) (w.drew.setRow b A1.toArray):=fun ty dc sc=>by
    have:=Go.Sx.run_copy_rowN (P:=Tryz.prog) w.drew 55 55 ty 59 i0 b ((i+1)*3) (n-i) dc ⟨b,i*3,none⟩ (n+1-i) sc cur 59 (xs.drop (i*3)) w_under55 hi0 hb (by rw[hdl,hzs,Nat.min_eq_right (by omega)];omega) (hsrc w.drew rfl) (by rw[hdl];omega) h1d
    rw[Nat.min_eq_right (by omega),e3,←hA1] at this
    rw[e3]
    exact this
   have hb1:(w.drew.setRow b A1.toArray).heap[b]? = some (.cells A1.toArray 59 (0,0)):=setRow_heap w.drew b cur A1.toArray 59 (0,0) hb
   have hcp2:∀ty dc,(Builtin.copy_ #[55,55] ty #[.slice (some ⟨b,i*3,none⟩) (n+1-i) dc,.slice (some ⟨vb,0,none⟩) 1 vc]).run Tryz.prog (w.drew.setRow b A1.toArray)=.ok (goInt 1) ((w.drew.setRow b A1.toArray).setRow b (A1.take (i*3)++vs++A1.drop (i*3+vs.length)).toArray):=fun ty dc=>by
    have:=Go.Sx.run_copy_rowN (P:=Tryz.prog) (w.drew.setRow b A1.toArray) 55 55 ty 59 i0 b (i*3) (n+1-i) dc ⟨vb,0,none⟩ 1 vc A1.toArray 59 vs w_under55 hi0 hb1 (by rw[hvl,hzs,Nat.min_eq_left (by omega)]) (fun j u hj=>by
     rw[cell_setRow_other _ _ _ _ (by rw[Addr.add_lit];exact hbv)]
     exact hvcell j u hj) (by rw[a2B];omega) h1v
    rw[Nat.min_eq_left (by omega)] at this
    exact this
   refine(ins_shift b n c i vb vc w hin hroom (by omega) hcm' _ _ (fun lb cb=>overlaps_no w vb b vc _ lb cb vcur cur hbv hv hb (by omega)) hcp1 hcp2).mono ?_
   rintro e W ⟨rfl,rfl⟩
   refine⟨_,_,⟨rfl,rfl⟩,⟨?_,.inr ⟨b,c,_,rfl,a1X _,setRow_heap _ b _ _ 59 (0,0) hb1,hroom,hcm,?_,?_⟩⟩,⟨rfl,rfl,rfl,by simp,fun k hk hkb=>?_⟩,by simp,fun g hg=>.inl ?_⟩
   ·rw[a0M,a0M,a0J,hvl,hdl,hxl];omega
   ·rw[a2B,l2];exact hcl
   ·rw[show(n+1)*3=n*3+3 by omega];exact l3
   ·have hkb':k≠b:=fun e=>hkb (by rw[e])
    rw[setRow_other _ _ _ _ hkb',setRow_other _ _ _ _ hkb']
    rfl
   ·simpa [Value.ownBlock] using hg
  ·-- a new block
   have hz3:c<n+1:=by omega
   have hold:(Builtin.firstCells i0.size i (.slice (some ⟨b,0,none⟩) i c)).run Tryz.prog w.drew=.ok (xs.take (i*3)).toArray w.drew:=by
    rw[hzs]
    exact run_firstCells_some w.drew 3 i ⟨b,0,none⟩ i c (xs.take (i*3)) (by rw[a0J];omega) (fun j u hj=>by
     rw[Addr.add_lit,a3B]
     have hj3:j<i*3:=a0Q fun g=>by rw[a2Q (by omega)] at hj;cases hj
     rw[a1U hj3,←htk,a1U (by omega)] at hj
     show w.cell? _=_
     simp[World.cell?,hb,←a3T,hj])
   have hik:i+(n+1-i)=n+1:=by omega
   have hge:=grownCap_ge w (n+1) c 59
   have hle:=grownCap_le_maxLen w (n+1) c 59 (by unfold maxLen;omega)
   have hap0:=fun ty=>Lib.run_append_grow_zeros w 55 3 ty 59 i0 _ .i64 .i64 w_under55 w_under3 hi0 hz0 (some ⟨b,0,none⟩) i c (xs.take (i*3)) hold (n+1-i) (by omega) (by omega) (by omega) (by omega) (by rw[hzb];omega) (by rw[hzb,hik];exact growslice_fits hz3 (by omega))
   rw[hik] at hap0
   generalize hG:grownCap w (n+1) c 59=G at *
   obtain⟨R0,hR0⟩:∃R0:Array Value,R0=(xs.take (i*3)).toArray++Builtin.zeroCells (Value.agg #[.int .i64 0,.int .i64 0,.int .i64 0]).cells (n+1-i)++Builtin.zeroCells (Value.agg #[.int .i64 0,.int .i64 0,.int .i64 0]).cells (G-(n+1)):=⟨_,rfl⟩
   rw[←hR0] at hap0
   have hz3s:(Value.agg #[.int .i64 0,.int .i64 0,.int .i64 0]).cells.size=3:=rfl
   have hR0s:R0.size=G*3:=by
    rw[hR0,Array.size_append,Array.size_append,size_zeroCells,size_zeroCells,hz3s,a2B,a0J]
    omega
   have hR0t:R0.toList.take (i*3)=xs.take (i*3):=by
    rw[hR0,Array.toList_append,Array.toList_append,a1P]
    exact List.take_left' (by rw[a0J];omega)
   obtain⟨R1,hR1⟩:∃R1,R1=R0.toList.take (i*3)++vs++R0.toList.drop (i*3+vs.length):=⟨_,rfl⟩
   obtain⟨l1,l2,l3⟩:=ins_list2 R0.toList xs vs (i*3) (n*3) hR0t hxl (by omega) (by rw[a2Y];omega) hvl R1 hR1
   have hR0l:R0.toList.length=G*3:=by rw[a2Y];exact hR0s
   rw[hR0l] at l1 l2
   have e3:(i+1)*3=i*3+3:=by omega
   obtain⟨W0,hW0⟩:∃W0,W0=w.drew.alloc (.cells R0 59):=⟨_,rfl⟩
   rw[←hW0] at hap0
   have hb0:W0.heap[w.heap.size]? = some (.cells R0 59 (0,0)):=by rw[hW0];exact heap_alloc_new w.drew _
   have hold0:∀k,k<w.heap.size→W0.heap[k]? = w.heap[k]?:=fun k hk=>by rw[hW0];exact heap_alloc_old w.drew _ hk
   have hcp1:∀ty dc,(Builtin.copy_ #[55,55] ty #[.slice (some ⟨w.heap.size,i*3,none⟩) (n+1-i) dc,.slice (some ⟨vb,0,none⟩) 1 vc]).run Tryz.prog W0=.ok (goInt 1) (W0.setRow w.heap.size R1.toArray):=fun ty dc=>by
    have:=Go.Sx.run_copy_rowN (P:=Tryz.prog) W0 55 55 ty 59 i0 w.heap.size (i*3) (n+1-i) dc ⟨vb,0,none⟩ 1 vc R0 59 vs w_under55 hi0 hb0 (by rw[hvl,hzs,Nat.min_eq_left (by omega)]) (fun j u hj=>by
     have:=hvcell j u hj
     rw[Addr.add_lit] at this ⊢
     rw[←this]
     simp[World.cell?,hold0 vb hvw]) (by rw[hR0s];omega) h1v
    rw[Nat.min_eq_left (by omega),←hR1] at this
    exact this
   have hb1:(W0.setRow w.heap.size R1.toArray).heap[w.heap.size]? = some (.cells R1.toArray 59 (0,0)):=setRow_heap W0 _ _ _ 59 (0,0) hb0
   have hcp2:∀ty dc sc,(Builtin.copy_ #[55,55] ty #[.slice (some ⟨w.heap.size,(i+1)*3,none⟩) (n-i) dc,.slice (some ⟨b,i*3,none⟩) (n-i) sc]).run Tryz.prog (W0.setRow w.heap.size R1.toArray).drew=.ok (goInt ((n-i:Nat):Int)) ((W0.setRow w.heap.size R1.toArray).drew.setRow w.heap.size (R1.take (i*3+3)++xs.drop (i*3)++R1.drop (i*3+3+(xs.drop (i*3)).length)).toArray):=fun ty dc sc=>by
    have:=Go.Sx.run_copy_rowN (P:=Tryz.prog) (W0.setRow w.heap.size R1.toArray).drew 55 55 ty 59 i0 w.heap.size ((i+1)*3) (n-i) dc ⟨b,i*3,none⟩ (n-i) sc R1.toArray 59 (xs.drop (i*3)) w_under55 hi0 hb1 (by rw[hdl,hzs,Nat.min_self];omega) (hsrc _ (by
     show(W0.setRow w.heap.size R1.toArray).heap[b]? = _
     rw[setRow_other _ _ _ _ (by omega),hold0 b hbw])) (by rw[a2B,hdl];omega) h1d
    rw[Nat.min_self,e3] at this
    rw[e3]
    exact this
   refine(ins_grow b n c i vb vc w.heap.size G w hin hz3 hnc (by omega) hge _ _ _ hap0 hcp1 hcp2).mono ?_
   rintro e W ⟨rfl,rfl⟩
   refine⟨_,_,⟨rfl,rfl⟩,⟨?_,.inr ⟨w.heap.size,G,_,rfl,a1X _,setRow_heap _ _ _ _ 59 (0,0) hb1,hge,hle,?_,?_⟩⟩,⟨?_,?_,?_,?_,fun k hk hkb=>?_⟩,by simp,fun g hg=>.inr ?_⟩
   ·rw[a0M,a0M,a0J,hvl,hdl,hxl];omega
   ·rw[a2B,l2]
   ·rw[show(n+1)*3=n*3+3 by omega];exact l3
   ·rw[hW0];rfl
   ·rw[hW0];rfl
   ·rw[hW0];rfl
   ·rw[setRow_size]
    show w.heap.size≤(W0.setRow w.heap.size R1.toArray).heap.size
    rw[setRow_size,hW0]
    simp[World.alloc]
   ·rw[setRow_other _ _ _ _ (by omega)]
    show(W0.setRow w.heap.size R1.toArray).heap[k]? = _
    rw[setRow_other _ _ _ _ (by omega)]
    exact hold0 k hk
   ·have:w.heap.size=g:=by simpa [Value.ownBlock] using hg
    exact this.symm
end Go.Proofs
namespace Go.Proofs
open Go Go.Sx
set_option maxHeartbeats 4000000
set_option maxRecDepth 100000
theorem seg_lo {xs vs:List Value} {i j:Nat} (hx:i*3≤xs.length) (h:j<i):((xs.take (i*3)++vs++xs.drop (i*3)).drop (j*3)).take 3=(xs.drop (j*3)).take 3:=by
 refine a1J fun k=>?_
 by_cases hk:k<3
 ·rw[a1U hk,a1U hk,a0R,a0R,a1P,a0F (by rw[a0J];omega),a1U (by omega)]
 ·rw[a2Q (by omega),a2Q (by omega)]
theorem seg_at {xs vs:List Value} {i:Nat} (hx:i*3≤xs.length) (hv:vs.length=3):((xs.take (i*3)++vs++xs.drop (i*3)).drop (i*3)).take 3=vs:=by
 have hl:(xs.take (i*3)).length=i*3:=by rw[a0J];omega
 rw[a1P,a1S (by omega),List.drop_eq_nil_of_le (by omega),a4A,List.take_left' hv]
theorem seg_hi {xs vs:List Value} {i j:Nat} (hx:i*3≤xs.length) (hv:vs.length=3) (h:i<j):((xs.take (i*3)++vs++xs.drop (i*3)).drop (j*3)).take 3=(xs.drop ((j-1)*3)).take 3:=by
 have hl:(xs.take (i*3)).length=i*3:=by rw[a0J];omega
 refine a1J fun k=>?_
 by_cases hk:k<3
 ·rw[a1U hk,a1U hk,a0R,a0R,a0S (by rw[a0M,hl,hv];omega),a0M,hl,hv,a0R]
  congr 1
  omega
 ·rw[a2Q (by omega),a2Q (by omega)]
def insF (i:Nat) (c:List V) (f:Nat→List V) (j:Nat):List V:=if j<i then f j else if j=i then c else f (j-1)
theorem callee_insert {n i:Nat} {f:Nat→List V} {c:List V} {nz nz2:Bool} (hi:i≤n) (hn:n≤100000) :
  Sx.Callee Tryz.prog 127 [.osl 0 n,.int .i64 i,.osl 1 1] [.row 59 3 n f nz,.row 59 3 1 (fun _=>c) nz2] (fun v H=>v=.osl 2 (n+1)∧H=[.gone,.row 59 3 1 (fun _=>c) nz2,.row 59 3 (n+1) (insF i c f) false]):=by
 unfold Sx.Callee
 refine⟨⟨_,Tryz.func127,by kernel_rfl,by kernel_rfl⟩,fun I η w vals hS hd=>?_⟩
 obtain⟨v0,r0,rfl,⟨e0,he0,hne0,rfl⟩,v1,r1,rfl,hv1,v2,r2,rfl,⟨e1,he1,hne1,rfl⟩,hr⟩:=hd
 have hr:r2=[]:=hr
 have hv1:v1=.int .i64 i:=hv1
 subst hr hv1
 obtain⟨xs,hown,h1,hnil,hden⟩:=hS.obj 0 e0 _ he0 rfl
 obtain⟨ys,hown1,h1y,_,hdeny⟩:=hS.obj 1 e1 _ he1 rfl
 obtain⟨b1,c1⟩:=e1
 cases b1 with
 |none=>exact absurd (hne1 rfl).1 (by omega)
 |some vb=>
 rcases hown1.2 with⟨h0,_⟩|⟨b',c',vcur,h0,_,hvb,_,_,_,htk⟩
 ·cases h0
 cases h0
 have hne:e0.1≠some vb:=fun e=>by
  have:=hS.apart 0 1 vb e0 _ _ _ he0 he1 rfl rfl (.inl ⟨trivial,e⟩) (.inl ⟨trivial,rfl⟩)
  omega
 have hyl:ys.length=3:=by have:=hown1.1;omega
 refine(insert_own w e0 n i xs hown h1 vb c1 vcur hvb ys (by simpa using htk) hyl h1y hne hi hn).mono ?_
 rintro e w' ⟨v',rfl,g2,g3,g4,g5,_⟩
 obtain⟨e',k1,k2,k3,k4,k5⟩:=a2b g2
 have hxl:xs.length=n*3:=hown.1
 obtain⟨s1,s2,s3⟩:=hS.renew [.gone,.row 59 3 1 (fun _=>c) nz2] rfl (fun j o hj hl=>by
  match j with
  |0=>cases hj;exact hl.elim
  |1=>exact hj
  |j+2=>simp at hj) e0.1 g3 (fun b hb=>by
  obtain⟨bb,cp⟩:=e0
  simp only at hb
  subst hb
  refine⟨own_mk he0 rfl trivial,?_⟩
  rintro⟨j,c2,o2,q1,q2,q3⟩
  match j with
  |0=>cases q2;exact(O.has_live q3).elim
  |1=>
   have:=hS.apart 0 1 b _ c2 _ o2 he0 q1 rfl q2 (.inl ⟨trivial,rfl⟩) q3
   omega
  |j+2=>simp at q2) e' (.row 59 3 (n+1) (insF i c f) false) (fun b c2 hb=>by
  refine⟨?_,k4 b c2 hb⟩
  rw[k1,slVal_own] at g5
  exact g5 b (by rw[hb])) (fun m0=>by
  refine⟨xs.take (i*3)++ys++xs.drop (i*3),by rw[←k1];exact g2,fun u hu=>?_,?_,fun q hq=>?_⟩
  ·rcases a0U.1 hu with hu|hu
   ·rcases a0U.1 hu with hu|hu
    ·exact h1 u (a0X hu)
    ·exact h1y u hu
   ·exact h1 u (a0Y hu)
  ·rw[k2]
   exact⟨fun hv=>(g4 hv).elim,fun hv=>by cases hv.1⟩
  ·refine DenL.mono m0.nil _ _ ?_
   unfold insF
   by_cases hqi:q<i
   ·rw[if_pos hqi,seg_lo (by omega) hqi]
    exact hden q (by omega)
   ·rw[if_neg hqi]
    by_cases hqe:q=i
    ·subst hqe
     rw[if_pos rfl,seg_at (by omega) hyl]
     have:=hdeny 0 (by omega)
     rw[Nat.zero_mul,List.drop_zero,a3N (by omega)] at this
     exact this
    ·rw[if_neg hqe,seg_hi (by omega) hyl (by omega)]
     exact hden (q-1) (by omega))
 have hlen:η.length=2:=hS.len
 exact⟨I,η++[e'],_,.osl 2 (n+1),v',rfl,⟨rfl,rfl⟩,s1,⟨e',by rw[a0S (by omega),hlen];rfl,k5,k1⟩,s2,s3⟩
end Go.Proofs
namespace Go.Proofs
open Go Go.Sx
set_option maxRecDepth 100000
set_option maxHeartbeats 40000000
open Ca (Wt ltK)
def wtC (w:Wt):List V:=[.int .i64 (w.1:Nat),.int .i64 (w.2.1:Nat),.int .i64 w.2.2]
def wt0:Wt:=(0,0,0)
def WtS (w:Wt):Prop:=w.1≤1000∧w.2.1≤1000
def cmpW (a b:Wt):Int:=if(a.1:Int)≠b.1 then(a.1:Int)-b.1 else(a.2.1:Int)-b.2.1
theorem cmpW_lt (a b:Wt):cmpW a b<0↔ltK a b:=by unfold cmpW ltK;split<;>omega
theorem cmpW_eq (a b:Wt):cmpW a b=0↔a.1=b.1∧a.2.1=b.2.1:=by unfold cmpW;split<;>omega
theorem cmp126 (a b:Wt) (ha:WtS a) (hb:WtS b):a0g Tryz.prog 126 false [.agg (wtC a),.agg (wtC b)] (·=.int .i64 (cmpW a b)):=by
 obtain⟨h1,h2⟩:=ha
 obtain⟨h3,h4⟩:=hb
 refine a0a Tryz.E_ok Tryz.func126 rfl (by kernel_rfl) ?_
 (repeat' ((conv=>whnf);first|(with_reducible first|apply spl|apply spl'|refine iJ ?_)<;>intro hc<;>try(exfalso;omega)|refine vcq ?_|refine dr 16 ?_|refine dr 8 ?_));all_goals(try conv=>whnf);try exact trivial
 ·refine⟨_,rfl,?_⟩
  (repeat' ((conv=>whnf);first|(with_reducible first|apply spl|apply spl'|refine iJ ?_)<;>intro hc<;>try(exfalso;omega)|refine vcq ?_|refine dr 16 ?_|refine dr 8 ?_));all_goals(try conv=>whnf);try exact trivial
  unfold cmpW
  rw[if_pos hc]
  exact⟨rfl,trivial⟩
 ·refine⟨_,rfl,?_⟩
  (repeat' ((conv=>whnf);first|(with_reducible first|apply spl|apply spl'|refine iJ ?_)<;>intro hc<;>try(exfalso;omega)|refine vcq ?_|refine dr 16 ?_|refine dr 8 ?_));all_goals(try conv=>whnf);try exact trivial
  unfold cmpW
  rw[if_neg hc]
  exact⟨rfl,trivial⟩
theorem bsearch125 (W:List Wt) (hW:W.length≤1000) (hs:∀w∈W,WtS w) (hp:W.Pairwise ltK) (w:Wt) (hw:WtS w):a0g Tryz.prog 125 false [.sl 3 W.length (a0e wtC wt0 W),.agg (wtC w),.fn (.func 126) [] []]
  (fun r=>∃i:Nat,i≤W.length∧(∀k,k<i→ltK (W.getD k wt0) w)∧(∀k,i≤k→k<W.length→¬ltK (W.getD k wt0) w)∧r=.tup [.int .i64 i,.prop (i<W.length∧cmpW (W.getD i wt0) w=0) (Classical.propDecidable _)]):=by
 have hg:∀k,k<W.length→W.getD k wt0=W[k]!∧WtS (W.getD k wt0):=fun k hk=>by
  have e:W.getD k wt0=W[k]:=by rw[a0A,a0C hk];rfl
  exact⟨by rw[e];simp[hk],by rw[e];exact hs _ (a0N hk)⟩
 have hup:∀a b,a<b→b<W.length→ltK (W.getD a wt0) (W.getD b wt0):=fun a b hab hb=>by
  rw[a0T] at hp
  rw[a0A,a0C (by omega),a0A,a0C hb]
  exact hp a b (by omega) hb hab
 refine a0a Tryz.E_ok Tryz.func125 rfl (by kernel_rfl) ?_
 refine x66 ?_
 refine⟨Nat×Nat,fun i=>i.1≤i.2∧i.2≤W.length∧(∀k,k<i.1→ltK (W.getD k wt0) w)∧(∀k,i.2≤k→k<W.length→¬ltK (W.getD k wt0) w),fun i=>i.2-i.1,fun i=>[(9,.int .i64 (i.1:Nat)),(10,.int .i64 (i.2:Nat)),(11,.any)],fun _=>[],fun _=>[],(0,W.length),⟨⟨by dsimp only;omega,by dsimp only;omega,fun k hk=>by dsimp only at hk;omega,fun k hk hk2=>by dsimp only at hk;omega⟩,some [some 0],?_⟩,?_⟩
 ·exact xc65
 ·rintro⟨i,j⟩ ⟨h1,h2,h3,h4⟩
  dsimp only at h1 h2 h3 h4 ⊢
  have hfd:((i:Int)+(j:Int)).fdiv (2 ^ (1:Int).toNat)=(((i+j) / 2:Nat):Int):=by
   rw[show(2:Int) ^ (1:Int).toNat=2 from rfl,Int.fdiv_eq_ediv_of_nonneg _ (by omega)]
   omega
  have hth:(((i+j) / 2:Nat):Int).toNat=(i+j) / 2:=a0E _
  have hti:(i:Int).toNat=i:=a0E i
  (repeat' ((conv=>whnf);first|(with_reducible first|apply spl|apply spl'|refine iJ ?_)<;>intro hc<;>try(exfalso;omega)|refine vcq ?_|refine dr 8 ?_|refine dr 16 ?_));all_goals(try conv=>whnf);try exact trivial
  ·have hij:i<j:=by omega
   refine⟨⟨by show(0:Int)≤(i:Int)+(j:Int);omega,by show(i:Int)+(j:Int)≤18446744073709551615;omega⟩,?_⟩
   refine x66 ?_
   refine⟨⟨by omega,by decide⟩,?_⟩
   rw[hfd]
   refine x66 ?_
   rw[hth]
   generalize hq:(i+j) / 2=q at *
   have hqi:i≤q∧q<j:=by omega
   refine a0d (cmp126 (W.getD q wt0) w (hg q (by omega)).2 hw) rfl ?_
   (repeat' ((conv=>whnf);first|(with_reducible first|apply spl|apply spl'|refine iJ ?_)<;>intro hc<;>try(exfalso;omega)|refine vcq ?_|refine dr 8 ?_|refine dr 16 ?_));all_goals(try conv=>whnf);try exact trivial
   ·have hl:=(cmpW_lt _ _).1 hc
    refine⟨(q+1,j),⟨⟨by dsimp only;omega,h2,fun k hk=>?_,h4⟩,by dsimp only;omega⟩,some [some 0],?_⟩
    ·dsimp only at hk
     rcases a0I (show k≤q by omega) with g|g
     ·exact Ca.ltK_trans (hup k q g (by omega)) hl
     ·rw[g];exact hl
    ·exact xc65
   ·have hl:=fun g=>hc ((cmpW_lt (W.getD q wt0) w).2 g)
    refine⟨(i,q),⟨⟨by dsimp only;omega,by dsimp only;omega,h3,fun k hk hk2=>?_⟩,by dsimp only;omega⟩,some [some 0],?_⟩
    ·dsimp only at hk
     rcases a0I hk with g|g
     ·exact fun g2=>hl (Ca.ltK_trans (hup q k g hk2) g2)
     ·rw[←g];exact hl
    ·exact xc65
  ·have hij:i=j:=by omega
   subst hij
   rw[hti]
   refine a0h (fun h=>cmp126 (W.getD i wt0) w (hg i (by omega)).2 hw) rfl ?_
   refine x66 ?_
   refine⟨_,⟨i,h2,h3,h4,rfl⟩,?_⟩
   exact xc65
end Go.Proofs
