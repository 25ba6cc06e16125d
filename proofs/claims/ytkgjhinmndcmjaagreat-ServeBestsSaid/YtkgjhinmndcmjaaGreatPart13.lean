/- Own work: texts of the proof of a law (WsIns, WsIns2, WsIns3, Ws1, WqL, Wq1, Ws2, SzTr, Ws3, Ws4, Ws5, Ws6, Ws7). No condition. -/
import Derived.Test.YtkgjhinmndcmjaaGreatPart12
import Derived.Shelf.Spec.SlicesInsertGrow
namespace Go.Proofs
open Go.Shelf Go.RowKit Go.Lib
set_option maxHeartbeats 4000000
set_option maxRecDepth 100000
theorem w_info59:(Tryz.prog.info? 59).map (fun i=>(i.zero,i.size,i.bytes))=some (some (.agg #[.int .i64 0,.int .i64 0,.int .i64 0]),3,24):=by kernel_rfl
theorem ins_shift (b n c i vb vc:Nat) (w:World) (hi:i<n) (hroom:n+1≤c) (hn:n≤140737488355328) (hc63:c≤9223372036854775807) 
  (W1 W2:World) (hov:∀lb cb,(callFunc 163 #[.slice (some ⟨vb,0,none⟩) 1 vc,.slice (some ⟨b,(i+1)*3,none⟩) lb cb]).run Tryz.prog w=.ok (.value (.bool false)) w)
  (hcp1:∀ty dc sc,(Builtin.copy_ #[55,55] ty #[.slice (some ⟨b,(i+1)*3,none⟩) (n-i) dc,.slice (some ⟨b,i*3,none⟩) (n+1-i) sc]).run Tryz.prog w.drew=.ok (goInt ((n-i:Nat):Int)) W1)
  (hcp2:∀ty dc,(Builtin.copy_ #[55,55] ty #[.slice (some ⟨b,i*3,none⟩) (n+1-i) dc,.slice (some ⟨vb,0,none⟩) 1 vc]).run Tryz.prog W1=.ok (goInt 1) W2) :
  Calls Tryz.prog 127 #[.slice (some ⟨b,0,none⟩) n c,.int .i64 i,.slice (some ⟨vb,0,none⟩) 1 vc] w fun e w'=>
   e=.returned (.slice (some ⟨b,0,none⟩) (n+1) c)∧w'=W2:=by
 have mixed:Tryz.prog.follows Departure.mixedOrders=true:=by kernel_rfl
 have hz2:¬((i:Int)=(n:Int)):=by omega
 have hw1:IntKind.i64.wrap ((i:Int)+1)=(i:Int)+1:=by rw[IntKind.wrap_i64];omega
 have hw2:IntKind.i64.wrap ((n:Int)+1)=(n:Int)+1:=by rw[IntKind.wrap_i64];omega
 have hb1:(0:Int)≤(i:Int)+1:=by omega
 have hin:i≤n:=by omega
 have htn:((i:Int)+1).toNat=i+1:=by omega
 have hb2:¬(c=i+1):=by omega
 have hb3:(i:Int)≤(n:Int)+1:=by omega
 have hb4:¬(c=i):=by omega
 go_enter Tryz.func127,Tryz.ntmps127
 go_wp2_with (simp only[hov])
 go_region_law_o (refine step_copy_runI rfl _ _ 55 55 rfl _ _ (by simp[Act.eval,Act.put]) (by simp[Act.eval,Act.put]) (hcp1 _ _ _) ?_)
 go_wp2_with (at_builtin;refine wpList_copy_runI _ rfl _ _ 55 55 rfl _ _ rfl rfl (hcp2 _ _) ?_)
 go_ret
 exact⟨rfl,rfl⟩
theorem ins_grow (b n c i vb vc g cap:Nat) (w:World) (hi:i<n) (hroom:c<n+1) (hnc:n≤c) (hc63:n≤140737488355328) (hnc2:n+1≤cap)
  (W0 W1 W2:World) (hap:∀ty,(Builtin.append_ #[55,3] ty #[.slice (some ⟨b,0,none⟩) i c,.int .i64 ((n+1-i:Nat):Int)]).run Tryz.prog w=.ok (.slice (some ⟨g,0,none⟩) (n+1) cap) W0)
  (hcp1:∀ty dc,(Builtin.copy_ #[55,55] ty #[.slice (some ⟨g,i*3,none⟩) (n+1-i) dc,.slice (some ⟨vb,0,none⟩) 1 vc]).run Tryz.prog W0=.ok (goInt 1) W1)
  (hcp2:∀ty dc sc,(Builtin.copy_ #[55,55] ty #[.slice (some ⟨g,(i+1)*3,none⟩) (n-i) dc,.slice (some ⟨b,i*3,none⟩) (n-i) sc]).run Tryz.prog W1.drew=.ok (goInt ((n-i:Nat):Int)) W2) :
  Calls Tryz.prog 127 #[.slice (some ⟨b,0,none⟩) n c,.int .i64 i,.slice (some ⟨vb,0,none⟩) 1 vc] w fun e w'=>
   e=.returned (.slice (some ⟨g,0,none⟩) (n+1) cap)∧w'=W2:=by
 have mixed:Tryz.prog.follows Departure.mixedOrders=true:=by kernel_rfl
 have hz2:¬((i:Int)=(n:Int)):=by omega
 have hz3:(c:Int)<(n:Int)+1:=by omega
 have hw1:IntKind.i64.wrap ((i:Int)+1)=(i:Int)+1:=by rw[IntKind.wrap_i64];omega
 have hw2:IntKind.i64.wrap ((n:Int)+1)=(n:Int)+1:=by rw[IntKind.wrap_i64];omega
 have hw3:IntKind.i64.wrap ((n:Int)+1-(i:Int))=((n+1-i:Nat):Int):=by rw[IntKind.wrap_i64];omega
 have hb1:(0:Int)≤(i:Int)+1:=by omega
 have hin:i≤n:=by omega
 have htn:((i:Int)+1).toNat=i+1:=by omega
 have hb2:¬(cap=i+1):=by omega
 have hb3:(i:Int)≤(n:Int)+1:=by omega
 have hb4:¬(cap=i):=by omega
 have hb5:¬(c=i):=by omega
 go_enter Tryz.func127,Tryz.ntmps127
 go_wp2_with (at_builtin;first
  |refine Go.Lib.wpList_append_run _ rfl _ _ _ _ rfl _ _ rfl rfl _ _ (hap _) ?_
  |refine wpList_copy_runI _ rfl _ _ 55 55 rfl _ _ rfl rfl (hcp1 _ _) ?_)
 go_region_law_o (refine step_copy_runI rfl _ _ 55 55 rfl _ _ (by simp[Act.eval,Act.put]) (by simp[Act.eval,Act.put]) (hcp2 _ _ _) ?_)
 go_wp2
 go_ret
 exact⟨rfl,rfl⟩
theorem ins_end (b n c vb vc:Nat) (v':Value) (w w':World) (hap:∀ty,(Builtin.append_ #[55,55] ty #[.slice (some ⟨b,0,none⟩) n c,.slice (some ⟨vb,0,none⟩) 1 vc]).run Tryz.prog w=.ok v' w') :
  Calls Tryz.prog 127 #[.slice (some ⟨b,0,none⟩) n c,.int .i64 n,.slice (some ⟨vb,0,none⟩) 1 vc] w fun e W=>
   e=.returned v'∧W=w':=by
 have mixed:Tryz.prog.follows Departure.mixedOrders=true:=by kernel_rfl
 go_enter Tryz.func127,Tryz.ntmps127
 go_wp2_with (at_builtin;refine Go.Lib.wpList_append_run _ rfl _ _ _ _ rfl _ _ rfl rfl _ _ (hap _) ?_)
 all_goals(go_ret;exact⟨rfl,rfl⟩)
theorem ins_nil (vb vc:Nat) (v':Value) (w w':World) (hap:∀ty,(Builtin.append_ #[55,55] ty #[.slice none 0 0,.slice (some ⟨vb,0,none⟩) 1 vc]).run Tryz.prog w=.ok v' w') :
  Calls Tryz.prog 127 #[.slice none 0 0,.int .i64 (0:Nat),.slice (some ⟨vb,0,none⟩) 1 vc] w fun e W=>
   e=.returned v'∧W=w':=by
 have mixed:Tryz.prog.follows Departure.mixedOrders=true:=by kernel_rfl
 go_enter Tryz.func127,Tryz.ntmps127
 go_wp2_with (at_builtin;refine Go.Lib.wpList_append_run _ rfl _ _ _ _ rfl _ _ rfl rfl _ _ (hap _) ?_)
 all_goals(go_ret;exact⟨rfl,rfl⟩)
end Go.Proofs
namespace Go.Proofs
open Go.RowKit
set_option maxHeartbeats 4000000
set_option maxRecDepth 100000
theorem w_under55:Tryz.prog.underlying 55=some (.slice 59):=by kernel_rfl
theorem w_under3:Tryz.prog.underlying 3=some (.int .i64):=by kernel_rfl
theorem w_size59:∀w,(Go.sizeOf 59).run Tryz.prog w=.ok 3 w:=Tryz.sizeOf59
theorem overlaps_no (w:World) (vb b vc o lb cb:Nat) (vcur cur:Array Value) (hne:vb≠b) (hv:w.heap[vb]? = some (.cells vcur 59 (0,0))) (hb:w.heap[b]? = some (.cells cur 59 (0,0))) (hk:cur.size≠0) :
  (callFunc 163 #[.slice (some ⟨vb,0,none⟩) 1 vc,.slice (some ⟨b,o,none⟩) lb cb]).run Tryz.prog w=.ok (.value (.bool false)) w:=by
 rw[run_callFunc_extern Tryz.func163 (by kernel_rfl) (by kernel_rfl) (by kernel_rfl) (e:=Extern.SlicesOverlaps.overlaps #[55,55] #[4]) (by kernel_rfl),
  Lib.run_overlaps_apart w 55 4 59 w_under55 3 w_size59 ⟨vb,0,none⟩ ⟨b,o,none⟩ 1 vc lb cb hne 59 59 vcur.size cur.size (by simp[World.shape?,hv]) (by simp[World.shape?,hb]) hk (by simp[World.frozen?,hv]) (by simp[World.frozen?,hv])]
 rfl
theorem ins_list (cur xs vs:List Value) (a m:Nat) (hx:cur.take m=xs) (ha:a≤m) (hm:m+3≤cur.length) (hv:vs.length=3) (A1:List Value) (h1:A1=cur.take (a+3)++xs.drop a++cur.drop (a+3+(xs.drop a).length)) :
  A1.length=cur.length∧(A1.take a++vs++A1.drop (a+vs.length)).length=cur.length∧(A1.take a++vs++A1.drop (a+vs.length)).take (m+3)=xs.take a++vs++xs.drop a:=by
 have hxl:xs.length=m:=by rw[←hx,List.length_take];omega
 have hdl:(xs.drop a).length=m-a:=by rw[List.length_drop,hxl]
 have hl1:A1.length=cur.length:=by
  rw[h1]
  simp only[List.length_append,List.length_take,List.length_drop]
  omega
 have ht:A1.take a=xs.take a:=by
  rw[h1,List.append_assoc,List.take_append_of_le_length (by rw[List.length_take];omega),List.take_take,←hx,List.take_take]
  congr 1
  omega
 have hd:A1.drop (a+vs.length)=xs.drop a++cur.drop (a+3+(xs.drop a).length):=by
  rw[h1,hv,List.append_assoc,List.drop_append_of_le_length (by rw[List.length_take];omega),List.drop_eq_nil_of_le (by rw[List.length_take];omega),List.nil_append]
 refine⟨hl1,?_,?_⟩
 ·simp only[List.length_append,List.length_take,List.length_drop]
  omega
 ·rw[ht,hd,←List.append_assoc,List.take_left' (by rw[List.length_append,List.length_append,List.length_take,hv,hdl,hxl];omega)]
theorem ins_list2 (row xs vs:List Value) (a m:Nat) (hr:row.take a=xs.take a) (hxl:xs.length=m) (ha:a≤m) (hm:m+3≤row.length) (hv:vs.length=3) (R1:List Value) (h1:R1=row.take a++vs++row.drop (a+vs.length)) :
  R1.length=row.length∧(R1.take (a+3)++xs.drop a++R1.drop (a+3+(xs.drop a).length)).length=row.length∧(R1.take (a+3)++xs.drop a++R1.drop (a+3+(xs.drop a).length)).take (m+3)=xs.take a++vs++xs.drop a:=by
 have hdl:(xs.drop a).length=m-a:=by rw[List.length_drop,hxl]
 have hl1:R1.length=row.length:=by
  rw[h1]
  simp only[List.length_append,List.length_take,List.length_drop]
  omega
 have ht:R1.take (a+3)=xs.take a++vs:=by
  rw[h1,hr,List.take_left' (by rw[List.length_append,List.length_take,hv,hxl];omega)]
 refine⟨hl1,?_,?_⟩
 ·simp only[List.length_append,List.length_take,List.length_drop]
  omega
 ·rw[ht,List.take_left' (by rw[List.length_append,List.length_append,List.length_take,hv,hdl,hxl];omega)]
theorem insert_own (w:World) (e0:Option Nat×Nat) (n i:Nat) (xs:List Value) (hown:w.ownsRow 0 59 3 (Go.Sx.slVal e0 n) n xs) (h1:∀u∈xs,u.oneCell'=true) (vb vc:Nat) (vcur:Array Value) (hv:w.heap[vb]? = some (.cells vcur 59 (0,0)))
  (vs:List Value) (hvs:vcur.toList.take 3=vs) (hvl:vs.length=3) (h1v:∀u∈vs,u.oneCell'=true) (hne:e0.1≠some vb) (hi:i≤n) (hn:n≤100000) :
  Calls Tryz.prog 127 #[Go.Sx.slVal e0 n,.int .i64 i,.slice (some ⟨vb,0,none⟩) 1 vc] w fun e w'=>∃v',e=.returned v'∧w'.ownsRow 0 59 3 v' (n+1) (xs.take (i*3)++vs++xs.drop (i*3))∧w.grownBy w' e0.1∧v'≠.slice none 0 0∧(∀g,v'.ownBlock=some g→e0.1=some g∨g=w.heap.size)∧(∀g,v'.ownBlock=some g→g<w'.heap.size):=by
 obtain⟨i0,hi0,hz0,hzs,hzb⟩:=info_parts w_info59
 have hvcell:∀j u,vs[j]? = some u→w.cell? ((⟨vb,0,none⟩:Addr).add j)=some u:=fun j u hj=>by
  rw[Addr.add_lit,Nat.zero_add]
  rw[←hvs] at hj
  have hj3:j<3:=Classical.byContradiction fun g=>by rw[List.getElem?_take_eq_none (by omega)] at hj;cases hj
  rw[List.getElem?_take_of_lt hj3] at hj
  simp[World.cell?,hv,←Array.getElem?_toList,hj]
 have hvw:vb<w.heap.size:=(Array.getElem?_eq_some_iff.1 hv).1
 have hxl:xs.length=n*3:=hown.1
 have hcalls:∀v:Value,Calls Tryz.prog 127 #[v,.int .i64 i,.slice (some ⟨vb,0,none⟩) 1 vc] w (fun e W=>∃v' w',(e=.returned v'∧W=w')∧w'.ownsRow 0 59 3 v' (n+1) (xs.take (i*3)++vs++xs.drop (i*3))∧w.grownBy w' e0.1∧v'≠.slice none 0 0∧(∀g,v'.ownBlock=some g→e0.1=some g∨g=w.heap.size))→
   Calls Tryz.prog 127 #[v,.int .i64 i,.slice (some ⟨vb,0,none⟩) 1 vc] w fun e w'=>∃v',e=.returned v'∧w'.ownsRow 0 59 3 v' (n+1) (xs.take (i*3)++vs++xs.drop (i*3))∧w.grownBy w' e0.1∧v'≠.slice none 0 0∧(∀g,v'.ownBlock=some g→e0.1=some g∨g=w.heap.size)∧(∀g,v'.ownBlock=some g→g<w'.heap.size):=fun v h=>h.mono fun e W ⟨v',w',⟨h1,h2⟩,h3,h4,h5,h6⟩=>by
  subst h2
  exact⟨v',h1,h3,h4,h5,h6,fun g hg=>(h3.lt g hg).2⟩
 refine hcalls _ ?_
 by_cases hin:i=n
 ·subst hin
  have hd:xs.drop (i*3)=[]:=List.drop_eq_nil_of_le (by omega)
  have ht:xs.take (i*3)=xs:=List.take_of_length_le (by omega)
  rw[hd,ht,List.append_nil]
  have hown':w.ownsRow 0 59 i0.size (Go.Sx.slVal e0 i) i xs:=by rw[hzs];exact hown
  have hap:∀ty,∃v' w',(Builtin.append_ #[55,55] ty #[Go.Sx.slVal e0 i,.slice (some ⟨vb,0,none⟩) 1 vc]).run Tryz.prog w=.ok v' w'∧w'.ownsRow 0 59 i0.size v' (i+1) (xs++vs)∧w.grownBy w' (Go.Sx.slVal e0 i).ownBlock∧(v'=.slice none 0 0↔Go.Sx.slVal e0 i=.slice none 0 0∧1=0)∧(∀g,v'.ownBlock=some g→(Go.Sx.slVal e0 i).ownBlock=some g∨g=w.heap.size):=fun ty=>
   Go.Sx.run_append_ex w 55 ty 59 i0 _ w_under55 hi0 hz0 (by rw[hzs];rfl) (by omega) _ i xs hown' ⟨vb,0,none⟩ 1 vc vs (by rw[hzs];omega) hvcell h1v (by omega) (by rw[hzb];omega)
  -- the result does not hang on the type that the operation bears
  have hty:∀ty ty' v,Builtin.append_ #[55,55] ty v=Builtin.append_ #[55,55] ty' v:=fun _ _ _=>rfl
  obtain⟨v',w',g1,g2,g3,g4,g5⟩:=hap 55
  have g1':∀ty,(Builtin.append_ #[55,55] ty #[Go.Sx.slVal e0 i,.slice (some ⟨vb,0,none⟩) 1 vc]).run Tryz.prog w=.ok v' w':=fun ty=>by rw[hty ty 55];exact g1
  rw[hzs] at g2
  have hob:(Go.Sx.slVal e0 i).ownBlock=e0.1:=Go.Sx.slVal_own e0 i
  rw[hob] at g3 g5
  have hfin:∃v'' w'',(Ending.returned v'=.returned v''∧w'=w'')∧w''.ownsRow 0 59 3 v'' (i+1) (xs++vs)∧w.grownBy w'' e0.1∧v''≠.slice none 0 0∧(∀g,v''.ownBlock=some g→e0.1=some g∨g=w.heap.size):=
   ⟨v',w',⟨rfl,rfl⟩,g2,g3,fun h=>by have:=(g4.1 h).2;omega,g5⟩
  obtain⟨bb,cc⟩:=e0
  cases bb with
  |none=>
   rcases hown.2 with⟨_,h0⟩|⟨_,_,_,h0,_⟩
   ·subst h0
    exact(ins_nil vb vc v' w w' g1').mono fun e W ⟨ha,hb⟩=>by subst ha hb;exact hfin
   ·cases h0
  |some b=>
   exact(ins_end b i cc vb vc v' w w' g1').mono fun e W ⟨ha,hb⟩=>by subst ha hb;exact hfin
 ·have hin:i<n:=by omega
  obtain⟨bb,c⟩:=e0
  cases bb with
  |none=>
   rcases hown.2 with⟨_,h0⟩|⟨_,_,_,h0,_⟩
   ·omega
   ·cases h0
  |some b=>
  rcases hown.2 with⟨h0,_⟩|⟨b',c',cur,h0,_,hb,hnc,hcm,hcur,htk⟩
  ·cases h0
  cases h0
  have hbv:vb≠b:=fun e=>hne (by rw[e])
  have hbw:b<w.heap.size:=(Array.getElem?_eq_some_iff.1 hb).1
  have hcl:cur.toList.length=c*3:=by simpa using hcur
  have hdl:(xs.drop (i*3)).length=n*3-i*3:=by rw[List.length_drop,hxl]
  have hcm':c≤9223372036854775807:=by unfold maxLen at hcm;omega
  have hsrc:∀(W:World),W.heap[b]? = w.heap[b]?→∀j u,(xs.drop (i*3))[j]? = some u→W.cell? ((⟨b,i*3,none⟩:Addr).add j)=some u:=fun W hW j u hj=>by
   rw[Addr.add_lit]
   rw[List.getElem?_drop,←htk] at hj
   have hj3:i*3+j<n*3:=Classical.byContradiction fun g=>by rw[List.getElem?_take_eq_none (by omega)] at hj;cases hj
   rw[List.getElem?_take_of_lt hj3] at hj
   simp[World.cell?,hW,hb,←Array.getElem?_toList,hj]
  have h1d:∀u∈xs.drop (i*3),u.oneCell'=true:=fun u hu=>h1 u (List.mem_of_mem_drop hu)
  by_cases hroom:n+1≤c
  ·-- in place
   obtain⟨A1,hA1⟩:∃A1,A1=cur.toList.take (i*3+3)++xs.drop (i*3)++cur.toList.drop (i*3+3+(xs.drop (i*3)).length):=⟨_,rfl⟩
   obtain⟨l1,l2,l3⟩:=ins_list cur.toList xs vs (i*3) (n*3) htk (by omega) (by omega) hvl A1 hA1
   have e3:(i+1)*3=i*3+3:=by omega
   have hcp1:∀ty dc sc,(Builtin.copy_ #[55,55] ty #[.slice (some ⟨b,(i+1)*3,none⟩) (n-i) dc,.slice (some ⟨b,i*3,none⟩) (n+1-i) sc]).run Tryz.prog w.drew=.ok (goInt ((n-i:Nat):Int)) (w.drew.setRow b A1.toArray):=fun ty dc sc=>by
    have:=Go.Sx.run_copy_rowN (P:=Tryz.prog) w.drew 55 55 ty 59 i0 b ((i+1)*3) (n-i) dc ⟨b,i*3,none⟩ (n+1-i) sc cur 59 (xs.drop (i*3)) w_under55 hi0 hb (by rw[hdl,hzs,Nat.min_eq_right (by omega)];omega) (hsrc w.drew rfl) (by rw[hdl];omega) h1d
    rw[Nat.min_eq_right (by omega),e3,←hA1] at this
    rw[e3]
    exact this
   have hb1:(w.drew.setRow b A1.toArray).heap[b]? = some (.cells A1.toArray 59 (0,0)):=setRow_heap w.drew b cur A1.toArray 59 (0,0) hb
   have hcp2:∀ty dc,(Builtin.copy_ #[55,55] ty #[.slice (some ⟨b,i*3,none⟩) (n+1-i) dc,.slice (some ⟨vb,0,none⟩) 1 vc]).run Tryz.prog (w.drew.setRow b A1.toArray)=.ok (goInt 1) ((w.drew.setRow b A1.toArray).setRow b (A1.take (i*3)++vs++A1.drop (i*3+vs.length)).toArray):=fun ty dc=>by
    have:=Go.Sx.run_copy_rowN (P:=Tryz.prog) (w.drew.setRow b A1.toArray) 55 55 ty 59 i0 b (i*3) (n+1-i) dc ⟨vb,0,none⟩ 1 vc A1.toArray 59 vs w_under55 hi0 hb1 (by rw[hvl,hzs,Nat.min_eq_left (by omega)]) (fun j u hj=>by
     rw[cell_setRow_other _ _ _ _ (by rw[Addr.add_lit];exact hbv)]
     exact hvcell j u hj) (by rw[List.size_toArray];omega) h1v
    rw[Nat.min_eq_left (by omega)] at this
    exact this
   refine(ins_shift b n c i vb vc w hin hroom (by omega) hcm' _ _ (fun lb cb=>overlaps_no w vb b vc _ lb cb vcur cur hbv hv hb (by omega)) hcp1 hcp2).mono ?_
   rintro e W ⟨rfl,rfl⟩
   refine⟨_,_,⟨rfl,rfl⟩,⟨?_,.inr ⟨b,c,_,rfl,Nat.zero_le _,setRow_heap _ b _ _ 59 (0,0) hb1,hroom,hcm,?_,?_⟩⟩,⟨rfl,rfl,rfl,by simp,fun k hk hkb=>?_⟩,by simp,fun g hg=>.inl ?_⟩
   ·rw[List.length_append,List.length_append,List.length_take,hvl,hdl,hxl];omega
   ·rw[List.size_toArray,l2];exact hcl
   ·rw[show(n+1)*3=n*3+3 by omega];exact l3
   ·have hkb':k≠b:=fun e=>hkb (by rw[e])
    rw[setRow_other _ _ _ _ hkb',setRow_other _ _ _ _ hkb']
    rfl
   ·simpa [Value.ownBlock] using hg
  ·-- a new block
   have hz3:c<n+1:=by omega
   have hold:(Builtin.firstCells i0.size i (.slice (some ⟨b,0,none⟩) i c)).run Tryz.prog w.drew=.ok (xs.take (i*3)).toArray w.drew:=by
    rw[hzs]
    exact run_firstCells_some w.drew 3 i ⟨b,0,none⟩ i c (xs.take (i*3)) (by rw[List.length_take];omega) (fun j u hj=>by
     rw[Addr.add_lit,Nat.zero_add]
     have hj3:j<i*3:=Classical.byContradiction fun g=>by rw[List.getElem?_take_eq_none (by omega)] at hj;cases hj
     rw[List.getElem?_take_of_lt hj3,←htk,List.getElem?_take_of_lt (by omega)] at hj
     show w.cell? _=_
     simp[World.cell?,hb,←Array.getElem?_toList,hj])
   have hik:i+(n+1-i)=n+1:=by omega
   have hge:=grownCap_ge w (n+1) c 59
   have hle:=grownCap_le_maxLen w (n+1) c 59 (by unfold maxLen;omega)
   have hap0:=fun ty=>Lib.run_append_grow_zeros w 55 3 ty 59 i0 _ .i64 .i64 w_under55 w_under3 hi0 hz0 (some ⟨b,0,none⟩) i c (xs.take (i*3)) hold (n+1-i) (by omega) (by omega) (by omega) (by omega) (by rw[hzb];omega) (by rw[hzb,hik];exact growslice_fits hz3 (by omega))
   rw[hik] at hap0
   generalize hG:grownCap w (n+1) c 59=G at *
   obtain⟨R0,hR0⟩:∃R0:Array Value,R0=(xs.take (i*3)).toArray++Builtin.zeroCells (Value.agg #[.int .i64 0,.int .i64 0,.int .i64 0]).cells (n+1-i)++Builtin.zeroCells (Value.agg #[.int .i64 0,.int .i64 0,.int .i64 0]).cells (G-(n+1)):=⟨_,rfl⟩
   rw[←hR0] at hap0
   have hz3s:(Value.agg #[.int .i64 0,.int .i64 0,.int .i64 0]).cells.size=3:=rfl
   have hR0s:R0.size=G*3:=by
    rw[hR0,Array.size_append,Array.size_append,size_zeroCells,size_zeroCells,hz3s,List.size_toArray,List.length_take]
    omega
   have hR0t:R0.toList.take (i*3)=xs.take (i*3):=by
    rw[hR0,Array.toList_append,Array.toList_append,List.append_assoc]
    exact List.take_left' (by rw[List.length_take];omega)
   obtain⟨R1,hR1⟩:∃R1,R1=R0.toList.take (i*3)++vs++R0.toList.drop (i*3+vs.length):=⟨_,rfl⟩
   obtain⟨l1,l2,l3⟩:=ins_list2 R0.toList xs vs (i*3) (n*3) hR0t hxl (by omega) (by rw[Array.length_toList];omega) hvl R1 hR1
   have hR0l:R0.toList.length=G*3:=by rw[Array.length_toList];exact hR0s
   rw[hR0l] at l1 l2
   have e3:(i+1)*3=i*3+3:=by omega
   obtain⟨W0,hW0⟩:∃W0,W0=w.drew.alloc (.cells R0 59):=⟨_,rfl⟩
   rw[←hW0] at hap0
   have hb0:W0.heap[w.heap.size]? = some (.cells R0 59 (0,0)):=by rw[hW0];exact heap_alloc_new w.drew _
   have hold0:∀k,k<w.heap.size→W0.heap[k]? = w.heap[k]?:=fun k hk=>by rw[hW0];exact heap_alloc_old w.drew _ hk
   have hcp1:∀ty dc,(Builtin.copy_ #[55,55] ty #[.slice (some ⟨w.heap.size,i*3,none⟩) (n+1-i) dc,.slice (some ⟨vb,0,none⟩) 1 vc]).run Tryz.prog W0=.ok (goInt 1) (W0.setRow w.heap.size R1.toArray):=fun ty dc=>by
    have:=Go.Sx.run_copy_rowN (P:=Tryz.prog) W0 55 55 ty 59 i0 w.heap.size (i*3) (n+1-i) dc ⟨vb,0,none⟩ 1 vc R0 59 vs w_under55 hi0 hb0 (by rw[hvl,hzs,Nat.min_eq_left (by omega)]) (fun j u hj=>by
     have:=hvcell j u hj
     rw[Addr.add_lit] at this ⊢
     rw[←this]
     simp[World.cell?,hold0 vb hvw]) (by rw[hR0s];omega) h1v
    rw[Nat.min_eq_left (by omega),←hR1] at this
    exact this
   have hb1:(W0.setRow w.heap.size R1.toArray).heap[w.heap.size]? = some (.cells R1.toArray 59 (0,0)):=setRow_heap W0 _ _ _ 59 (0,0) hb0
   have hcp2:∀ty dc sc,(Builtin.copy_ #[55,55] ty #[.slice (some ⟨w.heap.size,(i+1)*3,none⟩) (n-i) dc,.slice (some ⟨b,i*3,none⟩) (n-i) sc]).run Tryz.prog (W0.setRow w.heap.size R1.toArray).drew=.ok (goInt ((n-i:Nat):Int)) ((W0.setRow w.heap.size R1.toArray).drew.setRow w.heap.size (R1.take (i*3+3)++xs.drop (i*3)++R1.drop (i*3+3+(xs.drop (i*3)).length)).toArray):=fun ty dc sc=>by
    have:=Go.Sx.run_copy_rowN (P:=Tryz.prog) (W0.setRow w.heap.size R1.toArray).drew 55 55 ty 59 i0 w.heap.size ((i+1)*3) (n-i) dc ⟨b,i*3,none⟩ (n-i) sc R1.toArray 59 (xs.drop (i*3)) w_under55 hi0 hb1 (by rw[hdl,hzs,Nat.min_self];omega) (hsrc _ (by
     show(W0.setRow w.heap.size R1.toArray).heap[b]? = _
     rw[setRow_other _ _ _ _ (by omega),hold0 b hbw])) (by rw[List.size_toArray,hdl];omega) h1d
    rw[Nat.min_self,e3] at this
    rw[e3]
    exact this
   refine(ins_grow b n c i vb vc w.heap.size G w hin hz3 hnc (by omega) hge _ _ _ hap0 hcp1 hcp2).mono ?_
   rintro e W ⟨rfl,rfl⟩
   refine⟨_,_,⟨rfl,rfl⟩,⟨?_,.inr ⟨w.heap.size,G,_,rfl,Nat.zero_le _,setRow_heap _ _ _ _ 59 (0,0) hb1,hge,hle,?_,?_⟩⟩,⟨?_,?_,?_,?_,fun k hk hkb=>?_⟩,by simp,fun g hg=>.inr ?_⟩
   ·rw[List.length_append,List.length_append,List.length_take,hvl,hdl,hxl];omega
   ·rw[List.size_toArray,l2]
   ·rw[show(n+1)*3=n*3+3 by omega];exact l3
   ·rw[hW0];rfl
   ·rw[hW0];rfl
   ·rw[hW0];rfl
   ·rw[setRow_size]
    show w.heap.size≤(W0.setRow w.heap.size R1.toArray).heap.size
    rw[setRow_size,hW0]
    simp[World.alloc]
   ·rw[setRow_other _ _ _ _ (by omega)]
    show(W0.setRow w.heap.size R1.toArray).heap[k]? = _
    rw[setRow_other _ _ _ _ (by omega)]
    exact hold0 k hk
   ·have:w.heap.size=g:=by simpa [Value.ownBlock] using hg
    exact this.symm
end Go.Proofs
namespace Go.Proofs
open Go Go.Sx
set_option maxHeartbeats 4000000
set_option maxRecDepth 100000
theorem seg_lo {xs vs:List Value} {i j:Nat} (hx:i*3≤xs.length) (h:j<i):((xs.take (i*3)++vs++xs.drop (i*3)).drop (j*3)).take 3=(xs.drop (j*3)).take 3:=by
 refine List.ext_getElem? fun k=>?_
 by_cases hk:k<3
 ·rw[List.getElem?_take_of_lt hk,List.getElem?_take_of_lt hk,List.getElem?_drop,List.getElem?_drop,List.append_assoc,List.getElem?_append_left (by rw[List.length_take];omega),List.getElem?_take_of_lt (by omega)]
 ·rw[List.getElem?_take_eq_none (by omega),List.getElem?_take_eq_none (by omega)]
theorem seg_at {xs vs:List Value} {i:Nat} (hx:i*3≤xs.length) (hv:vs.length=3):((xs.take (i*3)++vs++xs.drop (i*3)).drop (i*3)).take 3=vs:=by
 have hl:(xs.take (i*3)).length=i*3:=by rw[List.length_take];omega
 rw[List.append_assoc,List.drop_append_of_le_length (by omega),List.drop_eq_nil_of_le (by omega),List.nil_append,List.take_left' hv]
theorem seg_hi {xs vs:List Value} {i j:Nat} (hx:i*3≤xs.length) (hv:vs.length=3) (h:i<j):((xs.take (i*3)++vs++xs.drop (i*3)).drop (j*3)).take 3=(xs.drop ((j-1)*3)).take 3:=by
 have hl:(xs.take (i*3)).length=i*3:=by rw[List.length_take];omega
 refine List.ext_getElem? fun k=>?_
 by_cases hk:k<3
 ·rw[List.getElem?_take_of_lt hk,List.getElem?_take_of_lt hk,List.getElem?_drop,List.getElem?_drop,List.getElem?_append_right (by rw[List.length_append,hl,hv];omega),List.length_append,hl,hv,List.getElem?_drop]
  congr 1
  omega
 ·rw[List.getElem?_take_eq_none (by omega),List.getElem?_take_eq_none (by omega)]
def insF (i:Nat) (c:List V) (f:Nat→List V) (j:Nat):List V:=if j<i then f j else if j=i then c else f (j-1)
theorem callee_insert {n i:Nat} {f:Nat→List V} {c:List V} {nz nz2:Bool} (hi:i≤n) (hn:n≤100000) :
  Sx.Callee Tryz.prog 127 [.osl 0 n,.int .i64 i,.osl 1 1] [.row 59 3 n f nz,.row 59 3 1 (fun _=>c) nz2] (fun v H=>v=.osl 2 (n+1)∧H=[.gone,.row 59 3 1 (fun _=>c) nz2,.row 59 3 (n+1) (insF i c f) false]):=by
 unfold Sx.Callee
 refine⟨⟨_,Tryz.func127,by kernel_rfl,by kernel_rfl⟩,fun I η w vals hS hd=>?_⟩
 obtain⟨v0,r0,rfl,⟨e0,he0,hne0,rfl⟩,v1,r1,rfl,hv1,v2,r2,rfl,⟨e1,he1,hne1,rfl⟩,hr⟩:=hd
 have hr:r2=[]:=hr
 have hv1:v1=.int .i64 i:=hv1
 subst hr hv1
 obtain⟨xs,hown,h1,hnil,hden⟩:=hS.obj 0 e0 _ he0 rfl
 obtain⟨ys,hown1,h1y,_,hdeny⟩:=hS.obj 1 e1 _ he1 rfl
 obtain⟨b1,c1⟩:=e1
 cases b1 with
 |none=>exact absurd (hne1 rfl).1 (by omega)
 |some vb=>
 rcases hown1.2 with⟨h0,_⟩|⟨b',c',vcur,h0,_,hvb,_,_,_,htk⟩
 ·cases h0
 cases h0
 have hne:e0.1≠some vb:=fun e=>by
  have:=hS.apart 0 1 vb e0 _ _ _ he0 he1 rfl rfl (.inl ⟨trivial,e⟩) (.inl ⟨trivial,rfl⟩)
  omega
 have hyl:ys.length=3:=by have:=hown1.1;omega
 refine(insert_own w e0 n i xs hown h1 vb c1 vcur hvb ys (by simpa using htk) hyl h1y hne hi hn).mono ?_
 rintro e w' ⟨v',rfl,g2,g3,g4,g5,_⟩
 obtain⟨e',k1,k2,k3,k4,k5⟩:=a1x g2
 have hxl:xs.length=n*3:=hown.1
 obtain⟨s1,s2,s3⟩:=hS.renew [.gone,.row 59 3 1 (fun _=>c) nz2] rfl (fun j o hj hl=>by
  match j with
  |0=>cases hj;exact hl.elim
  |1=>exact hj
  |j+2=>simp at hj) e0.1 g3 (fun b hb=>by
  obtain⟨bb,cp⟩:=e0
  simp only at hb
  subst hb
  refine⟨own_mk he0 rfl trivial,?_⟩
  rintro⟨j,c2,o2,q1,q2,q3⟩
  match j with
  |0=>cases q2;exact(O.has_live q3).elim
  |1=>
   have:=hS.apart 0 1 b _ c2 _ o2 he0 q1 rfl q2 (.inl ⟨trivial,rfl⟩) q3
   omega
  |j+2=>simp at q2) e' (.row 59 3 (n+1) (insF i c f) false) (fun b c2 hb=>by
  refine⟨?_,k4 b c2 hb⟩
  rw[k1,slVal_own] at g5
  exact g5 b (by rw[hb])) (fun m0=>by
  refine⟨xs.take (i*3)++ys++xs.drop (i*3),by rw[←k1];exact g2,fun u hu=>?_,?_,fun q hq=>?_⟩
  ·rcases List.mem_append.1 hu with hu|hu
   ·rcases List.mem_append.1 hu with hu|hu
    ·exact h1 u (List.mem_of_mem_take hu)
    ·exact h1y u hu
   ·exact h1 u (List.mem_of_mem_drop hu)
  ·rw[k2]
   exact⟨fun hv=>(g4 hv).elim,fun hv=>by cases hv.1⟩
  ·refine DenL.mono m0.nil _ _ ?_
   unfold insF
   by_cases hqi:q<i
   ·rw[if_pos hqi,seg_lo (by omega) hqi]
    exact hden q (by omega)
   ·rw[if_neg hqi]
    by_cases hqe:q=i
    ·subst hqe
     rw[if_pos rfl,seg_at (by omega) hyl]
     have:=hdeny 0 (by omega)
     rw[Nat.zero_mul,List.drop_zero,List.take_of_length_le (by omega)] at this
     exact this
    ·rw[if_neg hqe,seg_hi (by omega) hyl (by omega)]
     exact hden (q-1) (by omega))
 have hlen:η.length=2:=hS.len
 exact⟨I,η++[e'],_,.osl 2 (n+1),v',rfl,⟨rfl,rfl⟩,s1,⟨e',by rw[List.getElem?_append_right (by omega),hlen];rfl,k5,k1⟩,s2,s3⟩
end Go.Proofs
namespace Go.Proofs
open Go Go.Sx
set_option maxRecDepth 100000
set_option maxHeartbeats 40000000
open Ca (Wt ltK)
def wtC (w:Wt):List V:=[.int .i64 (w.1:Nat),.int .i64 (w.2.1:Nat),.int .i64 w.2.2]
def wt0:Wt:=(0,0,0)
def WtS (w:Wt):Prop:=w.1≤1000∧w.2.1≤1000
def cmpW (a b:Wt):Int:=if(a.1:Int)≠b.1 then(a.1:Int)-b.1 else(a.2.1:Int)-b.2.1
theorem cmpW_lt (a b:Wt):cmpW a b<0↔ltK a b:=by unfold cmpW ltK;split<;>omega
theorem cmpW_eq (a b:Wt):cmpW a b=0↔a.1=b.1∧a.2.1=b.2.1:=by unfold cmpW;split<;>omega
theorem cmp126 (a b:Wt) (ha:WtS a) (hb:WtS b):a0h Tryz.prog 126 false [.agg (wtC a),.agg (wtC b)] (·=.int .i64 (cmpW a b)):=by
 obtain⟨h1,h2⟩:=ha
 obtain⟨h3,h4⟩:=hb
 refine a0a Tryz.E_ok Tryz.func126 rfl (by kernel_rfl) ?_
 (repeat' ((conv=>whnf);first|(with_reducible first|apply spl|apply spl'|refine iJ ?_)<;>intro hc<;>try(exfalso;omega)|refine vcq ?_|refine dr 16 ?_|refine dr 8 ?_));all_goals(try conv=>whnf);try exact trivial
 ·refine⟨_,rfl,?_⟩
  (repeat' ((conv=>whnf);first|(with_reducible first|apply spl|apply spl'|refine iJ ?_)<;>intro hc<;>try(exfalso;omega)|refine vcq ?_|refine dr 16 ?_|refine dr 8 ?_));all_goals(try conv=>whnf);try exact trivial
  unfold cmpW
  rw[if_pos hc]
  exact⟨rfl,trivial⟩
 ·refine⟨_,rfl,?_⟩
  (repeat' ((conv=>whnf);first|(with_reducible first|apply spl|apply spl'|refine iJ ?_)<;>intro hc<;>try(exfalso;omega)|refine vcq ?_|refine dr 16 ?_|refine dr 8 ?_));all_goals(try conv=>whnf);try exact trivial
  unfold cmpW
  rw[if_neg hc]
  exact⟨rfl,trivial⟩
theorem bsearch125 (W:List Wt) (hW:W.length≤1000) (hs:∀w∈W,WtS w) (hp:W.Pairwise ltK) (w:Wt) (hw:WtS w):a0h Tryz.prog 125 false [.sl 3 W.length (a0e wtC wt0 W),.agg (wtC w),.fn (.func 126) [] []]
  (fun r=>∃i:Nat,i≤W.length∧(∀k,k<i→ltK (W.getD k wt0) w)∧(∀k,i≤k→k<W.length→¬ltK (W.getD k wt0) w)∧r=.tup [.int .i64 i,.prop (i<W.length∧cmpW (W.getD i wt0) w=0) (Classical.propDecidable _)]):=by
 have hg:∀k,k<W.length→W.getD k wt0=W[k]!∧WtS (W.getD k wt0):=fun k hk=>by
  have e:W.getD k wt0=W[k]:=by rw[List.getD_eq_getElem?_getD,List.getElem?_eq_getElem hk];rfl
  exact⟨by rw[e];simp[hk],by rw[e];exact hs _ (List.getElem_mem hk)⟩
 have hup:∀a b,a<b→b<W.length→ltK (W.getD a wt0) (W.getD b wt0):=fun a b hab hb=>by
  rw[List.pairwise_iff_getElem] at hp
  rw[List.getD_eq_getElem?_getD,List.getElem?_eq_getElem (by omega),List.getD_eq_getElem?_getD,List.getElem?_eq_getElem hb]
  exact hp a b (by omega) hb hab
 refine a0a Tryz.E_ok Tryz.func125 rfl (by kernel_rfl) ?_
 (repeat' ((conv=>whnf);first|(with_reducible first|apply spl|apply spl'|refine iJ ?_)<;>intro hc<;>try(exfalso;omega)|refine vcq ?_|refine dr 8 ?_|refine dr 16 ?_));all_goals(try conv=>whnf);try exact trivial
 refine⟨Nat×Nat,fun i=>i.1≤i.2∧i.2≤W.length∧(∀k,k<i.1→ltK (W.getD k wt0) w)∧(∀k,i.2≤k→k<W.length→¬ltK (W.getD k wt0) w),fun i=>i.2-i.1,fun i=>[(9,.int .i64 (i.1:Nat)),(10,.int .i64 (i.2:Nat)),(11,.any)],fun _=>[],fun _=>[],(0,W.length),⟨⟨by dsimp only;omega,by dsimp only;omega,fun k hk=>by dsimp only at hk;omega,fun k hk hk2=>by dsimp only at hk;omega⟩,some [some 0],?_⟩,?_⟩
 ·(repeat' ((conv=>whnf);first|(with_reducible first|apply spl|apply spl'|refine iJ ?_)<;>intro hc<;>try(exfalso;omega)|refine vcq ?_|refine dr 8 ?_|refine dr 16 ?_));all_goals(try conv=>whnf);try exact trivial
 ·rintro⟨i,j⟩ ⟨h1,h2,h3,h4⟩
  dsimp only at h1 h2 h3 h4 ⊢
  have hfd:((i:Int)+(j:Int)).fdiv (2 ^ (1:Int).toNat)=(((i+j) / 2:Nat):Int):=by
   rw[show(2:Int) ^ (1:Int).toNat=2 from rfl,Int.fdiv_eq_ediv_of_nonneg _ (by omega)]
   omega
  have hth:(((i+j) / 2:Nat):Int).toNat=(i+j) / 2:=Int.toNat_natCast _
  have hti:(i:Int).toNat=i:=Int.toNat_natCast i
  (repeat' ((conv=>whnf);first|(with_reducible first|apply spl|apply spl'|refine iJ ?_)<;>intro hc<;>try(exfalso;omega)|refine vcq ?_|refine dr 8 ?_|refine dr 16 ?_));all_goals(try conv=>whnf);try exact trivial
  ·have hij:i<j:=by omega
   refine⟨⟨by show(0:Int)≤(i:Int)+(j:Int);omega,by show(i:Int)+(j:Int)≤18446744073709551615;omega⟩,?_⟩
   (repeat' ((conv=>whnf);first|(with_reducible first|apply spl|apply spl'|refine iJ ?_)<;>intro hc<;>try(exfalso;omega)|refine vcq ?_|refine dr 8 ?_|refine dr 16 ?_));all_goals(try conv=>whnf);try exact trivial
   refine⟨⟨by omega,by decide⟩,?_⟩
   rw[hfd]
   (repeat' ((conv=>whnf);first|(with_reducible first|apply spl|apply spl'|refine iJ ?_)<;>intro hc<;>try(exfalso;omega)|refine vcq ?_|refine dr 8 ?_|refine dr 16 ?_));all_goals(try conv=>whnf);try exact trivial
   rw[hth]
   generalize hq:(i+j) / 2=q at *
   have hqi:i≤q∧q<j:=by omega
   refine a0c (cmp126 (W.getD q wt0) w (hg q (by omega)).2 hw) rfl ?_
   (repeat' ((conv=>whnf);first|(with_reducible first|apply spl|apply spl'|refine iJ ?_)<;>intro hc<;>try(exfalso;omega)|refine vcq ?_|refine dr 8 ?_|refine dr 16 ?_));all_goals(try conv=>whnf);try exact trivial
   ·have hl:=(cmpW_lt _ _).1 hc
    refine⟨(q+1,j),⟨⟨by dsimp only;omega,h2,fun k hk=>?_,h4⟩,by dsimp only;omega⟩,some [some 0],?_⟩
    ·dsimp only at hk
     rcases Nat.lt_or_eq_of_le (show k≤q by omega) with g|g
     ·exact Ca.ltK_trans (hup k q g (by omega)) hl
     ·rw[g];exact hl
    ·(repeat' ((conv=>whnf);first|(with_reducible first|apply spl|apply spl'|refine iJ ?_)<;>intro hc<;>try(exfalso;omega)|refine vcq ?_|refine dr 8 ?_|refine dr 16 ?_));all_goals(try conv=>whnf);try exact trivial
   ·have hl:=fun g=>hc ((cmpW_lt (W.getD q wt0) w).2 g)
    refine⟨(i,q),⟨⟨by dsimp only;omega,by dsimp only;omega,h3,fun k hk hk2=>?_⟩,by dsimp only;omega⟩,some [some 0],?_⟩
    ·dsimp only at hk
     rcases Nat.lt_or_eq_of_le hk with g|g
     ·exact fun g2=>hl (Ca.ltK_trans (hup q k g hk2) g2)
     ·rw[←g];exact hl
    ·(repeat' ((conv=>whnf);first|(with_reducible first|apply spl|apply spl'|refine iJ ?_)<;>intro hc<;>try(exfalso;omega)|refine vcq ?_|refine dr 8 ?_|refine dr 16 ?_));all_goals(try conv=>whnf);try exact trivial
  ·have hij:i=j:=by omega
   subst hij
   rw[hti]
   refine a0g (fun h=>cmp126 (W.getD i wt0) w (hg i (by omega)).2 hw) rfl ?_
   (repeat' ((conv=>whnf);first|(with_reducible first|apply spl|apply spl'|refine iJ ?_)<;>intro hc<;>try(exfalso;omega)|refine vcq ?_|refine dr 8 ?_|refine dr 16 ?_));all_goals(try conv=>whnf);try exact trivial
   refine⟨_,⟨i,h2,h3,h4,rfl⟩,?_⟩
   (repeat' ((conv=>whnf);first|(with_reducible first|apply spl|apply spl'|refine iJ ?_)<;>intro hc<;>try(exfalso;omega)|refine vcq ?_|refine dr 8 ?_|refine dr 16 ?_));all_goals(try conv=>whnf);try exact trivial
end Go.Proofs
namespace Go.Proofs
open Go Go.Sx
set_option maxHeartbeats 1000000
theorem IsOrd.perm {n:Nat} {o:List Nat} (h:IsOrd n o):o.Perm (List.range n):=
 (List.perm_ext_iff_of_nodup h.nd List.nodup_range).2 fun m=>⟨fun hm=>List.mem_range.2 (h.lt m hm),fun hm=>by
  obtain⟨i,hi,rfl⟩:=h.mem (List.mem_range.1 hm)
  rw[a0r hi]
  exact List.getElem_mem hi⟩
theorem idxOf_getD {n:Nat} {o:List Nat} (h:IsOrd n o) {i:Nat} (hi:i<o.length):o.idxOf (o.getD i 0)=i:=by
 have hm:o.getD i 0∈o:=by rw[a0r hi];exact List.getElem_mem hi
 have h1:=List.idxOf_lt_length_of_mem hm
 refine h.inj h1 hi ?_
 rw[a0r h1,List.getElem_idxOf]
namespace Qu
def n (q:Qu):Nat:=q.rq.length
def od (q:Qu) (r:Nat):Prop:=(q.req r).od=true
noncomputable def all (q:Qu) (p:Int):List (List Nat):=allQ q.n p.toNat q.od
def isLate (q:Qu) (o:List Nat) (r:Nat):Prop:=0≤(q.req r).du∧(q.req r).du<q.endOf true o r
instance (q:Qu) (o:List Nat) (r:Nat):Decidable (q.isLate o r):=inferInstanceAs (Decidable (_∧_))
def lateTo (q:Qu) (o:List Nat):Nat→Int
 |0=>0
 |k+1=>lateTo q o k+if q.isLate o k then 1 else 0
def lateC (q:Qu) (o:List Nat):Int:=q.lateTo o q.n
def endC (q:Qu) (o:List Nat):Int:=(q.stQ true o o.length).2
theorem endOf_at {q:Qu} (hi:Bool) {o:List Nat} (h:IsOrd q.n o) {i:Nat} (hl:i<o.length):q.endOf hi o (o.getD i 0)=(q.stQ hi o (i+1)).2:=by
 unfold endOf
 rw[if_pos (by rw[a0r hl];exact List.getElem_mem hl),idxOf_getD h hl]
def stepB (q:Qu) (s:List Nat×Int×Int) (o:List Nat):List Nat×Int×Int:=
 if q.lateC o<s.2.1∨q.lateC o=s.2.1∧q.endC o<s.2.2 then(o,q.lateC o,q.endC o) else s
def foldB (q:Qu) (s:List Nat×Int×Int) (L:List (List Nat)):List Nat×Int×Int:=L.foldl q.stepB s
noncomputable def best (q:Qu) (p:Int):List Nat×Int×Int:=q.foldB ([],q.n+1,0) (q.all p)
end Qu
end Go.Proofs
namespace Go.Proofs
open Go Go.Sx
set_option maxRecDepth 100000
set_option maxHeartbeats 4000000
def zC (z:Int×Int):List V:=[.int .i64 z.1,.int .i64 z.2]
namespace Dk
def c (d:Dk):List V:=[.int .i64 d.H,.int .i64 d.T,.sl 2 d.Z.length (a0e zC (0,0) d.Z),.int .i64 d.hk,.int .i64 d.ck,.int .i64 d.hs.1,.int .i64 d.hs.2,.int .i64 d.cs.1,.int .i64 d.cs.2]
def v (d:Dk):V:=.agg d.c
open Classical in
noncomputable def chk (d:Dk):Int:=if d.Ok then 0 else 10
theorem chk_ok {d:Dk} (h:d.chk=0):d.Ok:=by unfold chk at h;split at h;assumption;omega
theorem chk_of {d:Dk} (h:d.Ok):d.chk=0:=if_pos h
theorem chk_no {d:Dk} (h:¬d.Ok):d.chk=10:=if_neg h
end Dk
theorem a2r (n x y:Int):a0h Tryz.prog 98 false [.int .i64 n,.int .i64 x,.int .i64 y] (·=.prop (x≤n∧n≤y) inferInstance):=by
 refine a0a Tryz.E_ok Tryz.func98 rfl (by kernel_rfl) ?_
 (repeat' ((conv=>whnf);first|(with_reducible first|apply spl|apply spl'|refine iJ ?_)<;>intro hc<;>try(exfalso;omega)|refine vcq ?_|fail));all_goals((try conv=>whnf);try exact trivial);(all_goals(try(refine⟨_,rfl,?_⟩;(repeat' ((conv=>whnf);first|(with_reducible first|apply spl|apply spl'|refine iJ ?_)<;>intro hc<;>try(exfalso;omega)|refine vcq ?_|fail));all_goals((try conv=>whnf);try exact trivial))))
theorem within27 (n x y:Int):a0h Tryz.prog 109 false [.int .i64 n,.int .i64 x,.int .i64 y] (·=.prop (x≤n∧n≤y) inferInstance):=by
 refine a0a Tryz.E_ok Tryz.func109 rfl (by kernel_rfl) ?_
 (repeat' ((conv=>whnf);first|(with_reducible first|apply spl|apply spl'|refine iJ ?_)<;>intro hc<;>try(exfalso;omega)|refine vcq ?_|fail));all_goals((try conv=>whnf);try exact trivial);(all_goals(try(refine⟨_,rfl,?_⟩;(repeat' ((conv=>whnf);first|(with_reducible first|apply spl|apply spl'|refine iJ ?_)<;>intro hc<;>try(exfalso;omega)|refine vcq ?_|fail));all_goals((try conv=>whnf);try exact trivial))))
theorem in80 (n x y:Int):a0h Tryz.prog 121 false [.int .i64 n,.int .i64 x,.int .i64 y] (·=.prop (x≤n∧n≤y) inferInstance):=by
 refine a0a Tryz.E_ok Tryz.func121 rfl (by kernel_rfl) ?_
 (repeat' ((conv=>whnf);first|(with_reducible first|apply spl|apply spl'|refine iJ ?_)<;>intro hc<;>try(exfalso;omega)|refine vcq ?_|fail));all_goals((try conv=>whnf);try exact trivial);(all_goals(try(refine⟨_,rfl,?_⟩;(repeat' ((conv=>whnf);first|(with_reducible first|apply spl|apply spl'|refine iJ ?_)<;>intro hc<;>try(exfalso;omega)|refine vcq ?_|fail));all_goals((try conv=>whnf);try exact trivial))))
theorem span79 (s:Int×Int):a0h Tryz.prog 120 false [.agg [.int .i64 s.1,.int .i64 s.2]] (·=.prop (Dk.SpanOk s) (inferInstanceAs (Decidable (_∧_∧_)))):=by
 refine a0a Tryz.E_ok Tryz.func120 rfl (by kernel_rfl) ?_
 unfold Dk.SpanOk
 (repeat' ((conv=>whnf);first|(with_reducible first|apply spl|apply spl'|refine iJ ?_)<;>intro hc<;>try(exfalso;omega)|refine vcq ?_|fail));all_goals(try conv=>whnf);try exact trivial
 refine⟨_,rfl,?_⟩
 (repeat' ((conv=>whnf);first|(with_reducible first|apply spl|apply spl'|refine iJ ?_)<;>intro hc<;>try(exfalso;omega)|refine vcq ?_|fail));all_goals(try conv=>whnf);try exact trivial
theorem Dk.zat {d:Dk} (h:d.Ok) {i:Nat} (hi:i<d.Z.length):(1≤(d.Z.getD i (0,0)).1∧(d.Z.getD i (0,0)).1≤20)∧(1≤(d.Z.getD i (0,0)).2∧(d.Z.getD i (0,0)).2≤16)∧d.T % (d.Z.getD i (0,0)).2=0:=Dk.zone_at h hi
theorem Check37 (d:Dk) (hl:d.Z.length≤1000000):a0h Tryz.prog 64 false [d.v] (·=.int .i64 d.chk):=by
 refine a0a Tryz.E_ok Tryz.func64 rfl (by kernel_rfl) ?_
 (repeat' ((conv=>whnf);first|(with_reducible first|apply spl|apply spl'|refine iJ ?_)<;>intro hc<;>try(exfalso;omega)|refine vcq ?_|fail));all_goals((try conv=>whnf);try exact trivial);(repeat' ((first|(refine a0b (a2r _ _ _) rfl ?_;rintro _ rfl)|(refine a0c (a2r _ _ _) rfl ?_)|(refine a0g (fun _=>a2r _ _ _) rfl ?_));(repeat' ((conv=>whnf);first|(with_reducible first|apply spl|apply spl'|refine iJ ?_)<;>intro hc<;>try(exfalso;omega)|refine vcq ?_|fail));all_goals((try conv=>whnf);try exact trivial)))
 ·rw[Dk.chk_no (fun h=>by have:=h.ck;omega)]
  refine⟨_,rfl,?_⟩
  (repeat' ((conv=>whnf);first|(with_reducible first|apply spl|apply spl'|refine iJ ?_)<;>intro hc<;>try(exfalso;omega)|refine vcq ?_|fail));all_goals(try conv=>whnf);try exact trivial
 ·refine⟨Nat,fun i=>i≤d.Z.length∧∀j,j<i→(1≤(d.Z.getD j (0,0)).1∧(d.Z.getD j (0,0)).1≤20)∧(1≤(d.Z.getD j (0,0)).2∧(d.Z.getD j (0,0)).2≤16)∧d.T % (d.Z.getD j (0,0)).2=0,fun i=>d.Z.length-i,fun i=>[(3,.int .i64 (i:Nat))],fun _=>[],fun _=>[],0,⟨⟨by omega,fun j hj=>by omega⟩,none,?_⟩,?_⟩
  ·(repeat' ((conv=>whnf);first|(with_reducible first|apply spl|apply spl'|refine iJ ?_)<;>intro hc<;>try(exfalso;omega)|refine vcq ?_|fail));all_goals(try conv=>whnf);try exact trivial
  ·rintro i ⟨hi,hz⟩
   have hti:(i:Int).toNat=i:=Int.toNat_natCast i
   (repeat' ((conv=>whnf);first|(with_reducible first|apply spl|apply spl'|refine iJ ?_)<;>intro hc<;>try(exfalso;omega)|refine vcq ?_|fail));all_goals((try conv=>whnf);try exact trivial);(repeat' ((first|(refine a0b (a2r _ _ _) rfl ?_;rintro _ rfl)|(refine a0c (a2r _ _ _) rfl ?_)|(refine a0g (fun _=>a2r _ _ _) rfl ?_));(repeat' ((conv=>whnf);first|(with_reducible first|apply spl|apply spl'|refine iJ ?_)<;>intro hc<;>try(exfalso;omega)|refine vcq ?_|fail));all_goals((try conv=>whnf);try exact trivial)))
   ·rw[hti] at *
    have hi1:i<d.Z.length:=by omega
    rw[Dk.chk_no (fun h=>by have:=Dk.zat h hi1;rw[Int.tmod_eq_emod_of_nonneg (by omega)] at hc;omega)]
    refine⟨_,rfl,?_⟩
    (repeat' ((conv=>whnf);first|(with_reducible first|apply spl|apply spl'|refine iJ ?_)<;>intro hc<;>try(exfalso;omega)|refine vcq ?_|fail));all_goals(try conv=>whnf);try exact trivial
   ·rw[hti] at *
    have hi1:i<d.Z.length:=by omega
    refine⟨i+1,⟨⟨by omega,fun j hj=>?_⟩,by dsimp only;omega⟩,some [some 0],?_⟩
    ·rcases Nat.lt_or_eq_of_le (show j≤i by omega) with g|rfl
     ·exact hz j g
     ·rw[Int.tmod_eq_emod_of_nonneg (by omega)] at hc
      omega
    ·(repeat' ((conv=>whnf);first|(with_reducible first|apply spl|apply spl'|refine iJ ?_)<;>intro hc<;>try(exfalso;omega)|refine vcq ?_|fail));all_goals(try conv=>whnf);try exact trivial
   ·rw[hti] at *
    have hi1:i<d.Z.length:=by omega
    rw[Dk.chk_no (fun h=>by have:=Dk.zat h hi1;omega)]
    refine⟨_,rfl,?_⟩
    (repeat' ((conv=>whnf);first|(with_reducible first|apply spl|apply spl'|refine iJ ?_)<;>intro hc<;>try(exfalso;omega)|refine vcq ?_|fail));all_goals(try conv=>whnf);try exact trivial
   ·rw[Dk.chk_no (fun h=>by have:=h.hs;have:=h.cs;unfold Dk.SpanOk at *;omega)]
    refine⟨_,rfl,?_⟩
    (repeat' ((conv=>whnf);first|(with_reducible first|apply spl|apply spl'|refine iJ ?_)<;>intro hc<;>try(exfalso;omega)|refine vcq ?_|fail));all_goals(try conv=>whnf);try exact trivial
   ·have hie:i=d.Z.length:=by omega
    subst hie
    rw[Dk.chk_of ⟨by omega,by omega,by omega,by omega,by omega,by unfold Dk.SpanOk;omega,by unfold Dk.SpanOk;omega,fun z hzm=>by
     obtain⟨j,hj,rfl⟩:=List.getElem_of_mem hzm
     have:=hz j hj
     rwa [show d.Z.getD j (0,0)=d.Z[j] by simp[List.getD_eq_getElem?_getD,hj]] at this⟩]
    refine⟨_,rfl,?_⟩
    (repeat' ((conv=>whnf);first|(with_reducible first|apply spl|apply spl'|refine iJ ?_)<;>intro hc<;>try(exfalso;omega)|refine vcq ?_|fail));all_goals(try conv=>whnf);try exact trivial
 ·rw[Dk.chk_no (fun h=>by have:=h.hk;omega)]
  refine⟨_,rfl,?_⟩
  (repeat' ((conv=>whnf);first|(with_reducible first|apply spl|apply spl'|refine iJ ?_)<;>intro hc<;>try(exfalso;omega)|refine vcq ?_|fail));all_goals(try conv=>whnf);try exact trivial
 ·rw[Dk.chk_no (fun h=>by have:=h.z;omega)]
  refine⟨_,rfl,?_⟩
  (repeat' ((conv=>whnf);first|(with_reducible first|apply spl|apply spl'|refine iJ ?_)<;>intro hc<;>try(exfalso;omega)|refine vcq ?_|fail));all_goals(try conv=>whnf);try exact trivial
 ·rw[Dk.chk_no (fun h=>by have:=h.t;omega)]
  refine⟨_,rfl,?_⟩
  (repeat' ((conv=>whnf);first|(with_reducible first|apply spl|apply spl'|refine iJ ?_)<;>intro hc<;>try(exfalso;omega)|refine vcq ?_|fail));all_goals(try conv=>whnf);try exact trivial
 ·rw[Dk.chk_no (fun h=>by have:=h.h;omega)]
  refine⟨_,rfl,?_⟩
  (repeat' ((conv=>whnf);first|(with_reducible first|apply spl|apply spl'|refine iJ ?_)<;>intro hc<;>try(exfalso;omega)|refine vcq ?_|fail));all_goals(try conv=>whnf);try exact trivial
theorem Check63 (d:Dk) (hl:d.Z.length≤1000000):a0h Tryz.prog 83 false [d.v] (·=.int .i64 d.chk):=by
 refine a0a Tryz.E_ok Tryz.func83 rfl (by kernel_rfl) ?_
 (repeat' ((conv=>whnf);first|(with_reducible first|apply spl|apply spl'|refine iJ ?_)<;>intro hc<;>try(exfalso;omega)|refine vcq ?_|fail));all_goals((try conv=>whnf);try exact trivial);(repeat' ((first|(refine a0b (in80 _ _ _) rfl ?_;rintro _ rfl)|(refine a0c (in80 _ _ _) rfl ?_)|(refine a0g (fun _=>in80 _ _ _) rfl ?_)|(refine a0b (span79 d.hs) rfl ?_;rintro _ rfl)|(refine a0c (span79 d.hs) rfl ?_)|(refine a0g (fun _=>span79 d.hs) rfl ?_)|(refine a0b (span79 d.cs) rfl ?_;rintro _ rfl)|(refine a0c (span79 d.cs) rfl ?_)|(refine a0g (fun _=>span79 d.cs) rfl ?_));(repeat' ((conv=>whnf);first|(with_reducible first|apply spl|apply spl'|refine iJ ?_)<;>intro hc<;>try(exfalso;omega)|refine vcq ?_|fail));all_goals((try conv=>whnf);try exact trivial)))
 all_goals first
  |(exfalso;contradiction)
  |(rw[Dk.chk_no (fun h=>by have:=h.h;have:=h.t;have:=h.z;have:=h.hk;have:=h.ck;have:=h.hs;have:=h.cs;first|omega|contradiction)];refine⟨_,rfl,?_⟩;(repeat' ((conv=>whnf);first|(with_reducible first|apply spl|apply spl'|refine iJ ?_)<;>intro hc<;>try(exfalso;omega)|refine vcq ?_|fail));all_goals((try conv=>whnf);try exact trivial);done)
  |skip
 all_goals trace_state
 refine⟨Nat,fun i=>i≤d.Z.length∧∀j,j<i→(1≤(d.Z.getD j (0,0)).1∧(d.Z.getD j (0,0)).1≤20)∧(1≤(d.Z.getD j (0,0)).2∧(d.Z.getD j (0,0)).2≤16)∧d.T % (d.Z.getD j (0,0)).2=0,fun i=>d.Z.length-i,fun i=>[(48,.int .i64 (i:Nat))],fun _=>[],fun _=>[],0,⟨⟨by omega,fun j hj=>by omega⟩,none,?_⟩,?_⟩
 ·(repeat' ((conv=>whnf);first|(with_reducible first|apply spl|apply spl'|refine iJ ?_)<;>intro hc<;>try(exfalso;omega)|refine vcq ?_|fail));all_goals(try conv=>whnf);try exact trivial
 ·rintro i ⟨hi,hz⟩
  have hti:(i:Int).toNat=i:=Int.toNat_natCast i
  (repeat' ((conv=>whnf);first|(with_reducible first|apply spl|apply spl'|refine iJ ?_)<;>intro hc<;>try(exfalso;omega)|refine vcq ?_|fail));all_goals((try conv=>whnf);try exact trivial);(repeat' ((first|(refine a0b (in80 _ _ _) rfl ?_;rintro _ rfl)|(refine a0c (in80 _ _ _) rfl ?_)|(refine a0g (fun _=>in80 _ _ _) rfl ?_));(repeat' ((conv=>whnf);first|(with_reducible first|apply spl|apply spl'|refine iJ ?_)<;>intro hc<;>try(exfalso;omega)|refine vcq ?_|fail));all_goals((try conv=>whnf);try exact trivial)))
  ·rw[hti] at *
   have hi1:i<d.Z.length:=by omega
   rw[Dk.chk_no (fun h=>by have:=Dk.zat h hi1;rw[Int.tmod_eq_emod_of_nonneg (by omega)] at hc;omega)]
   refine⟨_,rfl,?_⟩
   (repeat' ((conv=>whnf);first|(with_reducible first|apply spl|apply spl'|refine iJ ?_)<;>intro hc<;>try(exfalso;omega)|refine vcq ?_|fail));all_goals(try conv=>whnf);try exact trivial
  ·rw[hti] at *
   have hi1:i<d.Z.length:=by omega
   refine⟨i+1,⟨⟨by omega,fun j hj=>?_⟩,by dsimp only;omega⟩,some [some 0],?_⟩
   ·rcases Nat.lt_or_eq_of_le (show j≤i by omega) with g|rfl
    ·exact hz j g
    ·rw[Int.tmod_eq_emod_of_nonneg (by omega)] at hc
     omega
   ·(repeat' ((conv=>whnf);first|(with_reducible first|apply spl|apply spl'|refine iJ ?_)<;>intro hc<;>try(exfalso;omega)|refine vcq ?_|fail));all_goals(try conv=>whnf);try exact trivial
  ·rw[hti] at *
   have hi1:i<d.Z.length:=by omega
   rw[Dk.chk_no (fun h=>by have:=Dk.zat h hi1;omega)]
   refine⟨_,rfl,?_⟩
   (repeat' ((conv=>whnf);first|(with_reducible first|apply spl|apply spl'|refine iJ ?_)<;>intro hc<;>try(exfalso;omega)|refine vcq ?_|fail));all_goals(try conv=>whnf);try exact trivial
  ·have hie:i=d.Z.length:=by omega
   subst hie
   rw[Dk.chk_of ⟨by omega,by omega,by omega,by omega,by omega,Classical.not_not.1 (by assumption),Classical.not_not.1 (by assumption),fun z hzm=>by
    obtain⟨j,hj,rfl⟩:=List.getElem_of_mem hzm
    have:=hz j hj
    rwa [show d.Z.getD j (0,0)=d.Z[j] by simp[List.getD_eq_getElem?_getD,hj]] at this⟩]
   refine⟨_,rfl,?_⟩
   (repeat' ((conv=>whnf);first|(with_reducible first|apply spl|apply spl'|refine iJ ?_)<;>intro hc<;>try(exfalso;omega)|refine vcq ?_|fail));all_goals(try conv=>whnf);try exact trivial
end Go.Proofs
namespace Go.Proofs
open Go Go.Sx
set_option maxRecDepth 100000
set_option maxHeartbeats 40000000
open Ca (Wt ltK putM)
def seC (n:Int):List V:=[.int .i64 n]
def Sv.o (s:Sv) (es N ms:Nat):List V:=[.int .i64 s.x.n,.sl 2 s.x.l.length (a0e Ca.oC (0,0) s.x.l),.int .i64 s.d.H,.int .i64 s.d.T,.sl 2 s.d.Z.length (a0e zC (0,0) s.d.Z),.int .i64 s.d.hk,.int .i64 s.d.ck,.int .i64 s.d.hs.1,.int .i64 s.d.hs.2,.int .i64 s.d.cs.1,.int .i64 s.d.cs.2,.sl 2 s.sk.length (a0e zC (0,0) s.sk),.int .i64 s.cyl,.sl 1 s.sec.length (a0e seC 0 s.sec),.osl es N,.osl ms s.n]
def mdC (M:Nat→Int) (b:Nat):List V:=[.int .i64 (M b)]
theorem is129 (w:Wt) (ep b:Nat) (k:Int):a0h Tryz.prog 129 false [.agg (wtC w),.iptr [.int .i64 (ep:Nat)],.iptr [.int .i64 k,.int .i64 (b:Nat)]] (·=.prop (w.1<ep∨w.2.1=b) inferInstance):=by
 refine a0a Tryz.E_ok Tryz.func129 rfl (by kernel_rfl) ?_
 (repeat' ((conv=>whnf);first|(with_reducible first|apply spl|apply spl'|refine iJ ?_)<;>intro hc<;>try(exfalso;omega)|refine vcq ?_|refine dr 9 ?_));all_goals(try conv=>whnf);try exact trivial
 refine⟨_,rfl,?_⟩
 (repeat' ((conv=>whnf);first|(with_reducible first|apply spl|apply spl'|refine iJ ?_)<;>intro hc<;>try(exfalso;omega)|refine vcq ?_|refine dr 9 ?_));all_goals(try conv=>whnf);try exact trivial
theorem is130 (w:Wt):a0h Tryz.prog 130 false [.agg (wtC w)] (·=.kb true):=by
 refine a0a Tryz.E_ok Tryz.func130 rfl (by kernel_rfl) ?_
 (repeat' ((conv=>whnf);first|(with_reducible first|apply spl|apply spl'|refine iJ ?_)<;>intro hc<;>try(exfalso;omega)|refine vcq ?_|refine dr 9 ?_));all_goals(try conv=>whnf);try exact trivial
 refine⟨_,rfl,?_⟩
 (repeat' ((conv=>whnf);first|(with_reducible first|apply spl|apply spl'|refine iJ ?_)<;>intro hc<;>try(exfalso;omega)|refine vcq ?_|refine dr 9 ?_));all_goals(try conv=>whnf);try exact trivial
def wrHF (s:Sv) (N m:Nat) (f:Nat→List V) (nz:Bool) (M:Nat→Int) (ep b:Nat) (k:Int):List O:=[.cells 107 (s.o 1 N 2),.row 59 3 m f nz,.row 3 1 s.n (mdC M) false,.cells 3 [.int .i64 (ep:Nat)],.cells 76 [.int .i64 k,.int .i64 (b:Nat)],.cells 89 [.ptr 0 0],.cells 191 [.fn (.func 129) [] [.ptr 3 0,.ptr 4 0]]]
theorem wr166F (s:Sv) (N m:Nat) (f:Nat→List V) (nz:Bool) (M:Nat→Int) (ep b:Nat) (k:Int) (w:Wt) (hw:w.2.1<s.n):Sx.Callee Tryz.prog 166 [.agg (wtC w),.ptr 6 0,.ptr 5 0] (wrHF s N m f nz M ep b k)
  (fun v H=>∃M',(M'=@ite _ (w.1<ep∨w.2.1=b) (Classical.propDecidable _) (putM M w) M)∧v=.prop (w.1<ep∨w.2.1=b) (Classical.propDecidable _)∧H=wrHF s N m f nz M' ep b k):=by
 cases nz
 all_goals
  refine a0o Tryz.E_ok Tryz.func166 rfl (by kernel_rfl) ?_
  unfold wrHF
  (repeat' ((conv=>whnf);first|(with_reducible first|apply spl|apply spl'|refine iJ ?_)<;>intro hc<;>try(exfalso;omega)|refine vcq ?_|refine dr 9 ?_));all_goals(try conv=>whnf);try exact trivial
  refine a2a (is129 w ep b k) ?_
  (repeat' ((conv=>whnf);first|(with_reducible first|apply spl|apply spl'|refine iJ ?_)<;>intro hc<;>try(exfalso;omega)|refine vcq ?_|refine dr 9 ?_));all_goals(try conv=>whnf);try exact trivial
  rintro _ rfl
  (repeat' ((conv=>whnf);first|(with_reducible first|apply spl|apply spl'|refine iJ ?_)<;>intro hc<;>try(exfalso;omega)|refine vcq ?_|refine dr 9 ?_));all_goals(try conv=>whnf);try exact trivial
  ·refine⟨_,_,⟨_,rfl,rfl,rfl⟩,some [some 0,some 1,some 2,some 3,some 4,some 5,some 6],?_⟩
   rw[if_neg hc]
   (repeat' ((conv=>whnf);first|(with_reducible first|apply spl|apply spl'|refine iJ ?_)<;>intro hc<;>try(exfalso;omega)|refine vcq ?_|refine dr 9 ?_));all_goals(try conv=>whnf);try exact trivial
  ·have hp:w.1<ep∨w.2.1=b:=Classical.not_not.1 hc
   have htw:((w.2.1:Nat):Int).toNat=w.2.1:=Int.toNat_natCast _
   rw[htw]
   refine⟨_,_,⟨_,rfl,rfl,rfl⟩,some [some 0,some 1,some 2,some 3,some 4,some 5,some 6],?_⟩
   rw[if_pos hp]
   (repeat' ((conv=>whnf);first|(with_reducible first|apply spl|apply spl'|refine iJ ?_)<;>intro hc<;>try(exfalso;omega)|refine vcq ?_|refine dr 9 ?_));all_goals(try conv=>whnf);try exact trivial
   refine⟨fun j _=>?_,?_⟩
   ·unfold mdC putM
    dsimp only
    by_cases g:j=w.2.1
    ·rw[a0v g,if_pos g];rfl
    ·rw[a0t g,if_neg g]
   (repeat' ((conv=>whnf);first|(with_reducible first|apply spl|apply spl'|refine iJ ?_)<;>intro hc<;>try(exfalso;omega)|refine vcq ?_|refine dr 9 ?_));all_goals(try conv=>whnf);try exact trivial
def wrHA (s:Sv) (N m:Nat) (f:Nat→List V) (nz:Bool) (M:Nat→Int):List O:=[.cells 107 (s.o 1 N 2),.row 59 3 m f nz,.row 3 1 s.n (mdC M) false,.cells 89 [.ptr 0 0],.cells 191 [.fn (.func 130) [] []]]
theorem wr166A (s:Sv) (N m:Nat) (f:Nat→List V) (nz:Bool) (M:Nat→Int) (w:Wt) (hw:w.2.1<s.n):Sx.Callee Tryz.prog 166 [.agg (wtC w),.ptr 4 0,.ptr 3 0] (wrHA s N m f nz M)
  (fun v H=>∃M',(M'=@ite _ True (Classical.propDecidable _) (putM M w) M)∧v=.prop True (Classical.propDecidable _)∧H=wrHA s N m f nz M'):=by
 cases nz
 all_goals
  refine a0o Tryz.E_ok Tryz.func166 rfl (by kernel_rfl) ?_
  unfold wrHA
  (repeat' ((conv=>whnf);first|(with_reducible first|apply spl|apply spl'|refine iJ ?_)<;>intro hc<;>try(exfalso;omega)|refine vcq ?_|refine dr 9 ?_));all_goals(try conv=>whnf);try exact trivial
  refine a0b (is130 w) rfl ?_
  rintro _ rfl
  (repeat' ((conv=>whnf);first|(with_reducible first|apply spl|apply spl'|refine iJ ?_)<;>intro hc<;>try(exfalso;omega)|refine vcq ?_|refine dr 9 ?_));all_goals(try conv=>whnf);try exact trivial
  have htw:((w.2.1:Nat):Int).toNat=w.2.1:=Int.toNat_natCast _
  rw[htw]
  refine⟨_,_,⟨_,rfl,rfl,rfl⟩,some [some 0,some 1,some 2,some 3,some 4],?_⟩
  rw[if_pos trivial]
  (repeat' ((conv=>whnf);first|(with_reducible first|apply spl|apply spl'|refine iJ ?_)<;>intro hc<;>try(exfalso;omega)|refine vcq ?_|refine dr 9 ?_));all_goals(try conv=>whnf);try exact trivial
  refine⟨fun j _=>?_,?_⟩
  ·unfold mdC putM
   dsimp only
   by_cases g:j=w.2.1
   ·rw[a0v g,if_pos g];rfl
   ·rw[a0t g,if_neg g]
  (repeat' ((conv=>whnf);first|(with_reducible first|apply spl|apply spl'|refine iJ ?_)<;>intro hc<;>try(exfalso;omega)|refine vcq ?_|refine dr 9 ?_));all_goals(try conv=>whnf);try exact trivial
end Go.Proofs
namespace Go.Sx
open Go
variable {P:Program}
theorem Sat.swap {I:Nat→Prop} {η:Eta} {w:World} {H:List O} (h:Sat I η w H) {id:Nat} {o o':O} {e:Option Nat×Nat} (hη:η[id]? = some e) (hH:H[id]? = some o) (hhas:∀b,o'.has e b↔o.has e b) (ho:SatO I η w e o') :
  Sat I η w (H.set id o')∧own η (H.set id o')=own η H:=by
 have hlt:=(List.getElem?_eq_some_iff.1 hH).1
 have hget:∀j (q:O),(H.set id o')[j]? = some q→(j=id∧q=o')∨(j≠id∧H[j]? = some q):=fun j q hq=>by
  rw[List.getElem?_set] at hq
  by_cases g:id=j
  ·rw[if_pos g,if_pos hlt] at hq
   cases hq
   exact .inl ⟨g.symm,rfl⟩
  ·rw[if_neg g] at hq
   exact .inr ⟨fun e=>g e.symm,hq⟩
 have hself:(H.set id o')[id]? = some o':=by rw[List.getElem?_set,if_pos rfl,if_pos hlt]
 have hother:∀j (q:O),j≠id→H[j]? = some q→(H.set id o')[j]? = some q:=fun j q hj hq=>by rw[List.getElem?_set,if_neg (fun g=>hj g.symm)];exact hq
 have hback:∀j (ee:Option Nat×Nat) (q:O) b,η[j]? = some ee→(H.set id o')[j]? = some q→q.has ee b→∃q0:O,H[j]? = some q0∧q0.has ee b:=fun j ee q b h1 h2 h3=>by
  rcases hget j q h2 with⟨rfl,rfl⟩|⟨_,g⟩
  ·rw[hη] at h1
   cases h1
   exact⟨o,hH,(hhas b).1 h3⟩
  ·exact⟨q,g,h3⟩
 have hown:own η (H.set id o')=own η H:=by
  unfold own
  congr 1
  funext b
  apply propext
  constructor
  ·rintro⟨j,ee,q,h1,h2,h3⟩
   obtain⟨q0,g1,g2⟩:=hback j ee q b h1 h2 h3
   exact⟨j,ee,q0,h1,g1,g2⟩
  ·rintro⟨j,ee,q,h1,h2,h3⟩
   by_cases g:j=id
   ·subst g
    rw[hη] at h1
    cases h1
    rw[hH] at h2
    cases h2
    exact⟨j,e,o',hη,hself,(hhas b).2 h3⟩
   ·exact⟨j,ee,q,h1,hother j q g h2,h3⟩
 refine⟨⟨by rw[List.length_set];exact h.len,fun j ee q h1 h2=>?_,fun j j' b ee ee' q q' h1 h2 h3 h4 h5 h6=>?_,fun b hb=>?_,fun b hb=>?_,h.ilt⟩,hown⟩
 ·rcases hget j q h2 with⟨rfl,rfl⟩|⟨_,g⟩
  ·rw[hη] at h1
   cases h1
   exact ho
  ·exact h.obj j ee q h1 g
 ·obtain⟨q0,g1,g2⟩:=hback j ee q b h1 h3 h5
  obtain⟨q1,g3,g4⟩:=hback j' ee' q' b h2 h4 h6
  exact h.apart j j' b ee ee' q0 q1 h1 h2 g1 g3 g2 g4
 ·rw[hown] at hb;exact h.notI b hb
 ·rw[hown] at hb;exact h.lt b hb
theorem Callee.trunc {g:FuncId} {args:List V} {H:List O} {K K2:V→List O→Prop} (h:Callee P g args H K)
  (hr:∀v H',K v H'→K2 v H'∨∃(id sz n n':Nat) (ty:TypeId) (f f':Nat→List V) (nz:Bool),v=.win id sz 0 n∧H'[id]? = some (.row ty sz n' f nz)∧n≤n'∧0<n'∧(∀i,i<n→f' i=f i)∧K2 (.osl id n) (H'.set id (.row ty sz n f' false))) :
  Callee P g args H K2:=by
 unfold Callee at h ⊢
 refine⟨h.1,fun I η w vals hS hd=>(h.2 I η w vals hS hd).mono ?_⟩
 rintro e w' ⟨I',η',H',v,x,he,hk,hS',hd',hm,hst⟩
 rcases hr v H' hk with g|⟨id,sz,n,n',ty,f,f',nz,rfl,hH,hn,hn',hf,g⟩
 ·exact⟨I',η',H',v,x,he,g,hS',hd',hm,hst⟩
 obtain⟨ee,hη,hnz,hx⟩:=hd'.1 rfl
 obtain⟨xs,hown,h1,hnil,hden⟩:=hS'.obj id ee _ hη hH
 have hee:ee.1≠none:=fun g0=>by have:=(hnil.1 g0).2;omega
 have hso:SatO I' η' w' ee (.row ty sz n f' false):=by
  obtain⟨hxl,hown2⟩:=hown
  have hle:n*sz≤n'*sz:=Nat.mul_le_mul_right _ hn
  refine⟨xs.take (n*sz),⟨by rw[List.length_take,hxl];omega,?_⟩,fun u hu=>h1 u (List.mem_of_mem_take hu),⟨fun g0=>absurd g0 hee,fun g0=>by cases g0.1⟩,fun i hi=>?_⟩
  ·obtain⟨bb,cp⟩:=ee
   cases bb with
   |none=>exact absurd rfl hee
   |some b=>
    rcases hown2 with⟨hbad,_⟩|⟨g',cap',cur,hge,q1,q2,q3,q4,q5,q6⟩
    ·cases hbad
    ·cases hge
     refine .inr ⟨b,cp,cur,rfl,q1,q2,by omega,q4,q5,?_⟩
     rw[←q6,List.take_take]
     congr 1
     omega
  ·rw[hf i hi]
   have hk2:(i+1)*sz≤n*sz:=Nat.mul_le_mul_right _ hi
   rw[Nat.add_mul] at hk2
   refine Eq.mp ?_ (hden i (by omega))
   rw[List.drop_take,List.take_take]
   congr 2
   omega
 obtain⟨s1,s2⟩:=hS'.swap hη hH (o':=.row ty sz n f' false) (fun b=>Iff.rfl) hso
 exact⟨I',η',_,.osl id n,x,he,g,s1,⟨ee,hη,hnz,hx⟩,hm,by rw[s2];exact hst⟩
end Go.Sx
namespace Go.Proofs
open Go Go.Sx
set_option maxRecDepth 100000
set_option maxHeartbeats 40000000
open Ca (Wt ltK putM)
open Classical in
noncomputable def a0i (p:Wt→Prop) (W:List Wt) (j:Nat):List Wt:=(W.take j).filter fun w=>decide (¬p w)
open Classical in
noncomputable def medW (p:Wt→Prop) (W:List Wt) (M:Nat→Int) (j:Nat):Nat→Int:=((W.take j).filter fun w=>decide (p w)).foldl putM M
theorem getW {W:List Wt} {j:Nat} (h:j<W.length):W.getD j wt0=W[j]:=by rw[List.getD_eq_getElem?_getD,List.getElem?_eq_getElem h];rfl
theorem a1r {p:Wt→Prop} {W:List Wt} {M:Nat→Int} {j:Nat} (h:j<W.length):(p (W.getD j wt0)→a0i p W (j+1)=a0i p W j∧medW p W M (j+1)=putM (medW p W M j) (W.getD j wt0))∧(¬p (W.getD j wt0)→a0i p W (j+1)=a0i p W j++[W.getD j wt0]∧medW p W M (j+1)=medW p W M j):=by
 unfold a0i medW
 rw[List.take_succ_eq_append_getElem h,←getW h,List.filter_append,List.filter_append]
 generalize W.getD j wt0=x
 constructor
 ·intro hp
  simp[hp,List.foldl_append]
 ·intro hp
  simp[hp]
theorem keepW_le (p:Wt→Prop) (W:List Wt) (j:Nat):(a0i p W j).length≤j:=by
 unfold a0i
 refine Nat.le_trans (List.length_filter_le _ _) ?_
 rw[List.length_take]
 omega
theorem a2v {p:Wt→Prop} {W:List Wt} {j:Nat} (hj:j≤W.length) (h:∀k,k<j→¬p (W.getD k wt0)) (M:Nat→Int):a0i p W j=W.take j∧medW p W M j=M:=by
 have hall:∀w∈W.take j,¬p w:=fun w hw=>by
  obtain⟨i,hi,rfl⟩:=List.getElem_of_mem hw
  rw[List.length_take] at hi
  have:=h i (by omega)
  rw[getW (by omega)] at this
  rwa [List.getElem_take]
 unfold a0i medW
 constructor
 ·rw[List.filter_eq_self]
  intro w hw
  simp[hall w hw]
 ·rw[List.filter_eq_nil_iff.2]
  ·rfl
  ·intro w hw
   simp[hall w hw]
theorem rowW_set {G:List Wt} {e:Nat} (he:e<G.length) (x:Wt) (j:Nat):a2o (j=e) (a0e wtC wt0 G j) 0 (wtC x)=a0e wtC wt0 (G.set e x) j:=by
 unfold a0e
 by_cases h:j=e
 ·subst h
  rw[a0v rfl]
  simp[List.getD_eq_getElem?_getD,he]
  rfl
 ·rw[a0t h]
  simp[List.getD_eq_getElem?_getD,show ¬e=j from fun g=>h g.symm]
theorem idx184F_false (s:Sv) (W:List Wt) (hW:W.length≤1000) (hb:∀w∈W,w.2.1<s.n) (M:Nat→Int) (ep b:Nat) (k:Int):Sx.Callee Tryz.prog 184 [.osl 1 W.length,.fn (.func 166) [] [.ptr 6 0,.ptr 5 0]] (wrHF s W.length W.length (a0e wtC wt0 W) false M ep b k)
  (fun v H=>((∀q,q<W.length→¬(fun w=>w.1<ep∨w.2.1=b) (W.getD q wt0))∧v=.int .i64 (-1)∧H=wrHF s W.length W.length (a0e wtC wt0 W) false M ep b k)∨∃i:Nat,i<W.length∧(∀q,q<i→¬(fun w=>w.1<ep∨w.2.1=b) (W.getD q wt0))∧(fun w=>w.1<ep∨w.2.1=b) (W.getD i wt0)∧v=.int .i64 i∧H=wrHF s W.length W.length (a0e wtC wt0 W) false (putM M (W.getD i wt0)) ep b k):=by
 have hbg:∀q,q<W.length→(W.getD q wt0).2.1<s.n:=fun q hq=>by rw[getW hq];exact hb _ (List.getElem_mem hq)
 refine a0o Tryz.E_ok Tryz.func184 rfl (by kernel_rfl) ?_
 unfold wrHF
 (repeat' ((conv=>whnf);first|(with_reducible first|apply spl|apply spl'|refine iJ ?_)<;>intro hc<;>try(exfalso;omega)|refine vcq ?_|fail));all_goals(try conv=>whnf);try exact trivial
 refine⟨Nat,fun i=>i≤W.length∧∀q,q<i→¬(fun w=>w.1<ep∨w.2.1=b) (W.getD q wt0),fun i=>W.length-i,fun i=>[(8,.int .i64 (i:Nat))],fun _=>[],fun _=>[],0,⟨⟨by omega,fun q hq=>by omega⟩,some [some 0,some 1,some 2,some 3,some 4,some 5,some 6],?_⟩,?_⟩
 ·(repeat' ((conv=>whnf);first|(with_reducible first|apply spl|apply spl'|refine iJ ?_)<;>intro hc<;>try(exfalso;omega)|refine vcq ?_|fail));all_goals(try conv=>whnf);try exact trivial
 ·rintro i ⟨hi,hall⟩
  have hi:i≤W.length:=hi
  have hti:(i:Int).toNat=i:=Int.toNat_natCast i
  (repeat' ((conv=>whnf);first|(with_reducible first|apply spl|apply spl'|refine iJ ?_)<;>intro hc<;>try(exfalso;omega)|refine vcq ?_|fail));all_goals(try conv=>whnf);try exact trivial
  ·have hil:i<W.length:=by omega
   rw[hti]
   refine a0f [0,1,2,3,4,5,6] (wr166F s W.length W.length (a0e wtC wt0 W) false M ep b k (W.getD i wt0) (hbg i hil)) rfl ?_ ?_
   ·unfold wrHF
    (repeat' ((conv=>whnf);first|(with_reducible first|apply spl|apply spl'|refine iJ ?_)<;>intro hc<;>try(exfalso;omega)|refine vcq ?_|fail));all_goals(try conv=>whnf);try exact trivial
   ·rintro _ _ ⟨M',hM',rfl,rfl⟩
    unfold wrHF
    (repeat' ((conv=>whnf);first|(with_reducible first|apply spl|apply spl'|refine iJ ?_)<;>intro hc<;>try(exfalso;omega)|refine vcq ?_|fail));all_goals(try conv=>whnf);try exact trivial
    ·rw[if_pos hc] at hM'
     subst hM'
     refine⟨_,_,.inr ⟨i,hil,hall,hc,rfl,rfl⟩,some [some 0,some 1,some 2,some 3,some 4,some 5,some 6],?_⟩
     (repeat' ((conv=>whnf);first|(with_reducible first|apply spl|apply spl'|refine iJ ?_)<;>intro hc<;>try(exfalso;omega)|refine vcq ?_|fail));all_goals(try conv=>whnf);try exact trivial
    ·rw[if_neg hc] at hM'
     subst hM'
     refine⟨i+1,⟨⟨by first|omega|(dsimp only;omega),fun q hq=>?_⟩,by first|omega|(dsimp only;omega)⟩,some [some 0,some 1,some 2,some 3,some 4,some 5,some 6],?_⟩
     ·rcases Nat.lt_or_eq_of_le (Nat.le_of_lt_succ hq) with g|g
      ·exact hall q g
      ·rw[g];exact hc
     ·(repeat' ((conv=>whnf);first|(with_reducible first|apply spl|apply spl'|refine iJ ?_)<;>intro hc<;>try(exfalso;omega)|refine vcq ?_|fail));all_goals(try conv=>whnf);try exact trivial
  ·obtain rfl:i=W.length:=by omega
   refine⟨_,_,.inl ⟨hall,rfl,rfl⟩,some [some 0,some 1,some 2,some 3,some 4,some 5,some 6],?_⟩
   (repeat' ((conv=>whnf);first|(with_reducible first|apply spl|apply spl'|refine iJ ?_)<;>intro hc<;>try(exfalso;omega)|refine vcq ?_|fail));all_goals(try conv=>whnf);try exact trivial
theorem idx184F_true (s:Sv) (W:List Wt) (hW:W.length≤1000) (hb:∀w∈W,w.2.1<s.n) (M:Nat→Int) (ep b:Nat) (k:Int):Sx.Callee Tryz.prog 184 [.osl 1 W.length,.fn (.func 166) [] [.ptr 6 0,.ptr 5 0]] (wrHF s W.length W.length (a0e wtC wt0 W) true M ep b k)
  (fun v H=>((∀q,q<W.length→¬(fun w=>w.1<ep∨w.2.1=b) (W.getD q wt0))∧v=.int .i64 (-1)∧H=wrHF s W.length W.length (a0e wtC wt0 W) true M ep b k)∨∃i:Nat,i<W.length∧(∀q,q<i→¬(fun w=>w.1<ep∨w.2.1=b) (W.getD q wt0))∧(fun w=>w.1<ep∨w.2.1=b) (W.getD i wt0)∧v=.int .i64 i∧H=wrHF s W.length W.length (a0e wtC wt0 W) true (putM M (W.getD i wt0)) ep b k):=by
 have hbg:∀q,q<W.length→(W.getD q wt0).2.1<s.n:=fun q hq=>by rw[getW hq];exact hb _ (List.getElem_mem hq)
 refine a0o Tryz.E_ok Tryz.func184 rfl (by kernel_rfl) ?_
 unfold wrHF
 (repeat' ((conv=>whnf);first|(with_reducible first|apply spl|apply spl'|refine iJ ?_)<;>intro hc<;>try(exfalso;omega)|refine vcq ?_|fail));all_goals(try conv=>whnf);try exact trivial
 refine⟨Nat,fun i=>i≤W.length∧∀q,q<i→¬(fun w=>w.1<ep∨w.2.1=b) (W.getD q wt0),fun i=>W.length-i,fun i=>[(8,.int .i64 (i:Nat))],fun _=>[],fun _=>[],0,⟨⟨by omega,fun q hq=>by omega⟩,some [some 0,some 1,some 2,some 3,some 4,some 5,some 6],?_⟩,?_⟩
 ·(repeat' ((conv=>whnf);first|(with_reducible first|apply spl|apply spl'|refine iJ ?_)<;>intro hc<;>try(exfalso;omega)|refine vcq ?_|fail));all_goals(try conv=>whnf);try exact trivial
 ·rintro i ⟨hi,hall⟩
  have hi:i≤W.length:=hi
  have hti:(i:Int).toNat=i:=Int.toNat_natCast i
  (repeat' ((conv=>whnf);first|(with_reducible first|apply spl|apply spl'|refine iJ ?_)<;>intro hc<;>try(exfalso;omega)|refine vcq ?_|fail));all_goals(try conv=>whnf);try exact trivial
  ·have hil:i<W.length:=by omega
   rw[hti]
   refine a0f [0,1,2,3,4,5,6] (wr166F s W.length W.length (a0e wtC wt0 W) true M ep b k (W.getD i wt0) (hbg i hil)) rfl ?_ ?_
   ·unfold wrHF
    (repeat' ((conv=>whnf);first|(with_reducible first|apply spl|apply spl'|refine iJ ?_)<;>intro hc<;>try(exfalso;omega)|refine vcq ?_|fail));all_goals(try conv=>whnf);try exact trivial
   ·rintro _ _ ⟨M',hM',rfl,rfl⟩
    unfold wrHF
    (repeat' ((conv=>whnf);first|(with_reducible first|apply spl|apply spl'|refine iJ ?_)<;>intro hc<;>try(exfalso;omega)|refine vcq ?_|fail));all_goals(try conv=>whnf);try exact trivial
    ·rw[if_pos hc] at hM'
     subst hM'
     refine⟨_,_,.inr ⟨i,hil,hall,hc,rfl,rfl⟩,some [some 0,some 1,some 2,some 3,some 4,some 5,some 6],?_⟩
     (repeat' ((conv=>whnf);first|(with_reducible first|apply spl|apply spl'|refine iJ ?_)<;>intro hc<;>try(exfalso;omega)|refine vcq ?_|fail));all_goals(try conv=>whnf);try exact trivial
    ·rw[if_neg hc] at hM'
     subst hM'
     refine⟨i+1,⟨⟨by first|omega|(dsimp only;omega),fun q hq=>?_⟩,by first|omega|(dsimp only;omega)⟩,some [some 0,some 1,some 2,some 3,some 4,some 5,some 6],?_⟩
     ·rcases Nat.lt_or_eq_of_le (Nat.le_of_lt_succ hq) with g|g
      ·exact hall q g
      ·rw[g];exact hc
     ·(repeat' ((conv=>whnf);first|(with_reducible first|apply spl|apply spl'|refine iJ ?_)<;>intro hc<;>try(exfalso;omega)|refine vcq ?_|fail));all_goals(try conv=>whnf);try exact trivial
  ·obtain rfl:i=W.length:=by omega
   refine⟨_,_,.inl ⟨hall,rfl,rfl⟩,some [some 0,some 1,some 2,some 3,some 4,some 5,some 6],?_⟩
   (repeat' ((conv=>whnf);first|(with_reducible first|apply spl|apply spl'|refine iJ ?_)<;>intro hc<;>try(exfalso;omega)|refine vcq ?_|fail));all_goals(try conv=>whnf);try exact trivial
theorem idx184A_false (s:Sv) (W:List Wt) (hW:W.length≤1000) (hb:∀w∈W,w.2.1<s.n) (M:Nat→Int):Sx.Callee Tryz.prog 184 [.osl 1 W.length,.fn (.func 166) [] [.ptr 4 0,.ptr 3 0]] (wrHA s W.length W.length (a0e wtC wt0 W) false M)
  (fun v H=>((∀q,q<W.length→¬(fun _=>True) (W.getD q wt0))∧v=.int .i64 (-1)∧H=wrHA s W.length W.length (a0e wtC wt0 W) false M)∨∃i:Nat,i<W.length∧(∀q,q<i→¬(fun _=>True) (W.getD q wt0))∧(fun _=>True) (W.getD i wt0)∧v=.int .i64 i∧H=wrHA s W.length W.length (a0e wtC wt0 W) false (putM M (W.getD i wt0))):=by
 have hbg:∀q,q<W.length→(W.getD q wt0).2.1<s.n:=fun q hq=>by rw[getW hq];exact hb _ (List.getElem_mem hq)
 refine a0o Tryz.E_ok Tryz.func184 rfl (by kernel_rfl) ?_
 unfold wrHA
 (repeat' ((conv=>whnf);first|(with_reducible first|apply spl|apply spl'|refine iJ ?_)<;>intro hc<;>try(exfalso;omega)|refine vcq ?_|fail));all_goals(try conv=>whnf);try exact trivial
 refine⟨Nat,fun i=>i≤W.length∧∀q,q<i→¬(fun _=>True) (W.getD q wt0),fun i=>W.length-i,fun i=>[(8,.int .i64 (i:Nat))],fun _=>[],fun _=>[],0,⟨⟨by omega,fun q hq=>by omega⟩,some [some 0,some 1,some 2,some 3,some 4],?_⟩,?_⟩
 ·(repeat' ((conv=>whnf);first|(with_reducible first|apply spl|apply spl'|refine iJ ?_)<;>intro hc<;>try(exfalso;omega)|refine vcq ?_|fail));all_goals(try conv=>whnf);try exact trivial
 ·rintro i ⟨hi,hall⟩
  have hi:i≤W.length:=hi
  have hti:(i:Int).toNat=i:=Int.toNat_natCast i
  (repeat' ((conv=>whnf);first|(with_reducible first|apply spl|apply spl'|refine iJ ?_)<;>intro hc<;>try(exfalso;omega)|refine vcq ?_|fail));all_goals(try conv=>whnf);try exact trivial
  ·have hil:i<W.length:=by omega
   rw[hti]
   refine a0f [0,1,2,3,4] (wr166A s W.length W.length (a0e wtC wt0 W) false M (W.getD i wt0) (hbg i hil)) rfl ?_ ?_
   ·unfold wrHA
    (repeat' ((conv=>whnf);first|(with_reducible first|apply spl|apply spl'|refine iJ ?_)<;>intro hc<;>try(exfalso;omega)|refine vcq ?_|fail));all_goals(try conv=>whnf);try exact trivial
   ·rintro _ _ ⟨M',hM',rfl,rfl⟩
    unfold wrHA
    (repeat' ((conv=>whnf);first|(with_reducible first|apply spl|apply spl'|refine iJ ?_)<;>intro hc<;>try(exfalso;omega)|refine vcq ?_|fail));all_goals(try conv=>whnf);try exact trivial
    ·rw[if_pos hc] at hM'
     subst hM'
     refine⟨_,_,.inr ⟨i,hil,hall,hc,rfl,rfl⟩,some [some 0,some 1,some 2,some 3,some 4],?_⟩
     (repeat' ((conv=>whnf);first|(with_reducible first|apply spl|apply spl'|refine iJ ?_)<;>intro hc<;>try(exfalso;omega)|refine vcq ?_|fail));all_goals(try conv=>whnf);try exact trivial
    ·exact absurd trivial hc
  ·obtain rfl:i=W.length:=by omega
   refine⟨_,_,.inl ⟨hall,rfl,rfl⟩,some [some 0,some 1,some 2,some 3,some 4],?_⟩
   (repeat' ((conv=>whnf);first|(with_reducible first|apply spl|apply spl'|refine iJ ?_)<;>intro hc<;>try(exfalso;omega)|refine vcq ?_|fail));all_goals(try conv=>whnf);try exact trivial
theorem idx184A_true (s:Sv) (W:List Wt) (hW:W.length≤1000) (hb:∀w∈W,w.2.1<s.n) (M:Nat→Int):Sx.Callee Tryz.prog 184 [.osl 1 W.length,.fn (.func 166) [] [.ptr 4 0,.ptr 3 0]] (wrHA s W.length W.length (a0e wtC wt0 W) true M)
  (fun v H=>((∀q,q<W.length→¬(fun _=>True) (W.getD q wt0))∧v=.int .i64 (-1)∧H=wrHA s W.length W.length (a0e wtC wt0 W) true M)∨∃i:Nat,i<W.length∧(∀q,q<i→¬(fun _=>True) (W.getD q wt0))∧(fun _=>True) (W.getD i wt0)∧v=.int .i64 i∧H=wrHA s W.length W.length (a0e wtC wt0 W) true (putM M (W.getD i wt0))):=by
 have hbg:∀q,q<W.length→(W.getD q wt0).2.1<s.n:=fun q hq=>by rw[getW hq];exact hb _ (List.getElem_mem hq)
 refine a0o Tryz.E_ok Tryz.func184 rfl (by kernel_rfl) ?_
 unfold wrHA
 (repeat' ((conv=>whnf);first|(with_reducible first|apply spl|apply spl'|refine iJ ?_)<;>intro hc<;>try(exfalso;omega)|refine vcq ?_|fail));all_goals(try conv=>whnf);try exact trivial
 refine⟨Nat,fun i=>i≤W.length∧∀q,q<i→¬(fun _=>True) (W.getD q wt0),fun i=>W.length-i,fun i=>[(8,.int .i64 (i:Nat))],fun _=>[],fun _=>[],0,⟨⟨by omega,fun q hq=>by omega⟩,some [some 0,some 1,some 2,some 3,some 4],?_⟩,?_⟩
 ·(repeat' ((conv=>whnf);first|(with_reducible first|apply spl|apply spl'|refine iJ ?_)<;>intro hc<;>try(exfalso;omega)|refine vcq ?_|fail));all_goals(try conv=>whnf);try exact trivial
 ·rintro i ⟨hi,hall⟩
  have hi:i≤W.length:=hi
  have hti:(i:Int).toNat=i:=Int.toNat_natCast i
  (repeat' ((conv=>whnf);first|(with_reducible first|apply spl|apply spl'|refine iJ ?_)<;>intro hc<;>try(exfalso;omega)|refine vcq ?_|fail));all_goals(try conv=>whnf);try exact trivial
  ·have hil:i<W.length:=by omega
   rw[hti]
   refine a0f [0,1,2,3,4] (wr166A s W.length W.length (a0e wtC wt0 W) true M (W.getD i wt0) (hbg i hil)) rfl ?_ ?_
   ·unfold wrHA
    (repeat' ((conv=>whnf);first|(with_reducible first|apply spl|apply spl'|refine iJ ?_)<;>intro hc<;>try(exfalso;omega)|refine vcq ?_|fail));all_goals(try conv=>whnf);try exact trivial
   ·rintro _ _ ⟨M',hM',rfl,rfl⟩
    unfold wrHA
    (repeat' ((conv=>whnf);first|(with_reducible first|apply spl|apply spl'|refine iJ ?_)<;>intro hc<;>try(exfalso;omega)|refine vcq ?_|fail));all_goals(try conv=>whnf);try exact trivial
    ·rw[if_pos hc] at hM'
     subst hM'
     refine⟨_,_,.inr ⟨i,hil,hall,hc,rfl,rfl⟩,some [some 0,some 1,some 2,some 3,some 4],?_⟩
     (repeat' ((conv=>whnf);first|(with_reducible first|apply spl|apply spl'|refine iJ ?_)<;>intro hc<;>try(exfalso;omega)|refine vcq ?_|fail));all_goals(try conv=>whnf);try exact trivial
    ·exact absurd trivial hc
  ·obtain rfl:i=W.length:=by omega
   refine⟨_,_,.inl ⟨hall,rfl,rfl⟩,some [some 0,some 1,some 2,some 3,some 4],?_⟩
   (repeat' ((conv=>whnf);first|(with_reducible first|apply spl|apply spl'|refine iJ ?_)<;>intro hc<;>try(exfalso;omega)|refine vcq ?_|fail));all_goals(try conv=>whnf);try exact trivial
end Go.Proofs
namespace Go.Proofs
open Go Go.Sx
set_option maxRecDepth 100000
set_option maxHeartbeats 40000000
open Ca (Wt ltK putM)
def pF (ep b:Nat):Wt→Prop:=fun w=>w.1<ep∨w.2.1=b
def pA:Wt→Prop:=fun _=>True
theorem del165F_false (s:Sv) (W:List Wt) (hW:W.length≤1000) (hb:∀w∈W,w.2.1<s.n) (M:Nat→Int) (ep b:Nat) (k:Int):Sx.Callee Tryz.prog 165 [.osl 1 W.length,.fn (.func 166) [] [.ptr 6 0,.ptr 5 0]] (wrHF s W.length W.length (a0e wtC wt0 W) false M ep b k)
  (fun v H=>v=.osl 1 (a0i ((pF ep b)) W W.length).length∧∃nz,H=wrHF s W.length (a0i ((pF ep b)) W W.length).length (a0e wtC wt0 (a0i ((pF ep b)) W W.length)) nz (medW ((pF ep b)) W M W.length) ep b k):=by
 have hbg:∀q,q<W.length→(W.getD q wt0).2.1<s.n:=fun q hq=>by rw[getW hq];exact hb _ (List.getElem_mem hq)
 refine Callee.trunc (K:=fun v H=>(v=.osl 1 W.length∧(a0i (pF ep b) W W.length=W∧medW (pF ep b) W M W.length=M)∧H=wrHF s W.length W.length (a0e wtC wt0 W) false M ep b k)∨∃f:Nat→List V,0<W.length∧v=.win 1 3 0 (a0i (pF ep b) W W.length).length∧H=wrHF s W.length W.length f false (medW (pF ep b) W M W.length) ep b k∧∀i,i<(a0i (pF ep b) W W.length).length→f i=a0e wtC wt0 (a0i (pF ep b) W W.length) i) ?_ ?_
 ·refine a0o Tryz.E_ok Tryz.func165 rfl (by kernel_rfl) ?_
  unfold wrHF
  (repeat' ((conv=>whnf);first|(with_reducible first|apply spl|apply spl'|refine iJ ?_)<;>intro hc<;>try(exfalso;omega)|refine vcq ?_|fail));all_goals(try conv=>whnf);try exact trivial
  refine a0f [0,1,2,3,4,5,6] (idx184F_false s W hW hb M ep b k) rfl ?_ ?_
  ·unfold wrHF
   (repeat' ((conv=>whnf);first|(with_reducible first|apply spl|apply spl'|refine iJ ?_)<;>intro hc<;>try(exfalso;omega)|refine vcq ?_|fail));all_goals(try conv=>whnf);try exact trivial
  ·rintro _ _ (⟨hall,rfl,rfl⟩|⟨i,hil,hall,hpi,rfl,rfl⟩)
   ·have hn:=a2v (p:=(pF ep b)) (Nat.le_refl _) hall M
    rw[List.take_length] at hn
    unfold wrHF
    (repeat' ((conv=>whnf);first|(with_reducible first|apply spl|apply spl'|refine iJ ?_)<;>intro hc<;>try(exfalso;omega)|refine vcq ?_|fail));all_goals(try conv=>whnf);try exact trivial
    refine⟨_,_,.inl ⟨rfl,hn,rfl⟩,some [some 0,some 1,some 2,some 3,some 4,some 5,some 6],?_⟩
    (repeat' ((conv=>whnf);first|(with_reducible first|apply spl|apply spl'|refine iJ ?_)<;>intro hc<;>try(exfalso;omega)|refine vcq ?_|fail));all_goals(try conv=>whnf);try exact trivial
   ·have hk0:=a2v (p:=(pF ep b)) (show i≤W.length by omega) hall M
    have hs:=(a1r (p:=(pF ep b)) (M:=M) hil).1 hpi
    have hk1:(a0i (pF ep b) W (i+1)).length=i:=by rw[hs.1,hk0.1,List.length_take];omega
    unfold wrHF
    (repeat' ((conv=>whnf);first|(with_reducible first|apply spl|apply spl'|refine iJ ?_)<;>intro hc<;>try(exfalso;omega)|refine vcq ?_|fail));all_goals(try conv=>whnf);try exact trivial
    refine⟨Nat×List Wt,fun q=>(i<q.1∧q.1≤W.length)∧q.2.length=W.length∧(∀a,a<(a0i (pF ep b) W q.1).length→q.2.getD a wt0=(a0i (pF ep b) W q.1).getD a wt0)∧(∀a,q.1≤a→q.2.getD a wt0=W.getD a wt0)∧(a0i (pF ep b) W q.1).length<q.1,fun q=>W.length-q.1,fun q=>[(5,.int .i64 ((a0i (pF ep b) W q.1).length:Nat)),(6,.int .i64 (q.1:Nat)),(7,.any)],fun q=>[(1,.row 59 3 W.length (a0e wtC wt0 q.2) false),(2,.row 3 1 s.n (mdC (medW (pF ep b) W M q.1)) false)],fun _=>[],(i+1,W),⟨⟨⟨by dsimp only;omega,by dsimp only;omega⟩,rfl,fun a ha=>?_,fun a _=>rfl,by dsimp only;omega⟩,some [some 0,some 1,some 2,some 3,some 4,some 5,some 6],?_⟩,?_⟩
    ·dsimp only at ha ⊢
     rw[hk1] at ha
     rw[hs.1,hk0.1]
     simp[List.getD_eq_getElem?_getD,ha]
    ·dsimp only
     rw[hk1,hs.2,hk0.2]
     (repeat' ((conv=>whnf);first|(with_reducible first|apply spl|apply spl'|refine iJ ?_)<;>intro hc<;>try(exfalso;omega)|refine vcq ?_|fail));all_goals(try conv=>whnf);try exact trivial
    ·rintro⟨j,G⟩ ⟨⟨h0,h1⟩,h2,h3,h4,h5⟩
     dsimp only at h0 h1 h2 h3 h4 h5 ⊢
     have htj:(j:Int).toNat=j:=Int.toNat_natCast j
     have hte:(((a0i (pF ep b) W j).length:Nat):Int).toNat=(a0i (pF ep b) W j).length:=Int.toNat_natCast _
     have hle:=keepW_le (pF ep b) W j
     (repeat' ((conv=>whnf);first|(with_reducible first|apply spl|apply spl'|refine iJ ?_)<;>intro hc<;>try(exfalso;omega)|refine vcq ?_|fail));all_goals(try conv=>whnf);try exact trivial
     ·have hjl:j<W.length:=by omega
      rw[htj]
      have hgj:G.getD j wt0=W.getD j wt0:=h4 j (Nat.le_refl _)
      rw[hgj]
      refine a0f [0,1,2,3,4,5,6] (wr166F s W.length W.length (a0e wtC wt0 G) false (medW (pF ep b) W M j) ep b k (W.getD j wt0) (hbg j hjl)) rfl ?_ ?_
      ·unfold wrHF
       (repeat' ((conv=>whnf);first|(with_reducible first|apply spl|apply spl'|refine iJ ?_)<;>intro hc<;>try(exfalso;omega)|refine vcq ?_|fail));all_goals(try conv=>whnf);try exact trivial
      ·rintro _ _ ⟨M',hM',rfl,rfl⟩
       unfold wrHF
       (repeat' ((conv=>whnf);first|(with_reducible first|apply spl|apply spl'|refine iJ ?_)<;>intro hc<;>try(exfalso;omega)|refine vcq ?_|fail));all_goals(try conv=>whnf);try exact trivial
       ·rw[if_neg hc] at hM'
        subst hM'
        have hs2:=(a1r (p:=(pF ep b)) (M:=M) hjl).2 hc
        have hsl:(a0i (pF ep b) W (j+1)).length=(a0i (pF ep b) W j).length+1:=by rw[hs2.1];simp
        refine⟨(j+1,G.set (a0i (pF ep b) W j).length (W.getD j wt0)),⟨⟨⟨by dsimp only;omega,by dsimp only;omega⟩,by dsimp only;rw[List.length_set];exact h2,fun a ha=>?_,fun a ha=>?_,by dsimp only;omega⟩,by dsimp only;omega⟩,some [some 0,some 1,some 2,some 3,some 4,some 5,some 6],?_⟩
        ·dsimp only at ha ⊢
         rw[hsl] at ha
         rw[hs2.1]
         by_cases hal:a<(a0i (pF ep b) W j).length
         ·have:=h3 a hal
          simp only[List.getD_eq_getElem?_getD,List.getElem?_set,List.getElem?_append] at this ⊢
          rw[if_neg (by omega),if_pos hal]
          exact this
         ·have:a=(a0i (pF ep b) W j).length:=by omega
          subst this
          generalize W.getD j wt0=x
          simp only[List.getD_eq_getElem?_getD,List.getElem?_set,List.getElem?_append]
          rw[if_pos trivial,if_pos (by omega),if_neg (by omega)]
          simp
        ·dsimp only at ha ⊢
         rw[←h4 a (by omega)]
         simp only[List.getD_eq_getElem?_getD,List.getElem?_set]
         rw[if_neg (by omega)]
        ·dsimp only
         rw[hsl,hs2.2]
         (repeat' ((conv=>whnf);first|(with_reducible first|apply spl|apply spl'|refine iJ ?_)<;>intro hc<;>try(exfalso;omega)|refine vcq ?_|fail));all_goals(try conv=>whnf);try exact trivial
         refine⟨fun a _=>?_,?_⟩
         ·have:=rowW_set (G:=G) (e:=(a0i (pF ep b) W j).length) (by omega) (W.getD j wt0) a
          dsimp only
          rw[hte]
          exact this
         ·(repeat' ((conv=>whnf);first|(with_reducible first|apply spl|apply spl'|refine iJ ?_)<;>intro hc<;>try(exfalso;omega)|refine vcq ?_|fail));all_goals(try conv=>whnf);try exact trivial
       ·rw[if_pos (Classical.not_not.1 hc)] at hM'
        subst hM'
        have hs2:=(a1r (p:=(pF ep b)) (M:=M) hjl).1 (Classical.not_not.1 hc)
        refine⟨(j+1,G),⟨⟨⟨by dsimp only;omega,by dsimp only;omega⟩,h2,fun a ha=>?_,fun a ha=>?_,by dsimp only;rw[hs2.1];omega⟩,by dsimp only;omega⟩,some [some 0,some 1,some 2,some 3,some 4,some 5,some 6],?_⟩
        ·dsimp only at ha ⊢
         rw[hs2.1] at ha ⊢
         exact h3 a ha
        ·dsimp only at ha ⊢
         exact h4 a (by omega)
        ·dsimp only
         rw[hs2.1,hs2.2]
         (repeat' ((conv=>whnf);first|(with_reducible first|apply spl|apply spl'|refine iJ ?_)<;>intro hc<;>try(exfalso;omega)|refine vcq ?_|fail));all_goals(try conv=>whnf);try exact trivial
     ·have hjl:j=W.length:=by omega
      subst hjl
      refine⟨_,_,.inr ⟨fun q=>if q<(a0i (pF ep b) W W.length).length then a0e wtC wt0 (a0i (pF ep b) W W.length) q else wtC wt0,by omega,rfl,rfl,fun a ha=>by dsimp only;rw[if_pos ha]⟩,some [some 0,some 1,some 2,some 3,some 4,some 5,some 6],?_⟩
      (repeat' ((conv=>whnf);first|(with_reducible first|apply spl|apply spl'|refine iJ ?_)<;>intro hc<;>try(exfalso;omega)|refine vcq ?_|fail));all_goals(try conv=>whnf);try exact trivial
      refine⟨fun a ha=>?_,?_⟩
      ·dsimp only
       rw[hte]
       by_cases hal:a<(a0i (pF ep b) W W.length).length
       ·rw[if_neg (by omega),if_pos hal]
        unfold a0e
        rw[h3 a hal]
       ·rw[if_pos (by omega),if_neg hal]
        rfl
      ·(repeat' ((conv=>whnf);first|(with_reducible first|apply spl|apply spl'|refine iJ ?_)<;>intro hc<;>try(exfalso;omega)|refine vcq ?_|fail));all_goals(try conv=>whnf);try exact trivial
 ·rintro v H (⟨rfl,hk,rfl⟩|⟨f,h0,rfl,rfl,hf⟩)
  ·left
   rw[hk.1,hk.2]
   exact⟨rfl,_,rfl⟩
  ·right
   refine⟨1,3,_,W.length,_,f,a0e wtC wt0 (a0i (pF ep b) W W.length),false,rfl,rfl,keepW_le _ _ _,h0,fun i hi=>(hf i hi).symm,rfl,false,rfl⟩
theorem del165F_true (s:Sv) (W:List Wt) (hW:W.length≤1000) (hb:∀w∈W,w.2.1<s.n) (M:Nat→Int) (ep b:Nat) (k:Int):Sx.Callee Tryz.prog 165 [.osl 1 W.length,.fn (.func 166) [] [.ptr 6 0,.ptr 5 0]] (wrHF s W.length W.length (a0e wtC wt0 W) true M ep b k)
  (fun v H=>v=.osl 1 (a0i ((pF ep b)) W W.length).length∧∃nz,H=wrHF s W.length (a0i ((pF ep b)) W W.length).length (a0e wtC wt0 (a0i ((pF ep b)) W W.length)) nz (medW ((pF ep b)) W M W.length) ep b k):=by
 have hbg:∀q,q<W.length→(W.getD q wt0).2.1<s.n:=fun q hq=>by rw[getW hq];exact hb _ (List.getElem_mem hq)
 refine Callee.trunc (K:=fun v H=>(v=.osl 1 W.length∧(a0i (pF ep b) W W.length=W∧medW (pF ep b) W M W.length=M)∧H=wrHF s W.length W.length (a0e wtC wt0 W) true M ep b k)∨∃f:Nat→List V,0<W.length∧v=.win 1 3 0 (a0i (pF ep b) W W.length).length∧H=wrHF s W.length W.length f true (medW (pF ep b) W M W.length) ep b k∧∀i,i<(a0i (pF ep b) W W.length).length→f i=a0e wtC wt0 (a0i (pF ep b) W W.length) i) ?_ ?_
 ·refine a0o Tryz.E_ok Tryz.func165 rfl (by kernel_rfl) ?_
  unfold wrHF
  (repeat' ((conv=>whnf);first|(with_reducible first|apply spl|apply spl'|refine iJ ?_)<;>intro hc<;>try(exfalso;omega)|refine vcq ?_|fail));all_goals(try conv=>whnf);try exact trivial
  refine a0f [0,1,2,3,4,5,6] (idx184F_true s W hW hb M ep b k) rfl ?_ ?_
  ·unfold wrHF
   (repeat' ((conv=>whnf);first|(with_reducible first|apply spl|apply spl'|refine iJ ?_)<;>intro hc<;>try(exfalso;omega)|refine vcq ?_|fail));all_goals(try conv=>whnf);try exact trivial
  ·rintro _ _ (⟨hall,rfl,rfl⟩|⟨i,hil,hall,hpi,rfl,rfl⟩)
   ·have hn:=a2v (p:=(pF ep b)) (Nat.le_refl _) hall M
    rw[List.take_length] at hn
    unfold wrHF
    (repeat' ((conv=>whnf);first|(with_reducible first|apply spl|apply spl'|refine iJ ?_)<;>intro hc<;>try(exfalso;omega)|refine vcq ?_|fail));all_goals(try conv=>whnf);try exact trivial
    refine⟨_,_,.inl ⟨rfl,hn,rfl⟩,some [some 0,some 1,some 2,some 3,some 4,some 5,some 6],?_⟩
    (repeat' ((conv=>whnf);first|(with_reducible first|apply spl|apply spl'|refine iJ ?_)<;>intro hc<;>try(exfalso;omega)|refine vcq ?_|fail));all_goals(try conv=>whnf);try exact trivial
   ·have hk0:=a2v (p:=(pF ep b)) (show i≤W.length by omega) hall M
    have hs:=(a1r (p:=(pF ep b)) (M:=M) hil).1 hpi
    have hk1:(a0i (pF ep b) W (i+1)).length=i:=by rw[hs.1,hk0.1,List.length_take];omega
    unfold wrHF
    (repeat' ((conv=>whnf);first|(with_reducible first|apply spl|apply spl'|refine iJ ?_)<;>intro hc<;>try(exfalso;omega)|refine vcq ?_|fail));all_goals(try conv=>whnf);try exact trivial
    refine⟨Nat×List Wt,fun q=>(i<q.1∧q.1≤W.length)∧q.2.length=W.length∧(∀a,a<(a0i (pF ep b) W q.1).length→q.2.getD a wt0=(a0i (pF ep b) W q.1).getD a wt0)∧(∀a,q.1≤a→q.2.getD a wt0=W.getD a wt0)∧(a0i (pF ep b) W q.1).length<q.1,fun q=>W.length-q.1,fun q=>[(5,.int .i64 ((a0i (pF ep b) W q.1).length:Nat)),(6,.int .i64 (q.1:Nat)),(7,.any)],fun q=>[(1,.row 59 3 W.length (a0e wtC wt0 q.2) true),(2,.row 3 1 s.n (mdC (medW (pF ep b) W M q.1)) false)],fun _=>[],(i+1,W),⟨⟨⟨by dsimp only;omega,by dsimp only;omega⟩,rfl,fun a ha=>?_,fun a _=>rfl,by dsimp only;omega⟩,some [some 0,some 1,some 2,some 3,some 4,some 5,some 6],?_⟩,?_⟩
    ·dsimp only at ha ⊢
     rw[hk1] at ha
     rw[hs.1,hk0.1]
     simp[List.getD_eq_getElem?_getD,ha]
    ·dsimp only
     rw[hk1,hs.2,hk0.2]
     (repeat' ((conv=>whnf);first|(with_reducible first|apply spl|apply spl'|refine iJ ?_)<;>intro hc<;>try(exfalso;omega)|refine vcq ?_|fail));all_goals(try conv=>whnf);try exact trivial
    ·rintro⟨j,G⟩ ⟨⟨h0,h1⟩,h2,h3,h4,h5⟩
     dsimp only at h0 h1 h2 h3 h4 h5 ⊢
     have htj:(j:Int).toNat=j:=Int.toNat_natCast j
     have hte:(((a0i (pF ep b) W j).length:Nat):Int).toNat=(a0i (pF ep b) W j).length:=Int.toNat_natCast _
     have hle:=keepW_le (pF ep b) W j
     (repeat' ((conv=>whnf);first|(with_reducible first|apply spl|apply spl'|refine iJ ?_)<;>intro hc<;>try(exfalso;omega)|refine vcq ?_|fail));all_goals(try conv=>whnf);try exact trivial
     ·have hjl:j<W.length:=by omega
      rw[htj]
      have hgj:G.getD j wt0=W.getD j wt0:=h4 j (Nat.le_refl _)
      rw[hgj]
      refine a0f [0,1,2,3,4,5,6] (wr166F s W.length W.length (a0e wtC wt0 G) true (medW (pF ep b) W M j) ep b k (W.getD j wt0) (hbg j hjl)) rfl ?_ ?_
      ·unfold wrHF
       (repeat' ((conv=>whnf);first|(with_reducible first|apply spl|apply spl'|refine iJ ?_)<;>intro hc<;>try(exfalso;omega)|refine vcq ?_|fail));all_goals(try conv=>whnf);try exact trivial
      ·rintro _ _ ⟨M',hM',rfl,rfl⟩
       unfold wrHF
       (repeat' ((conv=>whnf);first|(with_reducible first|apply spl|apply spl'|refine iJ ?_)<;>intro hc<;>try(exfalso;omega)|refine vcq ?_|fail));all_goals(try conv=>whnf);try exact trivial
       ·rw[if_neg hc] at hM'
        subst hM'
        have hs2:=(a1r (p:=(pF ep b)) (M:=M) hjl).2 hc
        have hsl:(a0i (pF ep b) W (j+1)).length=(a0i (pF ep b) W j).length+1:=by rw[hs2.1];simp
        refine⟨(j+1,G.set (a0i (pF ep b) W j).length (W.getD j wt0)),⟨⟨⟨by dsimp only;omega,by dsimp only;omega⟩,by dsimp only;rw[List.length_set];exact h2,fun a ha=>?_,fun a ha=>?_,by dsimp only;omega⟩,by dsimp only;omega⟩,some [some 0,some 1,some 2,some 3,some 4,some 5,some 6],?_⟩
        ·dsimp only at ha ⊢
         rw[hsl] at ha
         rw[hs2.1]
         by_cases hal:a<(a0i (pF ep b) W j).length
         ·have:=h3 a hal
          simp only[List.getD_eq_getElem?_getD,List.getElem?_set,List.getElem?_append] at this ⊢
          rw[if_neg (by omega),if_pos hal]
          exact this
         ·have:a=(a0i (pF ep b) W j).length:=by omega
          subst this
          generalize W.getD j wt0=x
          simp only[List.getD_eq_getElem?_getD,List.getElem?_set,List.getElem?_append]
          rw[if_pos trivial,if_pos (by omega),if_neg (by omega)]
          simp
        ·dsimp only at ha ⊢
         rw[←h4 a (by omega)]
         simp only[List.getD_eq_getElem?_getD,List.getElem?_set]
         rw[if_neg (by omega)]
        ·dsimp only
         rw[hsl,hs2.2]
         (repeat' ((conv=>whnf);first|(with_reducible first|apply spl|apply spl'|refine iJ ?_)<;>intro hc<;>try(exfalso;omega)|refine vcq ?_|fail));all_goals(try conv=>whnf);try exact trivial
         refine⟨fun a _=>?_,?_⟩
         ·have:=rowW_set (G:=G) (e:=(a0i (pF ep b) W j).length) (by omega) (W.getD j wt0) a
          dsimp only
          rw[hte]
          exact this
         ·(repeat' ((conv=>whnf);first|(with_reducible first|apply spl|apply spl'|refine iJ ?_)<;>intro hc<;>try(exfalso;omega)|refine vcq ?_|fail));all_goals(try conv=>whnf);try exact trivial
       ·rw[if_pos (Classical.not_not.1 hc)] at hM'
        subst hM'
        have hs2:=(a1r (p:=(pF ep b)) (M:=M) hjl).1 (Classical.not_not.1 hc)
        refine⟨(j+1,G),⟨⟨⟨by dsimp only;omega,by dsimp only;omega⟩,h2,fun a ha=>?_,fun a ha=>?_,by dsimp only;rw[hs2.1];omega⟩,by dsimp only;omega⟩,some [some 0,some 1,some 2,some 3,some 4,some 5,some 6],?_⟩
        ·dsimp only at ha ⊢
         rw[hs2.1] at ha ⊢
         exact h3 a ha
        ·dsimp only at ha ⊢
         exact h4 a (by omega)
        ·dsimp only
         rw[hs2.1,hs2.2]
         (repeat' ((conv=>whnf);first|(with_reducible first|apply spl|apply spl'|refine iJ ?_)<;>intro hc<;>try(exfalso;omega)|refine vcq ?_|fail));all_goals(try conv=>whnf);try exact trivial
     ·have hjl:j=W.length:=by omega
      subst hjl
      refine⟨_,_,.inr ⟨fun q=>if q<(a0i (pF ep b) W W.length).length then a0e wtC wt0 (a0i (pF ep b) W W.length) q else wtC wt0,by omega,rfl,rfl,fun a ha=>by dsimp only;rw[if_pos ha]⟩,some [some 0,some 1,some 2,some 3,some 4,some 5,some 6],?_⟩
      (repeat' ((conv=>whnf);first|(with_reducible first|apply spl|apply spl'|refine iJ ?_)<;>intro hc<;>try(exfalso;omega)|refine vcq ?_|fail));all_goals(try conv=>whnf);try exact trivial
      refine⟨fun a ha=>?_,?_⟩
      ·dsimp only
       rw[hte]
       by_cases hal:a<(a0i (pF ep b) W W.length).length
       ·rw[if_neg (by omega),if_pos hal]
        unfold a0e
        rw[h3 a hal]
       ·rw[if_pos (by omega),if_neg hal]
        rfl
      ·(repeat' ((conv=>whnf);first|(with_reducible first|apply spl|apply spl'|refine iJ ?_)<;>intro hc<;>try(exfalso;omega)|refine vcq ?_|fail));all_goals(try conv=>whnf);try exact trivial
 ·rintro v H (⟨rfl,hk,rfl⟩|⟨f,h0,rfl,rfl,hf⟩)
  ·left
   rw[hk.1,hk.2]
   exact⟨rfl,_,rfl⟩
  ·right
   refine⟨1,3,_,W.length,_,f,a0e wtC wt0 (a0i (pF ep b) W W.length),true,rfl,rfl,keepW_le _ _ _,h0,fun i hi=>(hf i hi).symm,rfl,false,rfl⟩
theorem del165A_false (s:Sv) (W:List Wt) (hW:W.length≤1000) (hb:∀w∈W,w.2.1<s.n) (M:Nat→Int):Sx.Callee Tryz.prog 165 [.osl 1 W.length,.fn (.func 166) [] [.ptr 4 0,.ptr 3 0]] (wrHA s W.length W.length (a0e wtC wt0 W) false M)
  (fun v H=>v=.osl 1 (a0i (pA) W W.length).length∧∃nz,H=wrHA s W.length (a0i (pA) W W.length).length (a0e wtC wt0 (a0i (pA) W W.length)) nz (medW (pA) W M W.length)):=by
 have hbg:∀q,q<W.length→(W.getD q wt0).2.1<s.n:=fun q hq=>by rw[getW hq];exact hb _ (List.getElem_mem hq)
 refine Callee.trunc (K:=fun v H=>(v=.osl 1 W.length∧(a0i pA W W.length=W∧medW pA W M W.length=M)∧H=wrHA s W.length W.length (a0e wtC wt0 W) false M)∨∃f:Nat→List V,0<W.length∧v=.win 1 3 0 (a0i pA W W.length).length∧H=wrHA s W.length W.length f false (medW pA W M W.length)∧∀i,i<(a0i pA W W.length).length→f i=a0e wtC wt0 (a0i pA W W.length) i) ?_ ?_
 ·refine a0o Tryz.E_ok Tryz.func165 rfl (by kernel_rfl) ?_
  unfold wrHA
  (repeat' ((conv=>whnf);first|(with_reducible first|apply spl|apply spl'|refine iJ ?_)<;>intro hc<;>try(exfalso;omega)|refine vcq ?_|fail));all_goals(try conv=>whnf);try exact trivial
  refine a0f [0,1,2,3,4] (idx184A_false s W hW hb M) rfl ?_ ?_
  ·unfold wrHA
   (repeat' ((conv=>whnf);first|(with_reducible first|apply spl|apply spl'|refine iJ ?_)<;>intro hc<;>try(exfalso;omega)|refine vcq ?_|fail));all_goals(try conv=>whnf);try exact trivial
  ·rintro _ _ (⟨hall,rfl,rfl⟩|⟨i,hil,hall,hpi,rfl,rfl⟩)
   ·have hn:=a2v (p:=pA) (Nat.le_refl _) hall M
    rw[List.take_length] at hn
    unfold wrHA
    (repeat' ((conv=>whnf);first|(with_reducible first|apply spl|apply spl'|refine iJ ?_)<;>intro hc<;>try(exfalso;omega)|refine vcq ?_|fail));all_goals(try conv=>whnf);try exact trivial
    refine⟨_,_,.inl ⟨rfl,hn,rfl⟩,some [some 0,some 1,some 2,some 3,some 4],?_⟩
    (repeat' ((conv=>whnf);first|(with_reducible first|apply spl|apply spl'|refine iJ ?_)<;>intro hc<;>try(exfalso;omega)|refine vcq ?_|fail));all_goals(try conv=>whnf);try exact trivial
   ·have hk0:=a2v (p:=pA) (show i≤W.length by omega) hall M
    have hs:=(a1r (p:=pA) (M:=M) hil).1 hpi
    have hk1:(a0i pA W (i+1)).length=i:=by rw[hs.1,hk0.1,List.length_take];omega
    unfold wrHA
    (repeat' ((conv=>whnf);first|(with_reducible first|apply spl|apply spl'|refine iJ ?_)<;>intro hc<;>try(exfalso;omega)|refine vcq ?_|fail));all_goals(try conv=>whnf);try exact trivial
    refine⟨Nat×List Wt,fun q=>(i<q.1∧q.1≤W.length)∧q.2.length=W.length∧(∀a,a<(a0i pA W q.1).length→q.2.getD a wt0=(a0i pA W q.1).getD a wt0)∧(∀a,q.1≤a→q.2.getD a wt0=W.getD a wt0)∧(a0i pA W q.1).length<q.1,fun q=>W.length-q.1,fun q=>[(5,.int .i64 ((a0i pA W q.1).length:Nat)),(6,.int .i64 (q.1:Nat)),(7,.any)],fun q=>[(1,.row 59 3 W.length (a0e wtC wt0 q.2) false),(2,.row 3 1 s.n (mdC (medW pA W M q.1)) false)],fun _=>[],(i+1,W),⟨⟨⟨by dsimp only;omega,by dsimp only;omega⟩,rfl,fun a ha=>?_,fun a _=>rfl,by dsimp only;omega⟩,some [some 0,some 1,some 2,some 3,some 4],?_⟩,?_⟩
    ·dsimp only at ha ⊢
     rw[hk1] at ha
     rw[hs.1,hk0.1]
     simp[List.getD_eq_getElem?_getD,ha]
    ·dsimp only
     rw[hk1,hs.2,hk0.2]
     (repeat' ((conv=>whnf);first|(with_reducible first|apply spl|apply spl'|refine iJ ?_)<;>intro hc<;>try(exfalso;omega)|refine vcq ?_|fail));all_goals(try conv=>whnf);try exact trivial
    ·rintro⟨j,G⟩ ⟨⟨h0,h1⟩,h2,h3,h4,h5⟩
     dsimp only at h0 h1 h2 h3 h4 h5 ⊢
     have htj:(j:Int).toNat=j:=Int.toNat_natCast j
     have hte:(((a0i pA W j).length:Nat):Int).toNat=(a0i pA W j).length:=Int.toNat_natCast _
     have hle:=keepW_le pA W j
     (repeat' ((conv=>whnf);first|(with_reducible first|apply spl|apply spl'|refine iJ ?_)<;>intro hc<;>try(exfalso;omega)|refine vcq ?_|fail));all_goals(try conv=>whnf);try exact trivial
     ·have hjl:j<W.length:=by omega
      rw[htj]
      have hgj:G.getD j wt0=W.getD j wt0:=h4 j (Nat.le_refl _)
      rw[hgj]
      refine a0f [0,1,2,3,4] (wr166A s W.length W.length (a0e wtC wt0 G) false (medW pA W M j) (W.getD j wt0) (hbg j hjl)) rfl ?_ ?_
      ·unfold wrHA
       (repeat' ((conv=>whnf);first|(with_reducible first|apply spl|apply spl'|refine iJ ?_)<;>intro hc<;>try(exfalso;omega)|refine vcq ?_|fail));all_goals(try conv=>whnf);try exact trivial
      ·rintro _ _ ⟨M',hM',rfl,rfl⟩
       unfold wrHA
       (repeat' ((conv=>whnf);first|(with_reducible first|apply spl|apply spl'|refine iJ ?_)<;>intro hc<;>try(exfalso;omega)|refine vcq ?_|fail));all_goals(try conv=>whnf);try exact trivial
       ·rw[if_neg hc] at hM'
        subst hM'
        have hs2:=(a1r (p:=pA) (M:=M) hjl).2 hc
        have hsl:(a0i pA W (j+1)).length=(a0i pA W j).length+1:=by rw[hs2.1];simp
        refine⟨(j+1,G.set (a0i pA W j).length (W.getD j wt0)),⟨⟨⟨by dsimp only;omega,by dsimp only;omega⟩,by dsimp only;rw[List.length_set];exact h2,fun a ha=>?_,fun a ha=>?_,by dsimp only;omega⟩,by dsimp only;omega⟩,some [some 0,some 1,some 2,some 3,some 4],?_⟩
        ·dsimp only at ha ⊢
         rw[hsl] at ha
         rw[hs2.1]
         by_cases hal:a<(a0i pA W j).length
         ·have:=h3 a hal
          simp only[List.getD_eq_getElem?_getD,List.getElem?_set,List.getElem?_append] at this ⊢
          rw[if_neg (by omega),if_pos hal]
          exact this
         ·have:a=(a0i pA W j).length:=by omega
          subst this
          generalize W.getD j wt0=x
          simp only[List.getD_eq_getElem?_getD,List.getElem?_set,List.getElem?_append]
          rw[if_pos trivial,if_pos (by omega),if_neg (by omega)]
          simp
        ·dsimp only at ha ⊢
         rw[←h4 a (by omega)]
         simp only[List.getD_eq_getElem?_getD,List.getElem?_set]
         rw[if_neg (by omega)]
        ·dsimp only
         rw[hsl,hs2.2]
         (repeat' ((conv=>whnf);first|(with_reducible first|apply spl|apply spl'|refine iJ ?_)<;>intro hc<;>try(exfalso;omega)|refine vcq ?_|fail));all_goals(try conv=>whnf);try exact trivial
         refine⟨fun a _=>?_,?_⟩
         ·have:=rowW_set (G:=G) (e:=(a0i pA W j).length) (by omega) (W.getD j wt0) a
          dsimp only
          rw[hte]
          exact this
         ·(repeat' ((conv=>whnf);first|(with_reducible first|apply spl|apply spl'|refine iJ ?_)<;>intro hc<;>try(exfalso;omega)|refine vcq ?_|fail));all_goals(try conv=>whnf);try exact trivial
       ·rw[if_pos (Classical.not_not.1 hc)] at hM'
        subst hM'
        have hs2:=(a1r (p:=pA) (M:=M) hjl).1 (Classical.not_not.1 hc)
        refine⟨(j+1,G),⟨⟨⟨by dsimp only;omega,by dsimp only;omega⟩,h2,fun a ha=>?_,fun a ha=>?_,by dsimp only;rw[hs2.1];omega⟩,by dsimp only;omega⟩,some [some 0,some 1,some 2,some 3,some 4],?_⟩
        ·dsimp only at ha ⊢
         rw[hs2.1] at ha ⊢
         exact h3 a ha
        ·dsimp only at ha ⊢
         exact h4 a (by omega)
        ·dsimp only
         rw[hs2.1,hs2.2]
         (repeat' ((conv=>whnf);first|(with_reducible first|apply spl|apply spl'|refine iJ ?_)<;>intro hc<;>try(exfalso;omega)|refine vcq ?_|fail));all_goals(try conv=>whnf);try exact trivial
     ·have hjl:j=W.length:=by omega
      subst hjl
      refine⟨_,_,.inr ⟨fun q=>if q<(a0i pA W W.length).length then a0e wtC wt0 (a0i pA W W.length) q else wtC wt0,by omega,rfl,rfl,fun a ha=>by dsimp only;rw[if_pos ha]⟩,some [some 0,some 1,some 2,some 3,some 4],?_⟩
      (repeat' ((conv=>whnf);first|(with_reducible first|apply spl|apply spl'|refine iJ ?_)<;>intro hc<;>try(exfalso;omega)|refine vcq ?_|fail));all_goals(try conv=>whnf);try exact trivial
      refine⟨fun a ha=>?_,?_⟩
      ·dsimp only
       rw[hte]
       by_cases hal:a<(a0i pA W W.length).length
       ·rw[if_neg (by omega),if_pos hal]
        unfold a0e
        rw[h3 a hal]
       ·rw[if_pos (by omega),if_neg hal]
        rfl
      ·(repeat' ((conv=>whnf);first|(with_reducible first|apply spl|apply spl'|refine iJ ?_)<;>intro hc<;>try(exfalso;omega)|refine vcq ?_|fail));all_goals(try conv=>whnf);try exact trivial
 ·rintro v H (⟨rfl,hk,rfl⟩|⟨f,h0,rfl,rfl,hf⟩)
  ·left
   rw[hk.1,hk.2]
   exact⟨rfl,_,rfl⟩
  ·right
   refine⟨1,3,_,W.length,_,f,a0e wtC wt0 (a0i pA W W.length),false,rfl,rfl,keepW_le _ _ _,h0,fun i hi=>(hf i hi).symm,rfl,false,rfl⟩
theorem del165A_true (s:Sv) (W:List Wt) (hW:W.length≤1000) (hb:∀w∈W,w.2.1<s.n) (M:Nat→Int):Sx.Callee Tryz.prog 165 [.osl 1 W.length,.fn (.func 166) [] [.ptr 4 0,.ptr 3 0]] (wrHA s W.length W.length (a0e wtC wt0 W) true M)
  (fun v H=>v=.osl 1 (a0i (pA) W W.length).length∧∃nz,H=wrHA s W.length (a0i (pA) W W.length).length (a0e wtC wt0 (a0i (pA) W W.length)) nz (medW (pA) W M W.length)):=by
 have hbg:∀q,q<W.length→(W.getD q wt0).2.1<s.n:=fun q hq=>by rw[getW hq];exact hb _ (List.getElem_mem hq)
 refine Callee.trunc (K:=fun v H=>(v=.osl 1 W.length∧(a0i pA W W.length=W∧medW pA W M W.length=M)∧H=wrHA s W.length W.length (a0e wtC wt0 W) true M)∨∃f:Nat→List V,0<W.length∧v=.win 1 3 0 (a0i pA W W.length).length∧H=wrHA s W.length W.length f true (medW pA W M W.length)∧∀i,i<(a0i pA W W.length).length→f i=a0e wtC wt0 (a0i pA W W.length) i) ?_ ?_
 ·refine a0o Tryz.E_ok Tryz.func165 rfl (by kernel_rfl) ?_
  unfold wrHA
  (repeat' ((conv=>whnf);first|(with_reducible first|apply spl|apply spl'|refine iJ ?_)<;>intro hc<;>try(exfalso;omega)|refine vcq ?_|fail));all_goals(try conv=>whnf);try exact trivial
  refine a0f [0,1,2,3,4] (idx184A_true s W hW hb M) rfl ?_ ?_
  ·unfold wrHA
   (repeat' ((conv=>whnf);first|(with_reducible first|apply spl|apply spl'|refine iJ ?_)<;>intro hc<;>try(exfalso;omega)|refine vcq ?_|fail));all_goals(try conv=>whnf);try exact trivial
  ·rintro _ _ (⟨hall,rfl,rfl⟩|⟨i,hil,hall,hpi,rfl,rfl⟩)
   ·have hn:=a2v (p:=pA) (Nat.le_refl _) hall M
    rw[List.take_length] at hn
    unfold wrHA
    (repeat' ((conv=>whnf);first|(with_reducible first|apply spl|apply spl'|refine iJ ?_)<;>intro hc<;>try(exfalso;omega)|refine vcq ?_|fail));all_goals(try conv=>whnf);try exact trivial
    refine⟨_,_,.inl ⟨rfl,hn,rfl⟩,some [some 0,some 1,some 2,some 3,some 4],?_⟩
    (repeat' ((conv=>whnf);first|(with_reducible first|apply spl|apply spl'|refine iJ ?_)<;>intro hc<;>try(exfalso;omega)|refine vcq ?_|fail));all_goals(try conv=>whnf);try exact trivial
   ·have hk0:=a2v (p:=pA) (show i≤W.length by omega) hall M
    have hs:=(a1r (p:=pA) (M:=M) hil).1 hpi
    have hk1:(a0i pA W (i+1)).length=i:=by rw[hs.1,hk0.1,List.length_take];omega
    unfold wrHA
    (repeat' ((conv=>whnf);first|(with_reducible first|apply spl|apply spl'|refine iJ ?_)<;>intro hc<;>try(exfalso;omega)|refine vcq ?_|fail));all_goals(try conv=>whnf);try exact trivial
    refine⟨Nat×List Wt,fun q=>(i<q.1∧q.1≤W.length)∧q.2.length=W.length∧(∀a,a<(a0i pA W q.1).length→q.2.getD a wt0=(a0i pA W q.1).getD a wt0)∧(∀a,q.1≤a→q.2.getD a wt0=W.getD a wt0)∧(a0i pA W q.1).length<q.1,fun q=>W.length-q.1,fun q=>[(5,.int .i64 ((a0i pA W q.1).length:Nat)),(6,.int .i64 (q.1:Nat)),(7,.any)],fun q=>[(1,.row 59 3 W.length (a0e wtC wt0 q.2) true),(2,.row 3 1 s.n (mdC (medW pA W M q.1)) false)],fun _=>[],(i+1,W),⟨⟨⟨by dsimp only;omega,by dsimp only;omega⟩,rfl,fun a ha=>?_,fun a _=>rfl,by dsimp only;omega⟩,some [some 0,some 1,some 2,some 3,some 4],?_⟩,?_⟩
    ·dsimp only at ha ⊢
     rw[hk1] at ha
     rw[hs.1,hk0.1]
     simp[List.getD_eq_getElem?_getD,ha]
    ·dsimp only
     rw[hk1,hs.2,hk0.2]
     (repeat' ((conv=>whnf);first|(with_reducible first|apply spl|apply spl'|refine iJ ?_)<;>intro hc<;>try(exfalso;omega)|refine vcq ?_|fail));all_goals(try conv=>whnf);try exact trivial
    ·rintro⟨j,G⟩ ⟨⟨h0,h1⟩,h2,h3,h4,h5⟩
     dsimp only at h0 h1 h2 h3 h4 h5 ⊢
     have htj:(j:Int).toNat=j:=Int.toNat_natCast j
     have hte:(((a0i pA W j).length:Nat):Int).toNat=(a0i pA W j).length:=Int.toNat_natCast _
     have hle:=keepW_le pA W j
     (repeat' ((conv=>whnf);first|(with_reducible first|apply spl|apply spl'|refine iJ ?_)<;>intro hc<;>try(exfalso;omega)|refine vcq ?_|fail));all_goals(try conv=>whnf);try exact trivial
     ·have hjl:j<W.length:=by omega
      rw[htj]
      have hgj:G.getD j wt0=W.getD j wt0:=h4 j (Nat.le_refl _)
      rw[hgj]
      refine a0f [0,1,2,3,4] (wr166A s W.length W.length (a0e wtC wt0 G) true (medW pA W M j) (W.getD j wt0) (hbg j hjl)) rfl ?_ ?_
      ·unfold wrHA
       (repeat' ((conv=>whnf);first|(with_reducible first|apply spl|apply spl'|refine iJ ?_)<;>intro hc<;>try(exfalso;omega)|refine vcq ?_|fail));all_goals(try conv=>whnf);try exact trivial
      ·rintro _ _ ⟨M',hM',rfl,rfl⟩
       unfold wrHA
       (repeat' ((conv=>whnf);first|(with_reducible first|apply spl|apply spl'|refine iJ ?_)<;>intro hc<;>try(exfalso;omega)|refine vcq ?_|fail));all_goals(try conv=>whnf);try exact trivial
       ·rw[if_neg hc] at hM'
        subst hM'
        have hs2:=(a1r (p:=pA) (M:=M) hjl).2 hc
        have hsl:(a0i pA W (j+1)).length=(a0i pA W j).length+1:=by rw[hs2.1];simp
        refine⟨(j+1,G.set (a0i pA W j).length (W.getD j wt0)),⟨⟨⟨by dsimp only;omega,by dsimp only;omega⟩,by dsimp only;rw[List.length_set];exact h2,fun a ha=>?_,fun a ha=>?_,by dsimp only;omega⟩,by dsimp only;omega⟩,some [some 0,some 1,some 2,some 3,some 4],?_⟩
        ·dsimp only at ha ⊢
         rw[hsl] at ha
         rw[hs2.1]
         by_cases hal:a<(a0i pA W j).length
         ·have:=h3 a hal
          simp only[List.getD_eq_getElem?_getD,List.getElem?_set,List.getElem?_append] at this ⊢
          rw[if_neg (by omega),if_pos hal]
          exact this
         ·have:a=(a0i pA W j).length:=by omega
          subst this
          generalize W.getD j wt0=x
          simp only[List.getD_eq_getElem?_getD,List.getElem?_set,List.getElem?_append]
          rw[if_pos trivial,if_pos (by omega),if_neg (by omega)]
          simp
        ·dsimp only at ha ⊢
         rw[←h4 a (by omega)]
         simp only[List.getD_eq_getElem?_getD,List.getElem?_set]
         rw[if_neg (by omega)]
        ·dsimp only
         rw[hsl,hs2.2]
         (repeat' ((conv=>whnf);first|(with_reducible first|apply spl|apply spl'|refine iJ ?_)<;>intro hc<;>try(exfalso;omega)|refine vcq ?_|fail));all_goals(try conv=>whnf);try exact trivial
         refine⟨fun a _=>?_,?_⟩
         ·have:=rowW_set (G:=G) (e:=(a0i pA W j).length) (by omega) (W.getD j wt0) a
          dsimp only
          rw[hte]
          exact this
         ·(repeat' ((conv=>whnf);first|(with_reducible first|apply spl|apply spl'|refine iJ ?_)<;>intro hc<;>try(exfalso;omega)|refine vcq ?_|fail));all_goals(try conv=>whnf);try exact trivial
       ·rw[if_pos (Classical.not_not.1 hc)] at hM'
        subst hM'
        have hs2:=(a1r (p:=pA) (M:=M) hjl).1 (Classical.not_not.1 hc)
        refine⟨(j+1,G),⟨⟨⟨by dsimp only;omega,by dsimp only;omega⟩,h2,fun a ha=>?_,fun a ha=>?_,by dsimp only;rw[hs2.1];omega⟩,by dsimp only;omega⟩,some [some 0,some 1,some 2,some 3,some 4],?_⟩
        ·dsimp only at ha ⊢
         rw[hs2.1] at ha ⊢
         exact h3 a ha
        ·dsimp only at ha ⊢
         exact h4 a (by omega)
        ·dsimp only
         rw[hs2.1,hs2.2]
         (repeat' ((conv=>whnf);first|(with_reducible first|apply spl|apply spl'|refine iJ ?_)<;>intro hc<;>try(exfalso;omega)|refine vcq ?_|fail));all_goals(try conv=>whnf);try exact trivial
     ·have hjl:j=W.length:=by omega
      subst hjl
      refine⟨_,_,.inr ⟨fun q=>if q<(a0i pA W W.length).length then a0e wtC wt0 (a0i pA W W.length) q else wtC wt0,by omega,rfl,rfl,fun a ha=>by dsimp only;rw[if_pos ha]⟩,some [some 0,some 1,some 2,some 3,some 4],?_⟩
      (repeat' ((conv=>whnf);first|(with_reducible first|apply spl|apply spl'|refine iJ ?_)<;>intro hc<;>try(exfalso;omega)|refine vcq ?_|fail));all_goals(try conv=>whnf);try exact trivial
      refine⟨fun a ha=>?_,?_⟩
      ·dsimp only
       rw[hte]
       by_cases hal:a<(a0i pA W W.length).length
       ·rw[if_neg (by omega),if_pos hal]
        unfold a0e
        rw[h3 a hal]
       ·rw[if_pos (by omega),if_neg hal]
        rfl
      ·(repeat' ((conv=>whnf);first|(with_reducible first|apply spl|apply spl'|refine iJ ?_)<;>intro hc<;>try(exfalso;omega)|refine vcq ?_|fail));all_goals(try conv=>whnf);try exact trivial
 ·rintro v H (⟨rfl,hk,rfl⟩|⟨f,h0,rfl,rfl,hf⟩)
  ·left
   rw[hk.1,hk.2]
   exact⟨rfl,_,rfl⟩
  ·right
   refine⟨1,3,_,W.length,_,f,a0e wtC wt0 (a0i pA W W.length),true,rfl,rfl,keepW_le _ _ _,h0,fun i hi=>(hf i hi).symm,rfl,false,rfl⟩
theorem write128F_false (s:Sv) (W:List Wt) (hW:W.length≤1000) (hb:∀w∈W,w.2.1<s.n) (M:Nat→Int) (ep b:Nat) (k:Int):Sx.Callee Tryz.prog 128 [.ptr 0 0,.fn (.func 129) [] [.ptr 3 0,.ptr 4 0]] [.cells 107 (s.o 1 W.length 2),.row 59 3 W.length (a0e wtC wt0 W) false,.row 3 1 s.n (mdC M) false,.cells 3 [.int .i64 (ep:Nat)],.cells 76 [.int .i64 k,.int .i64 (b:Nat)]]
  (fun v H=>v=.tup []∧∃nz,H=[.cells 107 (s.o 1 (a0i (pF ep b) W W.length).length 2),.row 59 3 (a0i (pF ep b) W W.length).length (a0e wtC wt0 (a0i (pF ep b) W W.length)) nz,.row 3 1 s.n (mdC (medW (pF ep b) W M W.length)) false,.cells 3 [.int .i64 (ep:Nat)],.cells 76 [.int .i64 k,.int .i64 (b:Nat)]]):=by
 refine a0o Tryz.E_ok Tryz.func128 rfl (by kernel_rfl) ?_
 (repeat' ((conv=>whnf);first|(with_reducible first|apply spl|apply spl'|refine iJ ?_)<;>intro hc<;>try(exfalso;omega)|refine vcq ?_|refine dr 2006 ?_));all_goals(try conv=>whnf);try exact trivial
 refine a0f [0,1,2,3,4,5,6] (del165F_false s W hW hb M ep b k) rfl ?_ ?_
 ·unfold wrHF
  (repeat' ((conv=>whnf);first|(with_reducible first|apply spl|apply spl'|refine iJ ?_)<;>intro hc<;>try(exfalso;omega)|refine vcq ?_|refine dr 2006 ?_));all_goals(try conv=>whnf);try exact trivial
 ·rintro _ _ ⟨rfl,nz,rfl⟩
  generalize a0i (pF ep b) W W.length=L
  unfold wrHF
  rcases nz with _|_
  ·(repeat' ((conv=>whnf);first|(with_reducible first|apply spl|apply spl'|refine iJ ?_)<;>intro hc<;>try(exfalso;omega)|refine vcq ?_|refine dr 2006 ?_));all_goals(try conv=>whnf);try exact trivial
   refine⟨_,_,⟨rfl,false,rfl⟩,some [some 0,some 1,some 2,some 3,some 4],?_⟩
   (repeat' ((conv=>whnf);first|(with_reducible first|apply spl|apply spl'|refine iJ ?_)<;>intro hc<;>try(exfalso;omega)|refine vcq ?_|refine dr 2006 ?_));all_goals(try conv=>whnf);try exact trivial
  ·(repeat' ((conv=>whnf);first|(with_reducible first|apply spl|apply spl'|refine iJ ?_)<;>intro hc<;>try(exfalso;omega)|refine vcq ?_|refine dr 2006 ?_));all_goals(try conv=>whnf);try exact trivial
   refine⟨_,_,⟨rfl,true,rfl⟩,some [some 0,some 1,some 2,some 3,some 4],?_⟩
   (repeat' ((conv=>whnf);first|(with_reducible first|apply spl|apply spl'|refine iJ ?_)<;>intro hc<;>try(exfalso;omega)|refine vcq ?_|refine dr 2006 ?_));all_goals(try conv=>whnf);try exact trivial
theorem write128F_true (s:Sv) (W:List Wt) (hW:W.length≤1000) (hb:∀w∈W,w.2.1<s.n) (M:Nat→Int) (ep b:Nat) (k:Int):Sx.Callee Tryz.prog 128 [.ptr 0 0,.fn (.func 129) [] [.ptr 3 0,.ptr 4 0]] [.cells 107 (s.o 1 W.length 2),.row 59 3 W.length (a0e wtC wt0 W) true,.row 3 1 s.n (mdC M) false,.cells 3 [.int .i64 (ep:Nat)],.cells 76 [.int .i64 k,.int .i64 (b:Nat)]]
  (fun v H=>v=.tup []∧∃nz,H=[.cells 107 (s.o 1 (a0i (pF ep b) W W.length).length 2),.row 59 3 (a0i (pF ep b) W W.length).length (a0e wtC wt0 (a0i (pF ep b) W W.length)) nz,.row 3 1 s.n (mdC (medW (pF ep b) W M W.length)) false,.cells 3 [.int .i64 (ep:Nat)],.cells 76 [.int .i64 k,.int .i64 (b:Nat)]]):=by
 refine a0o Tryz.E_ok Tryz.func128 rfl (by kernel_rfl) ?_
 (repeat' ((conv=>whnf);first|(with_reducible first|apply spl|apply spl'|refine iJ ?_)<;>intro hc<;>try(exfalso;omega)|refine vcq ?_|refine dr 2006 ?_));all_goals(try conv=>whnf);try exact trivial
 refine a0f [0,1,2,3,4,5,6] (del165F_true s W hW hb M ep b k) rfl ?_ ?_
 ·unfold wrHF
  (repeat' ((conv=>whnf);first|(with_reducible first|apply spl|apply spl'|refine iJ ?_)<;>intro hc<;>try(exfalso;omega)|refine vcq ?_|refine dr 2006 ?_));all_goals(try conv=>whnf);try exact trivial
 ·rintro _ _ ⟨rfl,nz,rfl⟩
  generalize a0i (pF ep b) W W.length=L
  unfold wrHF
  rcases nz with _|_
  ·(repeat' ((conv=>whnf);first|(with_reducible first|apply spl|apply spl'|refine iJ ?_)<;>intro hc<;>try(exfalso;omega)|refine vcq ?_|refine dr 2006 ?_));all_goals(try conv=>whnf);try exact trivial
   refine⟨_,_,⟨rfl,false,rfl⟩,some [some 0,some 1,some 2,some 3,some 4],?_⟩
   (repeat' ((conv=>whnf);first|(with_reducible first|apply spl|apply spl'|refine iJ ?_)<;>intro hc<;>try(exfalso;omega)|refine vcq ?_|refine dr 2006 ?_));all_goals(try conv=>whnf);try exact trivial
  ·(repeat' ((conv=>whnf);first|(with_reducible first|apply spl|apply spl'|refine iJ ?_)<;>intro hc<;>try(exfalso;omega)|refine vcq ?_|refine dr 2006 ?_));all_goals(try conv=>whnf);try exact trivial
   refine⟨_,_,⟨rfl,true,rfl⟩,some [some 0,some 1,some 2,some 3,some 4],?_⟩
   (repeat' ((conv=>whnf);first|(with_reducible first|apply spl|apply spl'|refine iJ ?_)<;>intro hc<;>try(exfalso;omega)|refine vcq ?_|refine dr 2006 ?_));all_goals(try conv=>whnf);try exact trivial
theorem write128A_false (s:Sv) (W:List Wt) (hW:W.length≤1000) (hb:∀w∈W,w.2.1<s.n) (M:Nat→Int):Sx.Callee Tryz.prog 128 [.ptr 0 0,.fn (.func 130) [] []] [.cells 107 (s.o 1 W.length 2),.row 59 3 W.length (a0e wtC wt0 W) false,.row 3 1 s.n (mdC M) false]
  (fun v H=>v=.tup []∧∃nz,H=[.cells 107 (s.o 1 (a0i pA W W.length).length 2),.row 59 3 (a0i pA W W.length).length (a0e wtC wt0 (a0i pA W W.length)) nz,.row 3 1 s.n (mdC (medW pA W M W.length)) false]):=by
 refine a0o Tryz.E_ok Tryz.func128 rfl (by kernel_rfl) ?_
 (repeat' ((conv=>whnf);first|(with_reducible first|apply spl|apply spl'|refine iJ ?_)<;>intro hc<;>try(exfalso;omega)|refine vcq ?_|refine dr 2006 ?_));all_goals(try conv=>whnf);try exact trivial
 refine a0f [0,1,2,3,4] (del165A_false s W hW hb M) rfl ?_ ?_
 ·unfold wrHA
  (repeat' ((conv=>whnf);first|(with_reducible first|apply spl|apply spl'|refine iJ ?_)<;>intro hc<;>try(exfalso;omega)|refine vcq ?_|refine dr 2006 ?_));all_goals(try conv=>whnf);try exact trivial
 ·rintro _ _ ⟨rfl,nz,rfl⟩
  generalize a0i pA W W.length=L
  unfold wrHA
  rcases nz with _|_
  ·(repeat' ((conv=>whnf);first|(with_reducible first|apply spl|apply spl'|refine iJ ?_)<;>intro hc<;>try(exfalso;omega)|refine vcq ?_|refine dr 2006 ?_));all_goals(try conv=>whnf);try exact trivial
   refine⟨_,_,⟨rfl,false,rfl⟩,some [some 0,some 1,some 2],?_⟩
   (repeat' ((conv=>whnf);first|(with_reducible first|apply spl|apply spl'|refine iJ ?_)<;>intro hc<;>try(exfalso;omega)|refine vcq ?_|refine dr 2006 ?_));all_goals(try conv=>whnf);try exact trivial
  ·(repeat' ((conv=>whnf);first|(with_reducible first|apply spl|apply spl'|refine iJ ?_)<;>intro hc<;>try(exfalso;omega)|refine vcq ?_|refine dr 2006 ?_));all_goals(try conv=>whnf);try exact trivial
   refine⟨_,_,⟨rfl,true,rfl⟩,some [some 0,some 1,some 2],?_⟩
   (repeat' ((conv=>whnf);first|(with_reducible first|apply spl|apply spl'|refine iJ ?_)<;>intro hc<;>try(exfalso;omega)|refine vcq ?_|refine dr 2006 ?_));all_goals(try conv=>whnf);try exact trivial
theorem write128A_true (s:Sv) (W:List Wt) (hW:W.length≤1000) (hb:∀w∈W,w.2.1<s.n) (M:Nat→Int):Sx.Callee Tryz.prog 128 [.ptr 0 0,.fn (.func 130) [] []] [.cells 107 (s.o 1 W.length 2),.row 59 3 W.length (a0e wtC wt0 W) true,.row 3 1 s.n (mdC M) false]
  (fun v H=>v=.tup []∧∃nz,H=[.cells 107 (s.o 1 (a0i pA W W.length).length 2),.row 59 3 (a0i pA W W.length).length (a0e wtC wt0 (a0i pA W W.length)) nz,.row 3 1 s.n (mdC (medW pA W M W.length)) false]):=by
 refine a0o Tryz.E_ok Tryz.func128 rfl (by kernel_rfl) ?_
 (repeat' ((conv=>whnf);first|(with_reducible first|apply spl|apply spl'|refine iJ ?_)<;>intro hc<;>try(exfalso;omega)|refine vcq ?_|refine dr 2006 ?_));all_goals(try conv=>whnf);try exact trivial
 refine a0f [0,1,2,3,4] (del165A_true s W hW hb M) rfl ?_ ?_
 ·unfold wrHA
  (repeat' ((conv=>whnf);first|(with_reducible first|apply spl|apply spl'|refine iJ ?_)<;>intro hc<;>try(exfalso;omega)|refine vcq ?_|refine dr 2006 ?_));all_goals(try conv=>whnf);try exact trivial
 ·rintro _ _ ⟨rfl,nz,rfl⟩
  generalize a0i pA W W.length=L
  unfold wrHA
  rcases nz with _|_
  ·(repeat' ((conv=>whnf);first|(with_reducible first|apply spl|apply spl'|refine iJ ?_)<;>intro hc<;>try(exfalso;omega)|refine vcq ?_|refine dr 2006 ?_));all_goals(try conv=>whnf);try exact trivial
   refine⟨_,_,⟨rfl,false,rfl⟩,some [some 0,some 1,some 2],?_⟩
   (repeat' ((conv=>whnf);first|(with_reducible first|apply spl|apply spl'|refine iJ ?_)<;>intro hc<;>try(exfalso;omega)|refine vcq ?_|refine dr 2006 ?_));all_goals(try conv=>whnf);try exact trivial
  ·(repeat' ((conv=>whnf);first|(with_reducible first|apply spl|apply spl'|refine iJ ?_)<;>intro hc<;>try(exfalso;omega)|refine vcq ?_|refine dr 2006 ?_));all_goals(try conv=>whnf);try exact trivial
   refine⟨_,_,⟨rfl,true,rfl⟩,some [some 0,some 1,some 2],?_⟩
   (repeat' ((conv=>whnf);first|(with_reducible first|apply spl|apply spl'|refine iJ ?_)<;>intro hc<;>try(exfalso;omega)|refine vcq ?_|refine dr 2006 ?_));all_goals(try conv=>whnf);try exact trivial
theorem upW {W:List Wt} (hp:W.Pairwise ltK):∀a b,a<b→b<W.length→ltK (W.getD a wt0) (W.getD b wt0):=fun a b hab hb=>by
 rw[List.pairwise_iff_getElem] at hp
 rw[getW (by omega),getW hb]
 exact hp a b (by omega) hb hab
def IsPos (W:List Wt) (w:Wt) (i:Nat):Prop:=i≤W.length∧(∀k,k<i→ltK (W.getD k wt0) w)∧∀k,i≤k→k<W.length→¬ltK (W.getD k wt0) w
theorem isPos_ex {W:List Wt} (hp:W.Pairwise ltK) (w:Wt):∃i,IsPos W w i:=by
 have h:∀m,m≤W.length→∃i,i≤m∧(∀k,k<i→ltK (W.getD k wt0) w)∧∀k,i≤k→k<m→¬ltK (W.getD k wt0) w:=by
  intro m
  induction m with
  |zero=>intro _;exact⟨0,Nat.le_refl _,fun k hk=>by omega,fun k _ hk=>by omega⟩
  |succ m ih=>
   intro hm
   obtain⟨i,h1,h2,h3⟩:=ih (by omega)
   by_cases g:ltK (W.getD m wt0) w
   ·rcases Nat.lt_or_eq_of_le h1 with g2|g2
    ·exact absurd (Ca.ltK_trans (upW hp i m g2 (by omega)) g) (h3 i (Nat.le_refl _) g2)
    ·subst g2
     refine⟨i+1,Nat.le_refl _,fun k hk=>?_,fun k hk hk2=>by omega⟩
     rcases Nat.lt_or_eq_of_le (Nat.le_of_lt_succ hk) with g3|g3
     ·exact h2 k g3
     ·rw[g3];exact g
   ·refine⟨i,by omega,h2,fun k hk hk2=>?_⟩
    rcases Nat.lt_or_eq_of_le (Nat.le_of_lt_succ hk2) with g3|g3
    ·exact h3 k hk g3
    ·rw[g3];exact g
 obtain⟨i,h1,h2,h3⟩:=h W.length (Nat.le_refl _)
 exact⟨i,h1,h2,h3⟩
theorem IsPos.uniq {W:List Wt} {w:Wt} {i j:Nat} (h:IsPos W w i) (k:IsPos W w j):i=j:=by
 rcases Nat.lt_trichotomy i j with g|g|g
 ·exact absurd (k.2.1 i g) (h.2.2 i (Nat.le_refl _) (by have:=k.1;omega))
 ·exact g
 ·exact absurd (h.2.1 j g) (k.2.2 j (Nat.le_refl _) (by have:=h.1;omega))
theorem bsearch (W:List Wt) (hW:W.length≤1000) (hs:∀w∈W,WtS w) (hp:W.Pairwise ltK) (w:Wt) (hw:WtS w) (i:Nat) (hi:IsPos W w i):a0h Tryz.prog 125 false [.sl 3 W.length (a0e wtC wt0 W),.agg (wtC w),.fn (.func 126) [] []]
  (·=.tup [.int .i64 i,.prop (i<W.length∧cmpW (W.getD i wt0) w=0) (Classical.propDecidable _)]):=
 (bsearch125 W hW hs hp w hw).mono fun v ⟨j,h1,h2,h3,e⟩=>by
  have:=IsPos.uniq hi ⟨h1,h2,h3⟩
  subst this
  exact e
def PutL (W:List Wt) (w:Wt) (L:List Wt):Prop:=∃a m c,W=a++m++c∧(∀x∈a,ltK x w)∧(∀x∈m,x.1=w.1∧x.2.1=w.2.1)∧(∀x∈c,ltK w x)∧L=a++w :: c
theorem putL_new {W:List Wt} (hp:W.Pairwise ltK) {w:Wt} {i:Nat} (hi:IsPos W w i) (hn:¬(i<W.length∧cmpW (W.getD i wt0) w=0)):PutL W w (W.take i++w :: W.drop i):=by
 refine⟨W.take i,[],W.drop i,by simp,fun x hx=>?_,by simp,fun x hx=>?_,rfl⟩
 ·obtain⟨k,hk,rfl⟩:=List.getElem_of_mem hx
  rw[List.length_take] at hk
  have:=hi.2.1 k (by omega)
  rw[getW (by omega)] at this
  rwa [List.getElem_take]
 ·obtain⟨k,hk,rfl⟩:=List.getElem_of_mem hx
  rw[List.length_drop] at hk
  have h1:=hi.2.2 (i+k) (by omega) (by omega)
  rw[getW (by omega)] at h1
  rw[List.getElem_drop]
  have h0:i<W.length:=by omega
  have hne:¬cmpW (W.getD i wt0) w=0:=fun g=>hn ⟨h0,g⟩
  have hi0:=hi.2.2 i (Nat.le_refl _) h0
  rw[cmpW_eq] at hne
  have hlt:ltK w (W.getD i wt0):=by unfold ltK at hi0 ⊢;omega
  rcases Nat.eq_zero_or_pos k with g|g
  ·subst g
   rw[getW h0] at hlt
   exact hlt
  ·have:=Ca.ltK_trans hlt (upW hp i (i+k) (by omega) (by omega))
   rw[getW (by omega)] at this
   exact this
theorem putL_old {W:List Wt} (hp:W.Pairwise ltK) {w:Wt} {i:Nat} (hi:IsPos W w i) (h:i<W.length∧cmpW (W.getD i wt0) w=0):PutL W w (W.set i w):=by
 have hk:=(cmpW_eq _ _).1 h.2
 refine⟨W.take i,[W[i]'h.1],W.drop (i+1),?_,fun x hx=>?_,fun x hx=>?_,fun x hx=>?_,?_⟩
 ·rw[List.append_assoc,List.singleton_append,←List.drop_eq_getElem_cons h.1,List.take_append_drop]
 ·obtain⟨k,hk,rfl⟩:=List.getElem_of_mem hx
  rw[List.length_take] at hk
  have:=hi.2.1 k (by omega)
  rw[getW (by omega)] at this
  rwa [List.getElem_take]
 ·rw[List.mem_singleton] at hx
  subst hx
  rw[getW h.1] at hk
  exact hk
 ·obtain⟨k,hk2,rfl⟩:=List.getElem_of_mem hx
  rw[List.length_drop] at hk2
  rw[List.getElem_drop]
  have:=upW hp i (i+1+k) (by omega) (by omega)
  rw[getW (show i+1+k<W.length by omega)] at this
  unfold ltK at this ⊢
  omega
 ·rw[List.set_eq_take_append_cons_drop,if_pos h.1]
theorem rowW_ins {W:List Wt} {i:Nat} (hi:i≤W.length) (w:Wt) (j:Nat):insF i (wtC w) (a0e wtC wt0 W) j=a0e wtC wt0 (W.take i++w :: W.drop i) j:=by
 have hl:(W.take i).length=i:=by rw[List.length_take];omega
 unfold insF a0e
 by_cases h1:j<i
 ·rw[if_pos h1]
  simp only[List.getD_eq_getElem?_getD]
  rw[List.getElem?_append_left (by omega),List.getElem?_take_of_lt h1]
 ·rw[if_neg h1]
  by_cases h2:j=i
  ·subst h2
   rw[if_pos rfl]
   simp only[List.getD_eq_getElem?_getD]
   rw[List.getElem?_append_right (by omega),hl,Nat.sub_self]
   rfl
  ·rw[if_neg h2]
   simp only[List.getD_eq_getElem?_getD]
   rw[List.getElem?_append_right (by omega),hl]
   obtain⟨q,rfl⟩:∃q,j=i+1+q:=⟨j-i-1,by omega⟩
   rw[show i+1+q-i=q+1 by omega,List.getElem?_cons_succ,List.getElem?_drop,show i+1+q-1=i+q by omega]
theorem rowW_put {W:List Wt} {i:Nat} (hi:i<W.length) {w:Wt} (h:(W.getD i wt0).1=w.1∧(W.getD i wt0).2.1=w.2.1) (j:Nat):a2o (j=i) (a0e wtC wt0 W j) 2 [.int .i64 w.2.2]=a0e wtC wt0 (W.set i w) j:=by
 unfold a0e
 by_cases hj:j=i
 ·subst hj
  rw[a0v rfl]
  have e:(W.set j w).getD j wt0=w:=by simp[List.getD_eq_getElem?_getD,hi]
  rw[e]
  unfold wtC
  rw[h.1,h.2]
  rfl
 ·rw[a0t hj]
  simp[List.getD_eq_getElem?_getD,show ¬i=j from fun g=>hj g.symm]
theorem put124_false (s:Sv) (W:List Wt) (hW:W.length≤999) (hs:∀w∈W,WtS w) (hp:W.Pairwise ltK) (M:Nat→Int) (w:Wt) (hw:WtS w):Sx.Callee Tryz.prog 124 [.agg (wtC w),.ptr 3 0] [.cells 107 (s.o 1 W.length 2),.row 59 3 W.length (a0e wtC wt0 W) false,.row 3 1 s.n (mdC M) false,.cells 89 [.ptr 0 0]]
  (fun v H=>v=.tup []∧∃L,PutL W w L∧(H=[.cells 107 (s.o 1 L.length 2),.row 59 3 L.length (a0e wtC wt0 L) false,.row 3 1 s.n (mdC M) false,.cells 89 [.ptr 0 0]]∨H=[.cells 107 (s.o 4 L.length 2),.gone,.row 3 1 s.n (mdC M) false,.cells 89 [.ptr 0 0],.row 59 3 L.length (a0e wtC wt0 L) false])):=by
 obtain⟨i,hi⟩:=isPos_ex hp w
 have hti:(i:Int).toNat=i:=Int.toNat_natCast i
 have hil:=hi.1
 refine a0o Tryz.E_ok Tryz.func124 rfl (by kernel_rfl) ?_
 (repeat' ((conv=>whnf);first|(with_reducible first|apply spl|apply spl'|refine iJ ?_)<;>intro hc<;>try(exfalso;omega)|refine vcq ?_|refine dr 2008 ?_|refine dr 11 ?_));all_goals(try conv=>whnf);try exact trivial
 refine pcall_view (bsearch W (by omega) hs hp w hw i hi) ?_ ?_
 ·(repeat' ((conv=>whnf);first|(with_reducible first|apply spl|apply spl'|refine iJ ?_)<;>intro hc<;>try(exfalso;omega)|refine vcq ?_|refine dr 2008 ?_|refine dr 11 ?_));all_goals(try conv=>whnf);try exact trivial
 ·(repeat' ((conv=>whnf);first|(with_reducible first|apply spl|apply spl'|refine iJ ?_)<;>intro hc<;>try(exfalso;omega)|refine vcq ?_|refine dr 2008 ?_|refine dr 11 ?_));all_goals(try conv=>whnf);try exact trivial
  ·have hc2:=hc
   obtain⟨hlt,heq⟩:=hc2
   have hk:=(cmpW_eq _ _).1 heq
   clear hc
   have hsl:(W.set i w).length=W.length:=List.length_set
   refine⟨_,_,⟨rfl,W.set i w,putL_old hp hi ⟨hlt,heq⟩,.inl rfl⟩,some [some 0,some 1,some 2,some 3],?_⟩
   rw[hsl]
   (repeat' ((conv=>whnf);first|(with_reducible first|apply spl|apply spl'|refine iJ ?_)<;>intro hc<;>try(exfalso;omega)|refine vcq ?_|refine dr 2008 ?_|refine dr 11 ?_));all_goals(try conv=>whnf);try exact trivial
   refine⟨fun j _=>?_,?_⟩
   ·dsimp only
    rw[hti]
    exact rowW_put hlt hk j
   ·(repeat' ((conv=>whnf);first|(with_reducible first|apply spl|apply spl'|refine iJ ?_)<;>intro hc<;>try(exfalso;omega)|refine vcq ?_|refine dr 2008 ?_|refine dr 11 ?_));all_goals(try conv=>whnf);try exact trivial
  ·have hne:¬(i<W.length∧cmpW (W.getD i wt0) w=0):=hc
   clear hc
   have hll:(W.take i++w :: W.drop i).length=W.length+1:=by rw[List.length_append,List.length_cons,List.length_take,List.length_drop];omega
   refine a0f [1,5] (callee_insert (n:=W.length) (i:=i) (f:=a0e wtC wt0 W) (c:=wtC w) (nz:=false) (nz2:=false) hil (by omega)) rfl ?_ ?_
   ·(repeat' ((conv=>whnf);first|(with_reducible first|apply spl|apply spl'|refine iJ ?_)<;>intro hc<;>try(exfalso;omega)|refine vcq ?_|refine dr 2008 ?_|refine dr 11 ?_));all_goals(try conv=>whnf);try exact trivial
   ·rintro _ _ ⟨rfl,rfl⟩
    (repeat' ((conv=>whnf);first|(with_reducible first|apply spl|apply spl'|refine iJ ?_)<;>intro hc<;>try(exfalso;omega)|refine vcq ?_|refine dr 2008 ?_|refine dr 11 ?_));all_goals(try conv=>whnf);try exact trivial
    refine⟨_,_,⟨rfl,W.take i++w :: W.drop i,putL_new hp hi hne,.inr rfl⟩,some [some 0,some 1,some 2,some 3,some 6],?_⟩
    rw[hll]
    (repeat' ((conv=>whnf);first|(with_reducible first|apply spl|apply spl'|refine iJ ?_)<;>intro hc<;>try(exfalso;omega)|refine vcq ?_|refine dr 2008 ?_|refine dr 11 ?_));all_goals(try conv=>whnf);try exact trivial
    refine⟨fun j _=>rowW_ins hil w j,?_⟩
    (repeat' ((conv=>whnf);first|(with_reducible first|apply spl|apply spl'|refine iJ ?_)<;>intro hc<;>try(exfalso;omega)|refine vcq ?_|refine dr 2008 ?_|refine dr 11 ?_));all_goals(try conv=>whnf);try exact trivial
theorem put124_true (s:Sv) (W:List Wt) (hW:W.length≤999) (hs:∀w∈W,WtS w) (hp:W.Pairwise ltK) (M:Nat→Int) (w:Wt) (hw:WtS w):Sx.Callee Tryz.prog 124 [.agg (wtC w),.ptr 3 0] [.cells 107 (s.o 1 W.length 2),.row 59 3 W.length (a0e wtC wt0 W) true,.row 3 1 s.n (mdC M) false,.cells 89 [.ptr 0 0]]
  (fun v H=>v=.tup []∧∃L,PutL W w L∧(H=[.cells 107 (s.o 1 L.length 2),.row 59 3 L.length (a0e wtC wt0 L) true,.row 3 1 s.n (mdC M) false,.cells 89 [.ptr 0 0]]∨H=[.cells 107 (s.o 4 L.length 2),.gone,.row 3 1 s.n (mdC M) false,.cells 89 [.ptr 0 0],.row 59 3 L.length (a0e wtC wt0 L) false])):=by
 obtain⟨i,hi⟩:=isPos_ex hp w
 have hti:(i:Int).toNat=i:=Int.toNat_natCast i
 have hil:=hi.1
 refine a0o Tryz.E_ok Tryz.func124 rfl (by kernel_rfl) ?_
 (repeat' ((conv=>whnf);first|(with_reducible first|apply spl|apply spl'|refine iJ ?_)<;>intro hc<;>try(exfalso;omega)|refine vcq ?_|refine dr 2008 ?_|refine dr 11 ?_));all_goals(try conv=>whnf);try exact trivial
 refine pcall_view (bsearch W (by omega) hs hp w hw i hi) ?_ ?_
 ·(repeat' ((conv=>whnf);first|(with_reducible first|apply spl|apply spl'|refine iJ ?_)<;>intro hc<;>try(exfalso;omega)|refine vcq ?_|refine dr 2008 ?_|refine dr 11 ?_));all_goals(try conv=>whnf);try exact trivial
 ·(repeat' ((conv=>whnf);first|(with_reducible first|apply spl|apply spl'|refine iJ ?_)<;>intro hc<;>try(exfalso;omega)|refine vcq ?_|refine dr 2008 ?_|refine dr 11 ?_));all_goals(try conv=>whnf);try exact trivial
  ·have hc2:=hc
   obtain⟨hlt,heq⟩:=hc2
   have hk:=(cmpW_eq _ _).1 heq
   clear hc
   have hsl:(W.set i w).length=W.length:=List.length_set
   refine⟨_,_,⟨rfl,W.set i w,putL_old hp hi ⟨hlt,heq⟩,.inl rfl⟩,some [some 0,some 1,some 2,some 3],?_⟩
   rw[hsl]
   (repeat' ((conv=>whnf);first|(with_reducible first|apply spl|apply spl'|refine iJ ?_)<;>intro hc<;>try(exfalso;omega)|refine vcq ?_|refine dr 2008 ?_|refine dr 11 ?_));all_goals(try conv=>whnf);try exact trivial
   refine⟨fun j _=>?_,?_⟩
   ·dsimp only
    rw[hti]
    exact rowW_put hlt hk j
   ·(repeat' ((conv=>whnf);first|(with_reducible first|apply spl|apply spl'|refine iJ ?_)<;>intro hc<;>try(exfalso;omega)|refine vcq ?_|refine dr 2008 ?_|refine dr 11 ?_));all_goals(try conv=>whnf);try exact trivial
  ·have hne:¬(i<W.length∧cmpW (W.getD i wt0) w=0):=hc
   clear hc
   have hll:(W.take i++w :: W.drop i).length=W.length+1:=by rw[List.length_append,List.length_cons,List.length_take,List.length_drop];omega
   refine a0f [1,5] (callee_insert (n:=W.length) (i:=i) (f:=a0e wtC wt0 W) (c:=wtC w) (nz:=true) (nz2:=false) hil (by omega)) rfl ?_ ?_
   ·(repeat' ((conv=>whnf);first|(with_reducible first|apply spl|apply spl'|refine iJ ?_)<;>intro hc<;>try(exfalso;omega)|refine vcq ?_|refine dr 2008 ?_|refine dr 11 ?_));all_goals(try conv=>whnf);try exact trivial
   ·rintro _ _ ⟨rfl,rfl⟩
    (repeat' ((conv=>whnf);first|(with_reducible first|apply spl|apply spl'|refine iJ ?_)<;>intro hc<;>try(exfalso;omega)|refine vcq ?_|refine dr 2008 ?_|refine dr 11 ?_));all_goals(try conv=>whnf);try exact trivial
    refine⟨_,_,⟨rfl,W.take i++w :: W.drop i,putL_new hp hi hne,.inr rfl⟩,some [some 0,some 1,some 2,some 3,some 6],?_⟩
    rw[hll]
    (repeat' ((conv=>whnf);first|(with_reducible first|apply spl|apply spl'|refine iJ ?_)<;>intro hc<;>try(exfalso;omega)|refine vcq ?_|refine dr 2008 ?_|refine dr 11 ?_));all_goals(try conv=>whnf);try exact trivial
    refine⟨fun j _=>rowW_ins hil w j,?_⟩
    (repeat' ((conv=>whnf);first|(with_reducible first|apply spl|apply spl'|refine iJ ?_)<;>intro hc<;>try(exfalso;omega)|refine vcq ?_|refine dr 2008 ?_|refine dr 11 ?_));all_goals(try conv=>whnf);try exact trivial
def Sv.o0 (s:Sv):List V:=[.int .i64 s.x.n,.sl 2 s.x.l.length (a0e Ca.oC (0,0) s.x.l),.int .i64 s.d.H,.int .i64 s.d.T,.sl 2 s.d.Z.length (a0e zC (0,0) s.d.Z),.int .i64 s.d.hk,.int .i64 s.d.ck,.int .i64 s.d.hs.1,.int .i64 s.d.hs.2,.int .i64 s.d.cs.1,.int .i64 s.d.cs.2,.sl 2 s.sk.length (a0e zC (0,0) s.sk),.int .i64 s.cyl,.sl 1 s.sec.length (a0e seC 0 s.sec),.lit (.slice none 0 0),.osl 1 s.n]
def Sv.at (s:Sv) (i:Nat):Ca.RS:=Ca.RS.run s.n s.x.l i
theorem Sv.at_small {s:Sv} (hx:s.x.Ok) {i:Nat} (hi:i≤s.x.l.length):(0<(s.at i).E.length∧(s.at i).E.length≤17)∧((s.at i).ents s.n).length≤102∧(∀w∈(s.at i).ents s.n,WtS w∧w.2.1<s.n)∧s.n≤6∧(s.n:Int)=s.x.n:=by
 have h1:=Ca.RS.run_len s.n s.x.l i
 have h2:=hx.len
 have h3:=hx.n
 have hn:s.n≤6∧(s.n:Int)=s.x.n:=by unfold Sv.n;omega
 have h4:=Ca.RS.ents_len s.n (s.at i)
 have hE:(s.at i).E.length≤17:=by unfold Sv.at;omega
 have h5:(s.at i).E.length*s.n≤17*6:=Nat.mul_le_mul hE hn.1
 refine⟨⟨h1.1,hE⟩,by omega,fun w hw=>?_,hn⟩
 have:=Ca.RS.mem_ents.1 hw
 unfold WtS
 omega
theorem Sv.ord_at {s:Sv} (hx:s.x.Ok) {i:Nat} (hi:i<s.x.l.length):∃o1 o2:Int,s.x.l.getD i (0,0)=(o1,o2)∧((o1=1∨o1=2)∧(∃b:Nat,o2=b∧b<s.n)∨(o1=3∨o1=4)∧o2=0):=by
 have e:s.x.l.getD i (0,0)=s.x.l[i]:=by rw[List.getD_eq_getElem?_getD,List.getElem?_eq_getElem hi];rfl
 have h:=hx.ord _ (List.getElem_mem hi)
 rw[←e] at h
 generalize s.x.l.getD i (0,0)=o at h
 obtain⟨o1,o2⟩:=o
 refine⟨o1,o2,rfl,?_⟩
 have hn:(s.n:Int)=s.x.n:=by have:=hx.n;unfold Sv.n;omega
 unfold Ca.Cache.OkO at h
 dsimp only at h
 rcases h with⟨h1,h2⟩|h
 ·exact .inl ⟨h1,o2.toNat,by omega,by omega⟩
 ·exact .inr h
theorem Sv.step {s:Sv} (_hx:s.x.Ok) {i:Nat} (_hi:i<s.x.l.length) {o1 o2:Int} (ho:s.x.l.getD i (0,0)=(o1,o2)):s.at (i+1)=(s.at i).order s.n i (o1,o2):=by
 show(Ca.RS.run s.n s.x.l i).order s.n i (s.x.l.getD i (0,0))=_
 rw[ho]
 rfl
theorem Sv.put_ents {s:Sv} (hx:s.x.Ok) {i:Nat} (hi:i≤s.x.l.length) {b:Nat} (hb:b<s.n) {L:List Wt} (h:PutL ((s.at i).ents s.n) ((s.at i).E.length-1,b,(i:Int)) L):((s.at i).setE ((s.at i).E.length-1) b i).ents s.n=L:=by
 obtain⟨a,m,c,h1,h2,h3,h4,rfl⟩:=h
 exact Ca.put_list (Sv.at_small hx hi).1.1 hb (by omega) h1 h2 h3 h4
end Go.Proofs
