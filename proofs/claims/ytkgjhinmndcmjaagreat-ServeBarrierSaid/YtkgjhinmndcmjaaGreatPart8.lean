/- Own work: texts of the proof of a law (SzExt, SzFrz). No condition. -/
import Derived.Laws.CopyRow
import Derived.WideKeyEntry
import Derived.Test.YtkgjhinmndcmjaaGreatPart7
import Derived.OrdersIn
import Derived.Test.YtkgjhinmndcmjaaGreatPart0
namespace Go.Sx
open Go
variable {P:Program} {E:Env}
theorem run_append_tight (w:World) (t ty e:TypeId) (i:TypeInfo) (z:Value) (ht:P.underlying t=some (.slice e)) (hi:P.info? e=some i) (hz:i.zero=some z)
  (hzs:z.cells.size=i.size) (hsz:0<i.size) {bb:Option Nat} {cap n:Nat} {xs:List Value} (hown:w.ownsRow 0 e i.size (slVal (bb,cap) n) n xs)
  (a:Addr) (m c:Nat) (news:List Value) (hl:news.length=m*i.size) (hnews:∀j u,news[j]? = some u→w.cell? (a.add j)=some u) (h1:∀u∈news,u.oneCell'=true) (hm:1≤m)
  (h63:n+m≤140737488355328) (hbytes:(n+m)*i.bytes≤140737488355328) :
  ∃v' w',(Builtin.append_ #[t,t] ty #[slVal (bb,n) n,.slice (some a) m c]).run P w=.ok v' w'∧w'.ownsRow 0 e i.size v' (n+m) (xs++news)∧w.grownBy w' none∧
   v'≠.slice none 0 0∧(∀g,v'.ownBlock=some g→g=w.heap.size):=by
 cases bb with
 |none=>
  obtain⟨v',w',g1,g2,g3,g4,g5⟩:=run_append_ex (P:=P) w t ty e i z ht hi hz hzs hsz _ n xs hown a m c news hl hnews h1 h63 hbytes
  exact⟨v',w',g1,g2,g3,fun h=>by have:=(g4.1 h).2;omega,fun g hg=>(g5 g hg).elim (fun h=>by simp[slVal,Value.ownBlock] at h) id⟩
 |some b=>
  have hlen:(xs++news).length=(n+m)*i.size:=by rw[a0M,hown.1,hl,a0W]
  have hr:=run_append_grow (P:=P) w t ty e i z ht hi hz ⟨b,0,none⟩ n n xs hown.1 (hown.cells (g:=b) rfl) a m c news hl hnews (by omega) (by omega) (growslice_fits (by omega) hbytes)
  have hge:=grownCap_ge w (n+m) n e
  have hcm:grownCap w (n+m) n e≤maxLen:=grownCap_le_maxLen w (n+m) n e (by simp only[maxLen];omega)
  refine⟨_,_,hr,⟨hlen,.inr ⟨w.heap.size,_,_,rfl,Nat.zero_le _,heap_alloc_new w.drew _,hge,hcm,?_,?_⟩⟩,⟨rfl,rfl,rfl,by simp,fun k hk _=>heap_alloc_old w.drew _ hk⟩,by simp,fun g hg=>by simpa [Value.ownBlock] using hg.symm⟩
  ·simp only[Array.size_append,a2B,size_zeroCells,hzs,hown.1,hl,←a0W]
   congr 1
   omega
  ·simp only[Array.toList_append,a1P]
   rw[←a1P,←hlen]
   exact List.take_left
theorem append_emp_sound {I:Nat→Prop} {η:Eta} {w:World} {H:List O} (hS:Sat I η w H) (t ty e:TypeId) (i:TypeInfo) (z:Value) (ht:P.underlying t=some (.slice e)) (hi:P.info? e=some i) (hz:i.zero=some z)
  (hzs:z.cells.size=i.size) (hsz:0<i.size) (ad:Option Addr) {x:V} {xv:Value} {m:Nat} {g:Nat→List V} {c:Option Prop} (h:srcOf H i.size x=some (m,g,c)) (hc:∀p,c=some p→p) (hd:Den I η w x xv)
  (hm:0<m) (h63:m≤140737488355328) (hbytes:m*i.bytes≤140737488355328) :
  ∃v' w' news,(Builtin.append_ #[t,t] ty #[.slice ad 0 0,xv]).run P w=.ok v' w'∧w'.ownsRow 0 e i.size v' m news∧w.grownBy w' none∧
   v'≠.slice none 0 0∧(∀g,v'.ownBlock=some g→g=w.heap.size)∧
   news.length=m*i.size∧(∀u∈news,u.oneCell'=true)∧∀k,k<m→DenL I [] w (g k) ((news.drop (k*i.size)).take i.size):=by
 have hown:w.ownsRow 0 e i.size (.slice none 0 0) 0 []:=⟨by simp,.inl ⟨rfl,rfl⟩⟩
 obtain⟨v',w',news,g1,g2,g3,g4,g5,g6,g7,g8⟩:=a3b (P:=P) hS t ty e i z ht hi hz hzs hsz hown h hc hd (by omega) (by simpa using hbytes)
 refine⟨v',w',news,?_,by simpa using g2,g3,fun hv=>by have:=(g4.1 hv).2;omega,fun b hb=>by
  rcases g5 b hb with h1|h1
  ·simp[Value.ownBlock] at h1
  ·exact h1,g6,g7,g8⟩
 cases ad with
 |none=>exact g1
 |some b=>
  rcases a2o hS h hc hd with⟨h0,_⟩|⟨b2,o2,cap2,rfl,ns,k1,k2,k3,k4⟩
  ·omega
  ·have r1:=run_append_nil (P:=P) w t ty e i z ht hi hz ⟨b2,o2,none⟩ m cap2 ns k1 k2 hm (by omega) (by omega)
   have r2:=run_append_grow (P:=P) w t ty e i z ht hi hz b 0 0 [] (by simp) (by simp) ⟨b2,o2,none⟩ m cap2 ns k1 k2 (by omega) (by omega) (growslice_fits (by omega) (by simpa using hbytes))
   rw[g1] at r1
   rw[r2,r1]
   simp
theorem run_copy_rowN (w:World) (dT sT ty elem:TypeId) (i:TypeInfo) (g o dLen dCap:Nat) (a:Addr) (sLen sCap:Nat) (cur:Array Value) (t:TypeId) (cs:List Value)
  (hu:P.underlying dT=some (.slice elem)) (hi:P.info? elem=some i)
  (hg:w.heap[g]? = some (.cells cur t (0,0))) (hn:cs.length=min sLen dLen*i.size)
  (hsrc:∀j v,cs[j]? = some v→w.cell? (a.add j)=some v) (hfit:o+cs.length≤cur.size) (h1:∀v∈cs,v.oneCell'=true) :
  (Builtin.copy_ #[dT,sT] ty #[.slice (some ⟨g,o,none⟩) dLen dCap,.slice (some a) sLen sCap]).run P w =
   .ok (goInt ((min sLen dLen:Nat):Int)) (w.setRow g (cur.toList.take o++cs++cur.toList.drop (o+cs.length)).toArray):=by
 have hl:=run_loadCells_list (P:=P) w a cs hsrc
 have hst:=run_storeCells_at P g o t cs 0 cur w hg (by simpa using hfit) h1
 have hn':Nat.min sLen dLen*i.size=cs.length:=hn.symm
 simp[Builtin.copy_,run_underlying hu,Builtin.lenOf,Builtin.firstCells,sizeOf,typeInfo,hi,hn',hl,hst]
theorem run_copy_zero (w:World) (dT sT ty elem:TypeId) (i:TypeInfo) (d a:Option Addr) (dLen dCap sLen sCap:Nat) (hu:P.underlying dT=some (.slice elem)) (hi:P.info? elem=some i) (hn:min sLen dLen=0) :
  (Builtin.copy_ #[dT,sT] ty #[.slice d dLen dCap,.slice a sLen sCap]).run P w=.ok (goInt 0) w:=by
 have hn':Nat.min sLen dLen=0:=hn
 cases d<;>cases a<;>simp[Builtin.copy_,run_underlying hu,Builtin.lenOf,Builtin.firstCells,sizeOf,typeInfo,hi,hn',loadCells,loadCellsFrom,storeCells]
theorem mrgZ_pos {p:Prop} (hp:p):∀{a b:List V},a.length=b.length→mrgZ p a b=a
 |[],[],_=>rfl
 |x :: a,y :: b,h=>by
  simp only[mrgZ]
  rw[mrg1_pos hp,mrgZ_pos hp (by simpa using h)]
 |[],_ :: _,h=>by simp at h
 |_ :: _,[],h=>by simp at h
theorem mrgZ_neg {p:Prop} (hp:¬p):∀{a b:List V},mrgZ p a b=b
 |[],_=>by simp[mrgZ]
 |_ :: _,[]=>by simp[mrgZ]
 |x :: a,y :: b=>by
  simp only[mrgZ]
  rw[mrg1_neg hp,mrgZ_neg hp]
theorem copyC_den {I:Nat→Prop} {η:Eta} {w:World} {sz k:Nat} {g:Nat→List V} {cs:List Value} (hcs:cs.length=k*sz) (hg:∀q,q<k→DenL I η w (g q) ((cs.drop (q*sz)).take sz)):∀(r i:Nat) (l:List V) (ls:List Value),DenL I η w l ls→r*sz≤l.length→k≤i+r→
  DenL I η w (copyC sz k g r i l) (cs.drop (i*sz)++ls.drop (cs.length-i*sz))
 |0,i,l,ls,hd,_,hk=>by
  have:k*sz≤i*sz:=a0H _ (by omega)
  rw[a2J (by omega),show cs.length-i*sz=0 by omega]
  simpa [copyC] using hd
 |r+1,i,l,ls,hd,hl,hk=>by
  simp only[copyC]
  rw[a2n,a2f,take_eq]
  rw[a0W] at hl
  have hll:=hd.length
  have ih:=copyC_den hcs hg r (i+1) (l.drop sz) (ls.drop sz) (hd.drop sz) (by simp;omega) (by omega)
  by_cases hik:i<k
  ·have hle:(i+1)*sz≤k*sz:=a0H _ hik
   rw[a0W] at hle
   have hgi:=hg i hik
   have hgl:=hgi.length
   simp only[a0J,a1E,hcs] at hgl
   rw[mrgZ_pos hik (by simp;omega)]
   have e1:cs.drop (i*sz)++ls.drop (cs.length-i*sz)=(cs.drop (i*sz)).take sz++(cs.drop ((i+1)*sz)++(ls.drop sz).drop (cs.length-(i+1)*sz)):=by
    rw[←a1P]
    congr 1
    ·rw[a0W,Nat.one_mul,←a3R,a1T]
    ·rw[a3R,a0W]
     congr 1
     omega
   rw[e1]
   exact hgi.append ih
  ·have hle:k*sz≤i*sz:=a0H _ (by omega)
   rw[mrgZ_neg hik]
   have hle2:k*sz≤(i+1)*sz:=a0H _ (by omega)
   have e1:cs.drop (i*sz)=[]:=a2J (by omega)
   have e2:cs.drop ((i+1)*sz)=[]:=a2J (by omega)
   rw[e1,show cs.length-i*sz=0 by omega]
   rw[e2,show cs.length-(i+1)*sz=0 by omega] at ih
   simp only[a4A,List.drop_zero] at ih ⊢
   have:=(hd.take sz).append ih
   rwa [a1T] at this
section
open Go.ChangeMaps (setBlock)
variable {D:List Int→List Value→Prop} {ks:List IntKind} {ka va:Bool} {dom:List Int→Prop} {n:Nat} {g:MG} {es:Array MapEntry} {kt et t:TypeId} {w:World} {b:Nat}
theorem entry_make_run (h:MapRel D ks ka va dom n g es.toList) (K:KeyT P kt ks ka) (hu:P.underlying t=some (.map kt et)) (hb:w.heap[b]? = some (.map es g.clock)) {k:List Int} (hk:k.length=ks.length) {zs:List Value} (hz:(zeroValue et).run P w=.ok (encV va zs) w) (h1:∀u∈zs,u.oneCell'=true) (hl:va=false→zs.length=1) :
  ∃v0 es' g',(Instr.mapEntry t (.map (some b)) (encK ks ka k)).run P w=.ok (.tuple #[v0,.int .i64 (g'.born k)]) (setBlock w b (.map es' g'.clock))∧
   MapRel (fun k' vs'=>(dom k'→D k' vs')∧(¬dom k'→vs'=zs)) ks ka va (a1l dom k) (nPut dom n k) g' es'.toList:=by
 have hc:=K.flat.check w 10000 false k (a0K _) hk
 rcases h.find K hk w with⟨e1,e2,_⟩|⟨j,e,e1,e2,e3,e4⟩
 ·refine⟨encV va zs,es.push {key:=encK ks ka k,val:=encV va zs,born:=g.clock},⟨fun k'=>@ite _ (k'=k) (Classical.propDecidable _) g.clock (g.born k'),g.clock+1⟩,?_,?_⟩
  ·simp only[Instr.mapEntry,Sem.run_bind,run_underlying hu,Result.andThen_ok,getObj,Sem.run,hb,hc,e1,hz]
   simp[run_setMap hb,goInt]
  ·have:=h.put hk e2 h1 hl
   have hn:nPut dom n k=n+1:=by simp[nPut,e2]
   rw[hn,Array.toList_push]
   refine MapRel.turn this (fun k' _=>a2W) (fun k' vs' _ hd hD=>⟨fun hd'=>hD.2 (fun e=>e2 (e▸hd')),fun hn'=>hD.1 ?_⟩)
   rcases hd with e|hd
   ·exact e
   ·exact(hn' hd).elim
 ·have hjl:=(a0B.1 e2).1
  have hje:es[j]? = some e:=by simpa using e2
  have hsame:es.modify j (fun x=>{x with key:=encK ks ka k})=es:=by
   apply Array.ext'
   apply a2L (by simp)
   intro i a b
   simp only[Array.getElem_toList,Array.getElem_modify]
   split
   ·rename_i hij
    subst hij
    have:es[j]=e:=by have:=(a0L.1 hje).2;exact this
    rw[this,←e3]
   ·rfl
  obtain⟨_,hbn,_⟩:=h.at (a1Y e2) hk e3
  refine⟨e.val,es,g,?_,?_⟩
  ·have hk0:((es[j]?).map (·.key)).getD (encK ks ka k)=encK ks ka k:=by rw[hje];exact e3
   simp only[Instr.mapEntry,Sem.run_bind,run_underlying hu,Result.andThen_ok,getObj,Sem.run,hb,hc,e1,hk0,K.flat.stays hk w,hsame]
   simp[run_setMap hb,goInt,hje,hbn]
  ·have hn:nPut dom n k=n:=by simp[nPut,e4]
   rw[hn]
   refine h.turn (fun k' _=>⟨.inr,fun hh=>?_⟩) (fun k' vs' _ hd hD=>⟨fun _=>hD,fun hn'=>(hn' hd).elim⟩)
   rcases hh with rfl|hh
   ·exact e4
   ·exact hh
theorem entry_store_run (h:MapRel D ks ka va dom n g es.toList) (hb:w.heap[b]? = some (.map es g.clock)) {k:List Int} (hk:k.length=ks.length) (hd:dom k) {vs:List Value} (h1:∀u∈vs,u.oneCell'=true) (hl:va=false→vs.length=1) (ty:TypeId) :
  ∃es':Array MapEntry,(Instr.entryStore ty (.map (some b)) (.int .i64 (g.born k)) (encV va vs)).run P w=.ok () (setBlock w b (.map es' g.clock))∧
   MapRel (fun k' vs'=>(k'=k→vs'=vs)∧(k'≠k→D k' vs')) ks ka va dom n g es'.toList:=by
 obtain⟨e,he,hek⟩:=h.has k hk hd
 obtain⟨_,hbn,_⟩:=h.at he hk hek
 obtain⟨j,hj,hje⟩:=List.mem_iff_getElem.1 he
 have e2:es.toList[j]? = some e:=by rw[a0C hj,hje]
 have hidx:es.findIdx? (fun x=>(x.born:Int) == ((g.born k:Nat):Int))=some j:=by
  rw[WideElems.findIdx_arr,←hbn]
  exact WideElems.findIdx_born (by rw[List.Nodup,a2Z];exact h.stamps) e2
 refine⟨es.modify j fun x=>{x with val:=encV va vs},?_,?_⟩
 ·simp[Instr.entryStore,getObj,Sem.run,hb,Result.andThen,asInt,asIntOf,hidx,run_setMap hb]
 ·have:=h.over hk e2 hek h1 hl
  have hes:(es.modify j fun x=>{x with val:=encV va vs}).toList=es.toList.set j {e with key:=encK ks ka k,val:=encV va vs}:=by
   apply a2L (by simp)
   intro i a b
   simp only[Array.getElem_toList,Array.getElem_modify,List.getElem_set]
   split
   ·rename_i hij
    subst hij
    have:es[j]=e:=by simpa using hje
    rw[this,←hek]
   ·rfl
  rw[hes]
  exact this
end
section
open Go.ChangeMaps (setBlock)
variable {R:Rel} (hR:RelH R) (hE:a1b E P) {r:Option Nat} {n:Nat} {Q:Exit→Act→World→Prop}
include hR hE
omit hE in
theorem rowCopy_sound {T:List V} {H:List O} {o:Oper} {K:KT} {I:Nat→Prop} {η:Eta} {w:World} {a:Act} (hg:Good I η w T H a) (hd:∀c,o.op≠.defer c) {t t' e:TypeId} {i:TypeInfo} (hu:P.underlying t=some (.slice e)) (hi:P.info? e=some i)
  {x:V} {xv dv:Value} {m:Nat} {g:Nat→List V} {c:Option Prop} (hsrc:srcOf H i.size x=some (m,g,c)) (hx:Den I η w x xv) {id off k:Nat}
  (hdv:(k=0∧∃ad cap,dv=.slice ad 0 cap)∨∃b cc cap,η[id]? = some (some b,cc)∧dv=.slice (some ⟨b,off*i.size,none⟩) k cap)
  (hrunof:∀v' w',(Builtin.copy_ #[t,t'] o.type #[dv,xv]).run P w=.ok v' w'→(execOp a.eval o).run P w=.ok (.value v') w') (h:rowCopy T H o K i.size m g c id off k) :
  o.wpIn (Fw r) n P a w (a1r R I (own η H) w a.defers K) Q:=by
 unfold rowCopy at h
 split at h
 ·rename_i ty sz' n' f nz hgt
  simp only[cond_eq_ite] at h
  split at h
  ·rename_i hsz
   obtain rfl:=a0f hsz
   have h0:=srcC_spec h
   clear h
   obtain⟨hc,hle,h⟩:=h0
   rw[a0p,a0v,a0n] at h
   have hH:=a0j hgt trivial
   by_cases hk0:min m k=0
   ·have hsame:(fun j=>if off≤j∧j<off+min m k then g (j-off) else f j)=f:=by
     funext j
     rw[if_neg (by omega)]
    rw[hsame] at h
    have hset:H.set id (.row ty i.size n' f nz)=H:=by
     apply a1J
     intro j
     rw[a0G]
     split
     ·rename_i hj
      subst hj
      rw[hH]
      simp[(a0B.1 hH).1]
     ·rfl
    rw[hset,hk0] at h
    have hrun:(Builtin.copy_ #[t,t'] o.type #[dv,xv]).run P w=.ok (goInt 0) w:=by
     have hds:∃ad cap,dv=.slice ad k cap:=by
      rcases hdv with⟨rfl,ad,cap,h1⟩|⟨b,cc,cap,_,h1⟩
      ·exact⟨ad,cap,h1⟩
      ·exact⟨_,cap,h1⟩
     obtain⟨ad,cap,rfl⟩:=hds
     rcases a2o hg.sat hsrc hc hx with⟨rfl,a0,cap0,rfl⟩|⟨b,o',cap',rfl,_⟩
     ·exact run_copy_zero w t t' o.type e i ad a0 k cap 0 cap0 hu hi hk0
     ·exact run_copy_zero w t t' o.type e i ad _ k cap m cap' hu hi hk0
    exact a0m hd (hrunof _ w hrun) ⟨Act.put_defers' _ _ _,I,η,_,_,h,⟨hg.sat,hg.tmp.put rfl⟩,hR.step (Step.refl _ _ _) (fun _ _ hh=>hh)⟩
   ·rcases a2o hg.sat hsrc hc hx with⟨rfl,_⟩|⟨b2,o2,cap2,rfl,news,k1,k2,k3,k4⟩
    ·omega
    rcases hdv with⟨rfl,_⟩|⟨b,cc,cap,hη,rfl⟩
    ·omega
    obtain⟨xs,hown,h1,hnil,hden⟩:=hg.sat.obj id _ _ hη hH
    obtain⟨hxl,hown2⟩:=hown
    rcases hown2 with⟨hbad,_⟩|⟨gg,cap',cur,hge,_,hheap,hnc,hcm,hcs,htake⟩
    ·cases hbad
    ·cases hge
     generalize hq:min m k=q at h hk0
     have hqm:q*i.size≤m*i.size:=a0H _ (by omega)
     have hcsl:(news.take (q*i.size)).length=q*i.size:=by rw[a0J,k1];omega
     have hfit:(off+q)*i.size≤n'*i.size:=a0H _ (by omega)
     rw[a0W] at hfit
     have hcap:n'*i.size≤cc*i.size:=a0H _ hnc
     have hone:∀u∈news.take (q*i.size),u.oneCell'=true:=fun u hu=>k3 u (a0X hu)
     have hrun:=run_copy_rowN (P:=P) w t t' o.type e i b (off*i.size) k cap ⟨b2,o2,none⟩ m cap2 cur ty (news.take (q*i.size)) hu hi hheap (by rw[hcsl,hq]) (fun j v hj=>by
      rw[a1C] at hj
      split at hj
      ·exact k2 j v hj
      ·cases hj) (by rw[hcsl];omega) hone
     rw[hcsl,hq] at hrun
     have hcl:cur.toList.length=cc*i.size:=by rw[a2Y];exact hcs
     have hnew:(cur.toList.take (off*i.size)++news.take (q*i.size)++cur.toList.drop (off*i.size+q*i.size)).take (n'*i.size)=xs.take (off*i.size)++news.take (q*i.size)++xs.drop ((off+q)*i.size):=by
      rw[←htake,a0W]
      apply a1J
      intro j
      simp only[a1C,a1G,a0M,a0J,a0R,hcl,k1]
      have e0:min (q*i.size) (m*i.size)=q*i.size:=by omega
      by_cases c1:j<n'*i.size
      ·rw[if_pos c1]
       have e1:min (off*i.size) (cc*i.size)=off*i.size:=by omega
       have e2:min (off*i.size) (min (n'*i.size) (cc*i.size))=off*i.size:=by omega
       simp only[e0,e1,e2]
       by_cases c2:j<off*i.size+q*i.size
       ·simp only[c2,if_true]
        by_cases c3:j<off*i.size
        ·simp[c3]
         omega
        ·simp[c3]
       ·simp only[c2,if_false]
        rw[if_pos (by omega)]
      ·rw[if_neg c1]
       have e2:min (off*i.size) (min (n'*i.size) (cc*i.size))=off*i.size:=by omega
       simp only[e0,e2]
       rw[if_neg (by omega),if_neg (by omega)]
     obtain⟨s1,s2,s3⟩:=hg.sat.write (o':=.row ty i.size n' (fun j=>if off≤j∧j<off+q then g (j-off) else f j) nz) hη hH trivial trivial
      (cur.toList.take (off*i.size)++news.take (q*i.size)++cur.toList.drop (off*i.size+q*i.size)).toArray (by
      rintro w' rfl m0
      refine⟨xs.take (off*i.size)++news.take (q*i.size)++xs.drop ((off+q)*i.size),⟨?_,.inr ⟨b,cc,_,rfl,a1X _,setRow_heap w b _ _ ty _ hheap,hnc,hcm,?_,?_⟩⟩,?_,hnil,?_⟩
      ·simp only[a0M,hcsl,a0J,a1E,hxl,a0W] at hcsl ⊢;omega
      ·simp only[a2B,a0M,hcsl,a0J,a1E,hcl] at hcsl ⊢;omega
      ·simpa using hnew
      ·intro u hu
       simp only[a0U] at hu
       rcases hu with(hu|hu)|hu
       ·exact h1 u (a0X hu)
       ·exact hone u hu
       ·exact h1 u (a0Y hu)
      ·refine rows_splice (g:=g) hxl hcsl (by omega) (fun j hj=>DenL.mono m0.nil _ _ (hden j hj)) (fun j hj=>DenL.mono m0.nil _ _ ?_)
       have:=k4 j (by omega)
       refine Eq.mp ?_ this
       have hj2:(j+1)*i.size≤q*i.size:=a0H _ hj
       rw[a0W] at hj2
       rw[a3I,a2F]
       congr 2
       omega)
     exact a0m hd (hrunof _ _ hrun) ⟨Act.put_defers' _ _ _,I,η,_,_,h,⟨s1,(hg.tmp.mono s2).put rfl⟩,hR.step s3 (fun _ _ hh=>hh)⟩
  ·exact h.elim
 ·exact h.elim
theorem extOp_sound {T:List V} {H:List O} {o:Oper} {K:KT} {I:Nat→Prop} {η:Eta} {w:World} {a:Act} (hg:Good I η w T H a) (h:extOp E T H o K) (ht:∀x∈o.op.operands.toList,a2m T x) :
  o.wpIn (Fw r) n P a w (a1r R I (own η H) w a.defers K) Q:=by
 have hd:∀c,o.op≠.defer c:=by
  intro c hc
  unfold extOp at h
  rw[hc] at h
  exact h
 unfold extOp at h
 split at h
 ·rename_i sx x t t' hop
  have hs:=a0l hg.tmp (ht sx (by simp[hop,Op.operands,Call.operands]))
  have hx:=a0l hg.tmp (ht x (by simp[hop,Op.operands,Call.operands]))
  split at h
  ·rename_i e he htt
   obtain rfl:=a0f htt
   obtain⟨hu,i,hinfo,hsz,hby,hke,hzz⟩:=a0q hE he
   split at h
   ·rename_i z m g c hz hsrc hpos
    rw[hzz] at hz
    obtain⟨zv,hzv,_,hz1,hzs⟩:=a1d hz
    simp only[a0D] at hpos
    have hb1024:=a0P hpos.2
    have hpos:=a0P hpos.1
    rw[←hsz] at *
    rw[←hby] at *
    have hrunof:∀v' w',(Builtin.append_ #[t,t] o.type #[a.eval sx,a.eval x]).run P w=.ok v' w'→(execOp a.eval o).run P w=.ok (.value v') w':=by
     intro v' w' hr
     simp[execOp,hop,resolve,invoke,builtin,hr]
    split at h
    ·rename_i hsv
     rw[hsv] at hs
     obtain⟨ad,hsval⟩:=hs
     have h0:=srcC_spec h
     clear h
     obtain⟨hc,h1,h2⟩:=h0
     rw[hsval] at hrunof
     by_cases hm0:m=0
     ·subst hm0
      have h:=h1 rfl
      rw[a0n] at h
      have hrun:(Builtin.append_ #[t,t] o.type #[.slice ad 0 0,a.eval x]).run P w=.ok (.slice ad 0 0) w:=by
       have hxs:∃a0 c0,a.eval x=.slice a0 0 c0:=by
        rcases a2o hg.sat hsrc hc hx with⟨_,a0,cap0,h0⟩|⟨b,o',cap',h0,_⟩
        ·exact⟨a0,cap0,h0⟩
        ·exact⟨_,cap',h0⟩
       obtain⟨a0,c0,hxv⟩:=hxs
       rw[hxv]
       cases ad<;>cases a0<;>simp[Builtin.append_,run_underlying hu,sizeOf,typeInfo,hinfo,Builtin.lenOf,Builtin.firstCells,loadCells,loadCellsFrom,storeCells]
      exact a0m hd (hrunof _ _ hrun) ⟨Act.put_defers' _ _ _,I,η,_,_,h,⟨hg.sat,hg.tmp.put ⟨ad,rfl⟩⟩,hR.step (Step.refl _ _ _) (fun _ _ hh=>hh)⟩
     ·obtain⟨hb2,h⟩:=h2 hm0
      rw[natK_eq,a1k,a1i,a0n] at h
      have hb1:m*i.bytes≤137438953472*1024:=a2I hb2 hb1024
      obtain⟨v',w',news,g1,g2,g3,g4,g5,g6,g7,g8⟩:=append_emp_sound (P:=P) hg.sat t o.type e i zv hu hinfo hzv hzs hpos ad hsrc hc hx (by omega) (by omega) (by omega)
      obtain⟨e',k1,k2,k3,k4,k5⟩:=a2b g2
      obtain⟨s1,s2,s3⟩:=hg.sat.renew H rfl (fun j o1 hj _=>hj) none g3 (fun b hb=>by cases hb) e' (.row e i.size m g false) (fun b c2 hb=>by
       refine⟨.inr ?_,k4 b c2 hb⟩
       rw[k1,slVal_own] at g5
       exact g5 b (by rw[hb])) (fun m0=>by
       refine⟨news,by rw[←k1];exact g2,g7,?_,fun q hq=>DenL.mono m0.nil _ _ (g8 q hq)⟩
       rw[k2]
       exact⟨fun hv=>(g4 hv).elim,fun hv=>by cases hv.1⟩)
      refine a0m hd (hrunof v' w' g1) ⟨Act.put_defers' _ _ _,I,_,_,_,h,⟨s1,(hg.tmp.mono s2).put ⟨e',?_,k5,k1⟩⟩,hR.step s3 (fun _ _ hh=>by rw[a0F (a0B.1 hh).1];exact hh)⟩
      rw[←hg.sat.len]
      simp
    ·rename_i id n0 hsv
     rw[hsv] at hs
     obtain⟨⟨bb,cp⟩,⟨hη,_⟩,_,hsval⟩:=hs
     split at h
     ·rename_i ty sz n' f nz hgt
      simp only[cond_eq_ite,a0D] at h
      split at h
      ·rename_i hcc
       obtain rfl:=a0f hcc.1
       obtain rfl:=a0f hcc.2
       have h0:=srcC_spec h
       clear h
       obtain⟨hc,⟨hnn,hm1,hb2⟩,h⟩:=h0
       subst hnn
       have hb1:(n0+m)*i.bytes≤137438953472*1024:=a2I hb2 hb1024
       rw[a1k,a1i,a0n] at h
       have hH:=a0j hgt trivial
       obtain⟨xs,hown,h1,hnil,hden⟩:=hg.sat.obj id _ _ hη hH
       rcases a2o hg.sat hsrc hc hx with⟨h0,_⟩|⟨b2,o2,cap2,hxv,ns,k1,k2,k3,k4⟩
       ·omega
       obtain⟨v',w',g1,g2,g3,g4,g5⟩:=run_append_tight (P:=P) w t o.type ty i zv hu hinfo hzv hzs hpos hown ⟨b2,o2,none⟩ m cap2 ns k1 k2 k3 hm1 (by omega) (by omega)
       rw[←hxv,←hsval] at g1
       obtain⟨e',q1,q2,q3,q4,q5⟩:=a2b g2
       have hrows:=appended_rows hown.1 k1 hden k4
       obtain⟨s1,s2,s3⟩:=hg.sat.renew H rfl (fun j o1 hj _=>hj) none g3 (fun b hb=>by cases hb) e' (.row ty i.size (n0+m) (appF n0 f g) false) (fun b c2 hb=>by
        refine⟨.inr ?_,q4 b c2 hb⟩
        rw[q1,slVal_own] at g5
        exact g5 b (by rw[hb])) (fun m0=>by
        refine⟨xs++ns,by rw[←q1];exact g2,fun u hu=>(a0U.1 hu).elim (h1 u) (k3 u),?_,fun q hq=>DenL.mono m0.nil _ _ (hrows q hq)⟩
        rw[q2]
        exact⟨fun hv=>(g4 hv).elim,fun hv=>by cases hv.1⟩)
       refine a0m hd (hrunof v' w' g1) ⟨Act.put_defers' _ _ _,I,_,_,_,h,⟨s1,(hg.tmp.mono s2).put ⟨e',?_,q5,q1⟩⟩,hR.step s3 (fun _ _ hh=>by rw[a0F (a0B.1 hh).1];exact hh)⟩
       rw[←hg.sat.len]
       simp
      ·exact h.elim
     ·exact h.elim
    ·rename_i id szw n0 hsv
     rw[hsv] at hs
     obtain⟨ee,hη,hnz,hsval⟩:=hs.1 rfl
     split at h
     ·rename_i ty sz n' f nz hgt
      simp only[cond_eq_ite,a0D] at h
      split at h
      ·rename_i hcc
       obtain rfl:=a0f hcc.1
       obtain rfl:=a0f hcc.2
       have h0:=srcC_spec h
       clear h
       obtain⟨hc,⟨hnn,hn0,hm1,hb2⟩,h⟩:=h0
       have hb1:(n0+m)*i.bytes≤137438953472*1024:=a2I hb2 hb1024
       rw[a1k,a0p,a1i,a0n,a0v] at h
       have hH:=a0j hgt trivial
       obtain⟨xs,hown,h1,hnil,hden⟩:=hg.sat.obj id _ _ hη hH
       have hle:n0*i.size≤n'*i.size:=a0H _ hnn
       have hown':w.ownsRow 0 ty i.size (slVal ee n0) n0 (xs.take (n0*i.size)):=by
        obtain⟨hxl,hown2⟩:=hown
        refine⟨by rw[a0J,hxl];omega,?_⟩
        obtain⟨bb,cp⟩:=ee
        cases bb with
        |none=>exact absurd (hnil.1 rfl).2 (by omega)
        |some b=>
         rcases hown2 with⟨hbad,_⟩|⟨g',cap',cur,hge,q1,q2,q3,q4,q5,q6⟩
         ·cases hbad
         ·cases hge
          refine .inr ⟨b,cp,cur,rfl,q1,q2,by omega,q4,q5,?_⟩
          rw[←q6,a2F]
          congr 1
          omega
       have hden':∀k,k<n0→DenL I [] w (f k) (((xs.take (n0*i.size)).drop (k*i.size)).take i.size):=by
        intro k hk
        have hk2:(k+1)*i.size≤n0*i.size:=a0H _ hk
        rw[a0W] at hk2
        refine Eq.mp ?_ (hden k (by omega))
        rw[a3I,a2F]
        congr 2
        omega
       obtain⟨v',w',news,g1,g2,g3,g4,g5,g6,g7,g8⟩:=a3b (P:=P) hg.sat t o.type ty i zv hu hinfo hzv hzs hpos hown' hsrc hc hx (by omega) (by omega)
       obtain⟨e',k1,k2,k3,k4,k5⟩:=a2b g2
       rw[slVal_own] at g3 g5
       obtain⟨s1,s2,s3⟩:=hg.sat.renew (H.set id .gone) (by simp) (fun j o1 hj hl=>by
        rw[a0G] at hj
        by_cases hji:id=j
        ·rw[if_pos hji] at hj
         split at hj
         ·cases hj;exact hl.elim
         ·cases hj
        ·rw[if_neg hji] at hj;exact hj) ee.1 g3 (fun b hb=>by
        obtain⟨bb,cp⟩:=ee
        simp only at hb
        subst hb
        refine⟨own_mk hη hH trivial,?_⟩
        rintro⟨j,c2,o2,q1,q2,q3⟩
        rw[a0G] at q2
        by_cases hji:id=j
        ·rw[if_pos hji] at q2
         split at q2
         ·cases q2;exact(O.has_live q3).elim
         ·cases q2
        ·rw[if_neg hji] at q2
         exact hji (hg.sat.apart id j b _ c2 _ o2 hη q1 hH q2 (.inl ⟨trivial,rfl⟩) q3)) e' (.row ty i.size (n0+m) (appF n0 f g) false) (fun b c2 hb=>by
        refine⟨?_,k4 b c2 hb⟩
        rw[k1,slVal_own] at g5
        have:=g5 b (by rw[hb])
        exact this) (fun m0=>by
        refine⟨xs.take (n0*i.size)++news,by rw[←k1];exact g2,fun u hu=>?_,?_,?_⟩
        ·rcases a0U.1 hu with hu|hu
         ·exact h1 u (a0X hu)
         ·exact g7 u hu
        ·rw[k2,g4]
         constructor
         ·rintro⟨q1,q2⟩;omega
         ·rintro⟨q1,q2⟩;cases q1
        ·intro k hk
         exact DenL.mono m0.nil _ _ (appended_rows hown'.1 g6 hden' g8 k hk))
       rw[hsval] at hrunof
       refine a0m hd (hrunof v' w' g1) ⟨Act.put_defers' _ _ _,I,_,_,_,h,⟨s1,(hg.tmp.mono s2).put ⟨e',?_,k5,k1⟩⟩,hR.step s3 (fun _ _ hh=>by rw[a0F (a0B.1 hh).1];exact hh)⟩
       rw[←hg.sat.len]
       simp
      ·exact h.elim
     ·exact h.elim
    ·exact h.elim
   ·exact h.elim
  ·exact h.elim
 ·rename_i dx x t t' hop
  have hdx:=a0l hg.tmp (ht dx (by simp[hop,Op.operands,Call.operands]))
  have hx:=a0l hg.tmp (ht x (by simp[hop,Op.operands,Call.operands]))
  split at h
  ·rename_i e he
   obtain⟨hu,i,hinfo,hsz,hby,hke,hzz⟩:=a0q hE he
   have hrunof:∀v' w',(Builtin.copy_ #[t,t'] o.type #[a.eval dx,a.eval x]).run P w=.ok v' w'→(execOp a.eval o).run P w=.ok (.value v') w':=by
    intro v' w' hr
    simp[execOp,hop,resolve,invoke,builtin,hr]
   split at h
   ·rename_i m g c hsrc
    rw[←hsz] at *
    split at h
    ·rename_i id k hdv
     rw[hdv] at hdx
     obtain⟨⟨bb,cc⟩,hη,hnz,hv⟩:=hdx
     refine rowCopy_sound hR hg hd hu hinfo hsrc hx ?_ hrunof h
     rw[hv]
     cases bb with
     |none=>exact .inl ⟨(hnz rfl).1,none,0,rfl⟩
     |some b=>exact .inr ⟨b,cc,cc,hη,by simp[slVal]⟩
    ·rename_i id sz off k hdv
     rw[hdv] at hdx
     simp only[cond_eq_ite] at h
     split at h
     ·rename_i hsz'
      obtain rfl:=a0f hsz'
      refine rowCopy_sound hR hg hd hu hinfo hsrc hx ?_ hrunof h
      rcases hdx.2 with⟨h0,ad,cap,h1⟩|⟨b,cc,cap,h0,_,h1⟩
      ·exact .inl ⟨h0,ad,cap,h1⟩
      ·exact .inr ⟨b,cc,cap,h0,h1⟩
     ·exact h.elim
    ·rename_i id off sz k cp hdv
     rw[hdv] at hdx
     split at h
     ·rename_i ty vs hgt
      simp only[cond_eq_ite,a0D] at h
      split at h
      ·rename_i hcc
       obtain rfl:=a0f hcc.1
       have hle:=a0P hcc.2
       rw[a1j] at hle
       have h0:=srcC_spec h
       clear h
       obtain⟨hc,h⟩:=h0
       rw[forceL_eq,a0p,a0v,a0n,a2n,take_eq,a2f] at h
       obtain⟨b,cc,hη,hkc,hdval⟩:=hdx
       have hH:=a0j hgt trivial
       obtain⟨b',c',heq,xs,hb,h1,hden⟩:=hg.sat.obj id _ _ hη hH
       cases heq
       have hxl:=hden.length
       rw[hdval] at hrunof
       have main:∀(cs:List Value),cs.length=min m k*i.size→(∀q,q<min m k→DenL I [] w (g q) ((cs.drop (q*i.size)).take i.size))→(∀u∈cs,u.oneCell'=true)→
         (Builtin.copy_ #[t,t'] o.type #[.slice (some ⟨b,off,none⟩) k cp,a.eval x]).run P w=.ok (goInt ((min m k:Nat):Int)) (w.setRow b (xs.take off++cs++xs.drop (off+cs.length)).toArray)→
         o.wpIn (Fw r) n P a w (a1r R I (own η H) w a.defers K) Q:=by
        intro cs hcl hcd hc1 hrun
        have hqc:min m k*i.size≤cp*i.size:=a0H _ (by omega)
        obtain⟨s1,s2,s3⟩:=hg.sat.write (o':=.cells ty (vs.take off++copyC i.size (min m k) g cp 0 (vs.drop off))) hη hH trivial trivial (xs.take off++cs++xs.drop (off+cs.length)).toArray (by
         rintro w' rfl m0
         refine⟨b,cc,rfl,_,setRow_heap w b _ _ ty _ hb,?_,?_⟩
         ·intro u hu
          simp only[a0U] at hu
          rcases hu with(hu|hu)|hu
          ·exact h1 u (a0X hu)
          ·exact hc1 u hu
          ·exact h1 u (a0Y hu)
         ·have:=copyC_den (I:=I) (η:=η) (w:=w) hcl (fun q hq=>DenL.mono (Mono.ofNil I η w) _ _ (hcd q hq)) cp 0 (vs.drop off) (xs.drop off) (hden.drop off) (by simp;omega) (by omega)
          simp only[Nat.zero_mul,List.drop_zero,Nat.sub_zero,a3R] at this
          have hap:=(DenL.mono m0 _ _ (hden.take off)).append (DenL.mono m0 _ _ this)
          rw[←a1P] at hap
          exact hap)
        exact a0m hd (hrunof _ _ hrun) ⟨Act.put_defers' _ _ _,I,η,_,_,h,⟨s1,(hg.tmp.mono s2).put rfl⟩,hR.step s3 (fun _ _ hh=>hh)⟩
       by_cases hk0:min m k=0
       ·refine main [] (by simp[hk0]) (fun q hq=>by omega) (by simp) ?_
        have hxs:∃a0 c0,a.eval x=.slice a0 m c0:=by
         rcases a2o hg.sat hsrc hc hx with⟨rfl,a0,cap0,h0⟩|⟨b,o',cap',h0,_⟩
         ·exact⟨a0,cap0,h0⟩
         ·exact⟨_,cap',h0⟩
        obtain⟨a0,c0,hxv⟩:=hxs
        rw[hxv,hk0]
        have hself:w.setRow b (xs.take off++[]++xs.drop (off+([]:List Value).length)).toArray=w:=by
         simp only[a3V,List.length_nil,a2O,a1T]
         exact setRow_self w b xs.toArray ty (0,0) hb
        rw[hself]
        exact run_copy_zero w t t' o.type e i _ a0 k cp m c0 hu hinfo hk0
       ·rcases a2o hg.sat hsrc hc hx with⟨rfl,_⟩|⟨b2,o2,cap2,hxv,news,k1,k2,k3,k4⟩
        ·omega
        have hqm:min m k*i.size≤m*i.size:=a0H _ (by omega)
        have hqc:min m k*i.size≤cp*i.size:=a0H _ (by omega)
        have hcsl:(news.take (min m k*i.size)).length=min m k*i.size:=by rw[a0J,k1];omega
        refine main (news.take (min m k*i.size)) hcsl (fun q hq=>?_) (fun u hu=>k3 u (a0X hu)) ?_
        ·refine Eq.mp ?_ (k4 q (by omega))
         have hj2:(q+1)*i.size≤min m k*i.size:=a0H _ hq
         rw[a0W] at hj2
         rw[a3I,a2F]
         congr 2
         omega
        ·rw[hxv]
         have:=run_copy_rowN (P:=P) w t t' o.type e i b off k cp ⟨b2,o2,none⟩ m cap2 xs.toArray ty (news.take (min m k*i.size)) hu hinfo hb hcsl (fun j v hj=>by
          rw[a1C] at hj
          split at hj
          ·exact k2 j v hj
          ·cases hj) (by rw[hcsl];simp;omega) (fun u hu=>k3 u (a0X hu))
         simpa using this
      ·exact h.elim
     ·exact h.elim
    ·exact h.elim
   ·exact h.elim
  ·exact h.elim
 ·rename_i t m x hop
  split at h
  ·rename_i ks ka va et id hm hmv
   split at h
   ·rename_i ks' ka' va' dom val n' g0 k z hgt hkv hz
    simp only[cond_eq_ite,a0D] at h
    split at h
    ·rename_i hc
     obtain⟨⟨c1,c2⟩,c3⟩:=hc
     obtain rfl:=ksEq_spec c1
     obtain rfl:=a2w c2
     obtain rfl:=a2w c3
     obtain⟨kt,hu,hK,hva,hkn⟩:=mapT_spec hE hm
     obtain⟨i,_,hinfo,_,_,_,_,hz',_⟩:=hE.info hkn
     rw[hz'] at hz
     obtain⟨zv,hzv,rfl,hz1,hzs,hag⟩:=zeroOf_agg hz
     have hmd:=a0l hg.tmp (ht m (by simp[hop,Op.operands]))
     have hxd:=a0l hg.tmp (ht x (by simp[hop,Op.operands]))
     rw[hmv] at hmd
     obtain⟨b,c,hη,hme⟩:=hmd
     have hH:=a0j hgt trivial
     obtain⟨b',c',he,es,hb,hrel⟩:=hg.sat.obj id _ _ hη hH
     cases he
     obtain⟨hke,hkl⟩:=keyV_den hkv hxd
     have henc:zv=encV va zv.cells.toList∧(va=false→zv.cells.toList.length=1):=by
      rw[hva,hag]
      cases zv<;>simp[isAggV,encV,Value.cells]
     have hzr:(zeroValue et).run P w=.ok (encV va zv.cells.toList) w:=by
      rw[←henc.1]
      simp[zeroValue,typeInfo,hinfo,hzv]
     obtain⟨v0,es',g',hrun,hrel'⟩:=entry_make_run (P:=P) hrel hK hu hb hkl hzr hz1 henc.2
     have h:=h g'
     rw[forceL_eq,a0p,a0v,a0n] at h
     have hbs:b<w.heap.size:=(a0L.1 hb).1
     obtain⟨s1,s2,s3⟩:=hg.sat.turn (w':=setBlock w b (.map es' g'.clock)) (o':=.map ks ka va (a1l dom k) (valEnt dom val (zv.cells.toList.map ofZ)) (nPut dom n' k) g') hη hH trivial trivial rfl rfl rfl (a3c _ _ _) (fun j hj=>a2u _ _ _ _ hj) (fun m0=>
      ⟨b,c,rfl,es',setBlock_at _ _ _ hbs,hrel'.imp (fun k' vs' hD=>mrgL_den (fun e=>DenL.mono m0.nil _ _ (hD.1 e)) (fun e=>by rw[hD.2 e];exact a2c _ _ _ _))⟩)
     refine a0m hd (v:=.tuple #[v0,.int .i64 (g'.born k)]) (w':=setBlock w b (.map es' g'.clock)) ?_ ⟨Act.put_defers' _ _ _,I,η,_,_,h,⟨s1,(hg.tmp.mono s2).put ⟨[v0,.int .i64 (g'.born k)],rfl,_,_,rfl,trivial,_,_,rfl,rfl,rfl⟩⟩,hR.step s3 (fun _ _ hh=>hh)⟩
     simp only[execOp,hop,hme,hke,Sem.run_bind,hrun]
     simp
    ·exact h.elim
   ·exact h.elim
  ·exact h.elim
 ·rename_i t m st v hop
  split at h
  ·rename_i ks ka va et id g k z hm hmv hsv hz
   split at h
   ·rename_i ks' ka' va' dom val n' g0 hgt
    simp only[cond_eq_ite,a0D] at h
    split at h
    ·rename_i hc
     obtain⟨⟨⟨⟨⟨c1,c2⟩,c3⟩,c4⟩,c5⟩,c6⟩:=hc
     obtain rfl:=ksEq_spec c1
     obtain rfl:=a2w c2
     obtain rfl:=a2w c3
     have c6:=a2w c6
     obtain⟨⟨rfl,hdk,hkl⟩,h⟩:=h
     have hmd:=a0l hg.tmp (ht m (by simp[hop,Op.operands]))
     have hsd:=a0l hg.tmp (ht st (by simp[hop,Op.operands]))
     have hvd:=a0l hg.tmp (ht v (by simp[hop,Op.operands]))
     rw[hmv] at hmd
     rw[hsv] at hsd
     have hse:a.eval st=.int .i64 (g.born k):=hsd
     obtain⟨b,c,hη,hme⟩:=hmd
     have hH:=a0j hgt trivial
     obtain⟨b',c',he,es,hb,hrel⟩:=hg.sat.obj id _ _ hη hH
     cases he
     obtain⟨vs,g1,g2,g3⟩:=a2g hz hvd
     have hlen:len z=vs.length:=by rw[a1j,g3.length]
     have hl:va=false→vs.length=1:=by
      rintro rfl
      simp only[Bool.false_or] at c5
      rw[←hlen];exact a0f c5
     have henc:a.eval v=encV va vs:=by
      cases va with
      |true=>
       have c6:=c6.symm
       unfold V.isAgg at c6
       split at c6
       ·rename_i cs hcs
        rw[hcs] at hvd
        obtain⟨us,e1,e2,_⟩:=hvd
        rw[e1] at g1
        simp[Value.cells] at g1
        rw[e1,g1]
        rfl
       ·cases c6
      |false=>
       have c6:=c6.symm
       have:=cells?_one hz c6 hvd
       rw[this] at g1
       obtain⟨u,rfl⟩:=a1K.1 (hl rfl)
       simp at g1
       rw[g1]
       rfl
     obtain⟨es',hrun,hrel'⟩:=entry_store_run (P:=P) hrel hb hkl hdk g2 hl t
     rw[forceL_eq,a0p,a0v,a0n] at h
     have hbs:b<w.heap.size:=(a0L.1 hb).1
     obtain⟨s1,s2,s3⟩:=hg.sat.turn (w':=setBlock w b (.map es' g.clock)) (o':=.map ks ka va dom (valPut val k z) n' g) hη hH trivial trivial rfl rfl rfl (a3c _ _ _) (fun j hj=>a2u _ _ _ _ hj) (fun m0=>
      ⟨b,c,rfl,es',setBlock_at _ _ _ hbs,hrel'.imp (fun k' vs' hD=>mrgL_den (fun e=>by rw[hD.1 e];exact DenL.mono m0.nil _ _ (fo_nil_list _ _ c4 g3)) (fun e=>DenL.mono m0.nil _ _ (hD.2 e)))⟩)
     refine a2y hd (w':=setBlock w b (.map es' g.clock)) ?_ ⟨Act.put_defers' _ _ _,I,η,_,_,h,⟨s1,(hg.tmp.mono s2).put trivial⟩,hR.step s3 (fun _ _ hh=>hh)⟩
     simp only[execOp,hop,hme,hse,henc,Sem.run_bind,hrun]
     simp
    ·exact h.elim
   ·exact h.elim
  ·exact h.elim
 ·exact h.elim
end
end Go.Sx
namespace Go.Sx
open Go
variable {P:Program} {E:Env}
theorem SatT.replace {I:Nat→Prop} {η:Eta} {w:World} {T:List V} {tmps:Array Value} {g:Nat} {v:V} (h:SatT I η w T tmps) (hv:Den I η w v (tmps.getD g undef)):SatT I η w (set T g v) tmps:=by
 refine⟨by rw[a0v,a2H];exact h.1,fun i=>?_⟩
 rw[a0v,a0z,a0G]
 by_cases hg:g=i
 ·subst hg
  by_cases hlt:g<T.length
  ·simp only[hlt,if_true,a2S];exact hv
  ·simp[hlt,Den]
 ·have:=h.2 i
  rw[a0z] at this
  simp only[hg,if_false]
  exact this
theorem goneK_eq:∀(ids:List Nat) (H:List O) (K:List O→Prop),goneK ids H K=K (goneAt ids H)
 |[],_,_=>rfl
 |i :: l,H,K=>by simp only[goneK,goneAt];rw[a0p,goneK_eq l]
theorem propsK_spec:∀{ps:List Prop} {K:Prop},propsK ps K→(∀p∈ps,p)∧K
 |[],_,h=>⟨by simp,h⟩
 |q :: ps,K,h=>by
  obtain⟨h1,h2⟩:=propsK_spec h.2
  refine⟨fun p hp=>?_,h2⟩
  rcases a0Z.1 hp with rfl|hp
  ·exact h.1
  ·exact h1 p hp
theorem goneAt_live:∀(l:List Nat) (H:List O) (id:Nat) (o:O),(goneAt l H)[id]? = some o→o.live→id∉l∧H[id]? = some o
 |[],_,_,_,h,_=>⟨by simp,h⟩
 |i :: l,H,id,o,h,hl=>by
  obtain⟨h1,h2⟩:=goneAt_live l _ id o h hl
  rw[a0v,a0G] at h2
  by_cases hi:i=id
  ·rw[if_pos hi] at h2
   split at h2
   ·cases h2;exact hl.elim
   ·cases h2
  ·rw[if_neg hi] at h2
   exact⟨by simp[h1,Ne.symm hi],h2⟩
theorem goneAt_len:∀(l:List Nat) (H:List O),(goneAt l H).length=H.length
 |[],_=>rfl
 |i :: l,H=>by rw[goneAt,goneAt_len l,a0v,a2H]
section
variable {I J:Nat→Prop} {η:Eta} {w:World} {H:List O}
theorem frz_leaf (hS:Objs I η w H) (hIJ:∀b,I b→J b) {id:Nat} {o:O} (hH:H[id]? = some o) (hids:∀e b,η[id]? = some e→o.has e b→J b) {x y:V} (h:rEnt true (List.replicate id .gone++[o]) x y True) {v:Value} (hd:Den I η w x v):Den J [] w y v:=by
 have hF:∀(j:Nat) (o':O),(List.replicate id O.gone++[o])[j]? = some o'→(o'=.gone∨(j=id∧o'=o)):=by
  intro j o' hj
  by_cases hlt:j<id
  ·rw[List.getElem?_append_left (by simpa using hlt)] at hj
   simp[hlt] at hj
   exact .inl hj.symm
  ·rw[a0S (by simp;omega)] at hj
   have hlen:=(a0B.1 hj).1
   simp at hlen
   have hj':j=id:=by omega
   subst hj'
   simp at hj
   exact .inr ⟨rfl,hj.symm⟩
 refine(rEnt_sound (J:=J) (keep:=true) (H:=List.replicate id .gone++[o]) (fun j e o' he ho=>?_) (fun b hb=>?_) (fun _=>hIJ) x y True v h hd).1
 ·rcases hF j o' ho with rfl|⟨rfl,rfl⟩
  ·trivial
  ·exact hS _ e _ he hH
 ·obtain⟨j,e,o',he,ho,hb⟩:=hb
  rcases hF j o' ho with rfl|⟨rfl,rfl⟩
  ·exact(O.has_live hb).elim
  ·exact hids e b he hb
theorem get_rep (id:Nat) (o:O):get .gone (List.replicate id O.gone++[o]) id=o:=by
 rw[a0z,a0S (by simp)]
 simp
theorem frzL_sound {F:V→Option (List Prop×List Nat×V)} {C:Nat→Prop} (hF:∀(v v':V) (ps:List Prop) (ids:List Nat) (x:Value),F v=some (ps,ids,v')→(∀p∈ps,p)→(∀id∈ids,C id)→Den I η w v x→Den J [] w v' x) :
  ∀(l l':List V) (ps:List Prop) (ids:List Nat) (xs:List Value),frzL F l=some (ps,ids,l')→(∀p∈ps,p)→(∀id∈ids,C id)→DenL I η w l xs→DenL J [] w l' xs
 |[],l',ps,ids,xs,h,_,_,hd=>by
  simp only[frzL,a1H,Prod.mk.injEq] at h
  obtain⟨_,_,rfl⟩:=h
  exact hd
 |v :: l,l',ps,ids,xs,h,hp,hi,hd=>by
  simp only[frzL] at h
  split at h
  ·rename_i p i v' q j l2 h1 h2
   cases h
   obtain⟨x,r,rfl,d1,d2⟩:=hd
   rw[a2n] at hp hi
   exact⟨x,r,rfl,hF v v' p i x h1 (fun a ha=>hp a (by simp[ha])) (fun a ha=>hi a (by simp[ha])) d1,frzL_sound hF l l2 q j r h2 (fun a ha=>hp a (by simp[ha])) (fun a ha=>hi a (by simp[ha])) d2⟩
  ·cases h
theorem frzV_sound (hS:Objs I η w H) (hIJ:∀b,I b→J b):∀(D:Nat) (v v':V) (ps:List Prop) (ids:List Nat) (x:Value),frzV D H v=some (ps,ids,v')→(∀p∈ps,p)→
  (∀id∈ids,∀e o b,η[id]? = some e→H[id]? = some o→o.has e b→J b)→Den I η w v x→Den J [] w v' x
 |0,v,v',ps,ids,x,h,_,_,_=>by simp[frzV] at h
 |D+1,v,v',ps,ids,x,h,hp,hi,hd=>by
  have hL:=frzL_sound (I:=I) (J:=J) (η:=η) (w:=w) (C:=fun id=>∀e o b,η[id]? = some e→H[id]? = some o→o.has e b→J b) (fun v v' ps ids x=>frzV_sound hS hIJ D v v' ps ids x)
  unfold frzV at h
  split at h
  ·rename_i id n
   split at h
   ·rename_i ty sz m f nz hgt
    cases h
    have hH:=a0j hgt trivial
    refine frz_leaf hS hIJ hH (fun e b he hb=>hi id (by simp) e _ b he hH hb) ?_ hd
    have hp1:=hp (n=m) (by simp)
    simp[rEnt,get_rep,hp1]
   ·rename_i ty ety esz m k f β hole nz hgt
    cases h
    have hH:=a0j hgt trivial
    refine frz_leaf hS hIJ hH (fun e b he hb=>hi id (by simp) e _ b he hH hb) ?_ hd
    have hp1:=hp (n=m) (by simp)
    have hp2:=hp (hole=none) (by simp)
    simp only[rEnt,get_rep,hp1,hp2]
    exact⟨trivial,trivial,trivial,fun i _=>⟨f i,rfl,fun _ _=>rfl⟩,.inl trivial,trivial⟩
   ·cases h
  ·rename_i id sz off n
   split at h
   ·rename_i ty sz' m f nz hgt
    simp only[cond_eq_ite] at h
    split at h
    ·rename_i hsz
     obtain rfl:=a0f hsz
     cases h
     have hH:=a0j hgt trivial
     refine frz_leaf hS hIJ hH (fun e b he hb=>hi id (by simp) e _ b he hH hb) ?_ hd
     have hp1:=hp (off+n≤m) (by simp)
     simp[rEnt,get_rep,hp1]
    ·cases h
   ·cases h
  ·rename_i id off
   split at h
   ·rename_i ty vs hgt
    split at h
    ·rename_i p i cs hcs
     cases h
     have hH:=a0j hgt trivial
     obtain⟨b,c,hη,rfl⟩:=hd
     obtain⟨b',c',he,xs,h1,h2,h3⟩:=hS id _ _ hη hH
     cases he
     rw[a2f] at hcs
     have:=hL _ _ _ _ _ hcs hp (fun j hj=>hi j (by simp[hj])) (h3.drop off)
     refine⟨b,off,xs.drop off,rfl,hi id (by simp) _ _ b hη hH (.inl ⟨trivial,rfl⟩),fun j u hj=>?_,fun u hu=>h2 u (a0Y hu),this⟩
     rw[a0R] at hj
     simp[World.cell?,h1,hj]
    ·cases h
   ·cases h
  ·rename_i cs
   split at h
   ·rename_i p i cs' hcs
    cases h
    obtain⟨vs,rfl,h2,h3⟩:=hd
    exact⟨vs,rfl,h2,hL _ _ _ _ _ hcs hp hi h3⟩
   ·cases h
  ·simp only[cond_eq_ite] at h
   split at h
   ·rename_i hfo
    cases h
    exact Den.mono ⟨fun _ _ he _=>he,hIJ,fun _ _=>rfl⟩ _ _ (fo_nil _ _ hfo hd)
   ·cases h
theorem frzV_noIte {D:Nat} {v v':V} {ps:List Prop} {ids:List Nat} (h:frzV D H v=some (ps,ids,v')) (hfo:v.fo=false):v'.isIte=none:=by
 cases D with
 |zero=>simp[frzV] at h
 |succ D=>
  unfold frzV at h
  split at h
  ·split at h<;>cases h<;>rfl
  ·split at h
   ·simp only[cond_eq_ite] at h
    split at h<;>cases h
    rfl
   ·cases h
  ·split at h
   ·split at h<;>cases h
    rfl
   ·cases h
  ·split at h<;>cases h
   rfl
  ·rw[hfo] at h;cases h
def frzI (I:Nat→Prop) (η:Eta) (H:List O) (ids:List Nat) (b:Nat):Prop:=I b∨∃id∈ids,∃e o,η[id]? = some e∧H[id]? = some o∧o.has e b
theorem Sat.freeze (h:Sat I η w H) (ids:List Nat):Sat (frzI I η H ids) η w (goneAt ids H)∧Mono I η w (frzI I η H ids) η w∧Step I (own η H) w (frzI I η H ids) (own η (goneAt ids H)) w:=by
 have m:Mono I η w (frzI I η H ids) η w:=⟨fun _ _ he _=>he,fun _ hb=>.inl hb,fun _ _=>rfl⟩
 have hown:∀b,own η (goneAt ids H) b→own η H b:=by
  rintro b ⟨id,e,o,h1,h2,h3⟩
  exact⟨id,e,o,h1,(goneAt_live ids H id o h2 (O.has_live h3)).2,h3⟩
 have hJ:∀b,frzI I η H ids b→I b∨own η H b:=by
  rintro b (hb|⟨id,_,e,o,h1,h2,h3⟩)
  ·exact .inl hb
  ·exact .inr ⟨id,e,o,h1,h2,h3⟩
 refine⟨⟨by rw[goneAt_len];exact h.len,?_,?_,?_,fun b hb=>h.lt b (hown b hb),fun b hb=>(hJ b hb).elim (h.ilt b) (h.lt b)⟩,m,⟨rfl,rfl,rfl,a0K _,fun _ _ _=>rfl,fun b hb=>.inl hb,fun b hb=>(hJ b hb).imp id .inl,fun b hb=>.inl (hown b hb),fun _ _ he _=>he⟩⟩
 ·intro id e o h1 h2
  by_cases hl:o.live
  ·exact(h.obj id e o h1 (goneAt_live ids H id o h2 hl).2).mono m (fun _ _=>rfl)
  ·cases o<;>first|exact(hl trivial).elim|trivial
 ·intro id id' b e e' o o' h1 h2 h3 h4 l1 l2
  exact h.apart id id' b e e' o o' h1 h2 (goneAt_live ids H id o h3 (O.has_live l1)).2 (goneAt_live ids H id' o' h4 (O.has_live l2)).2 l1 l2
 ·rintro b ⟨id,e,o,h1,h2,h3⟩ hb
  obtain⟨g1,g2⟩:=goneAt_live ids H id o h2 (O.has_live h3)
  rcases hb with hb|⟨id',hm,e',o',k1,k2,k3⟩
  ·exact h.notI b ⟨id,e,o,h1,g2,h3⟩ hb
  ·have:=h.apart id id' b e e' o o' h1 k1 g2 k2 h3 k3
   subst this
   exact g1 hm
end
theorem frzK_sound {w:World} {a:Act} {K:List V→List O→Prop}:∀(l:List (Nat×Operand)) (T:List V) (H:List O) (I:Nat→Prop) (η:Eta),Good I η w T H a→frzK l T H K→
  ∃I' T' H',K T' H'∧Good I' η w T' H' a∧Step I (own η H) w I' (own η H') w∧∀x,a2m T x→a2m T' x
 |[],T,H,I,η,hg,h=>⟨I,T,H,h,hg,Step.refl _ _ _,fun _ hx=>hx⟩
 |(k,.tmp t) :: l,T,H,I,η,hg,h=>by
  simp only[frzK,cond_eq_ite] at h
  split at h
  ·exact frzK_sound l T H I η hg h
  ·rename_i hfo
   rw[a3X] at hfo
   split at h
   ·rename_i ps ids v hv
    obtain⟨hp,h⟩:=propsK_spec h
    rw[force_eq,a0p,goneK_eq] at h
    obtain⟨s1,s2,s3⟩:=hg.sat.freeze ids
    have hd:=frzV_sound (J:=frzI I η H ids) hg.sat.obj (fun _ hb=>.inl hb) 8 _ v ps ids _ hv hp (fun id hid e o b h1 h2 h3=>.inr ⟨id,hid,e,o,h1,h2,h3⟩) (hg.tmp.2 t)
    have hg':Good (frzI I η H ids) η w (set T t v) (goneAt ids H) a:=⟨s1,(hg.tmp.mono s2).replace (Den.mono (Mono.ofNil _ η w) _ _ hd)⟩
    obtain⟨I',T',H',k1,k2,k3,k4⟩:=frzK_sound l _ _ _ η hg' h
    refine⟨I',T',H',k1,k2,s3.trans k3,fun x hx=>k4 x ?_⟩
    cases x with
    |tmp s=>
     unfold a2m at hx ⊢
     simp only[ev0] at hx ⊢
     rw[a0v,a0z,a0G]
     by_cases hts:t=s
     ·subst hts
      by_cases hlt:t<T.length
      ·simp[hlt,frzV_noIte hv hfo]
      ·simp[hlt,V.isIte]
     ·rw[if_neg hts,←a0z]
      exact hx
    |const=>exact hx
    |func=>exact hx
    |global=>exact hx
   ·exact h.elim
 |(k,.const c) :: l,T,H,I,η,hg,h=>frzK_sound l T H I η hg h
 |(k,.func c) :: l,T,H,I,η,hg,h=>frzK_sound l T H I η hg h
 |(k,.global c) :: l,T,H,I,η,hg,h=>frzK_sound l T H I η hg h
section
variable {R:Rel} (hR:RelH R) (htr:∀{I W w I' W' w' I'' W'' w''},R I W w I' W' w'→R I' W' w' I'' W'' w''→R I W w I'' W'' w'') (hE:a1b E P) {r:Option Nat} {n:Nat} {Q:Exit→Act→World→Prop}
include hR htr hE
theorem frzOp_sound {T:List V} {H:List O} {o:Oper} {K:KT} {I:Nat→Prop} {η:Eta} {w:World} {a:Act} (hg:Good I η w T H a) (h:frzOp E T H o K) (ht:∀x∈o.op.operands.toList,a2m T x) :
  o.wpIn (Fw r) n P a w (a1r R I (own η H) w a.defers K) Q:=by
 unfold frzOp at h
 split at h
 ·obtain⟨I',T',H',h1,h2,h3,h4⟩:=frzK_sound _ _ _ _ _ hg h
  have h5:∀(id:Nat) (e:Option Nat×Nat),η[id]? = some e→η[id]? = some e:=fun _ _ h=>h
  refine Oper.wpIn_mono ?_ (a1y (P:=P) hR hE (r:=r) (n:=n) (Q:=Q) h2 h1 (fun x hx=>h4 x (ht x hx)))
  rintro a' w' ⟨g1,I2,η2,T2,H2,g2,g3,g4⟩
  exact⟨g1,I2,η2,T2,H2,g2,g3,htr (hR.step h3 h5) g4⟩
 ·exact h.elim
end
end Go.Sx
