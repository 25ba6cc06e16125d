/- Own work: texts of the proof of a law (SzMapA, SzMapB, SzMapC). No condition. -/
import Derived.Maps.RangeRun
import Derived.Test.YtkgjhinmndcmjaaGreatPart3
import Derived.Test.YtkgjhinmndcmjaaGreatPart0
namespace Go.Sx
open Go
open Go.ChangeMaps (setBlock)
variable {P:Program} {E:Env}
structure KeyT (P:Program) (t:TypeId) (ks:List IntKind) (ka:Bool):Prop where
 flat:Flat P 10000 t ks ka
 find:∀(w:World) (k:List Int),k.length=ks.length→∀(es:List MapEntry),(∀e∈es,∃l,l.length=ks.length∧e.key=encK ks ka l)→
  ((Instr.findKey t (encK ks ka k) es).run P w=.ok none w∧∀e∈es,e.key≠encK ks ka k)∨∃j e,(Instr.findKey t (encK ks ka k) es).run P w=.ok (some (j,e.val)) w∧es[j]? = some e∧e.key=encK ks ka k
theorem keyT_of (hE:a1b E P) {D:Nat} {t:TypeId} {ks:List IntKind} (hD:D≤10000) (h:kindsOf E D t=some ks):KeyT P t ks (E.ti t).agg:=by
 obtain⟨ka,rfl,hf⟩:=flat_of hE D t ks h
 refine⟨flat_mono hf hD,fun w k hk es hes=>?_⟩
 cases D with
 |zero=>simp[kindsOf] at h
 |succ D=>
  unfold kindsOf at h
  split at h
  ·rename_i q hk' hkind
   cases h
   obtain⟨i,d,hi,hu,hs,_,hkd,_,_⟩:=hE.info hk'
   have hkd0:=hkd
   rw[hkd] at hkind
   have:d=.int q:=by cases d<;>simp[a1o] at hkind;rw[hkind]
   subst this
   exact hf.find hD hk w hu (.inl ⟨by simp[TI.agg,hkd0,a1o],q,rfl,rfl⟩) es hes
  ·rename_i fs hk' hkind
   obtain⟨i,d,hi,hu,hs,_,hkd,_,_⟩:=hE.info hk'
   rw[hkd] at hkind
   refine hf.find hD hk w hu (.inr ?_) es hes
   cases d<;>simp[a1o] at hkind<;>rfl
  ·rename_i m e hk' hkind
   obtain⟨i,d,hi,hu,hs,_,hkd,_,_⟩:=hE.info hk'
   rw[hkd] at hkind
   refine hf.find hD hk w hu (.inr ?_) es hes
   cases d<;>simp[a1o] at hkind<;>rfl
  ·cases h
section
variable {D:List Int→List Value→Prop} {ks:List IntKind} {ka va:Bool} {dom:List Int→Prop} {n:Nat} {g:MG} {es:List MapEntry} {kt:TypeId}
theorem MapRel.keysOk (h:MapRel D ks ka va dom n g es):∀e∈es,∃l,l.length=ks.length∧e.key=encK ks ka l:=by
 intro e he
 obtain⟨k,vs,h1,h2,_⟩:=h.ent e he
 exact⟨k,h2,h1⟩
theorem MapRel.at (h:MapRel D ks ka va dom n g es) {e:MapEntry} (he:e∈es) {k:List Int} (hk:k.length=ks.length) (hek:e.key=encK ks ka k) :
  dom k∧e.born=g.born k∧e.born<g.clock∧∃vs,e.val=encV va vs∧D k vs∧(∀u∈vs,u.oneCell'=true)∧(va=false→vs.length=1):=by
 obtain⟨k',vs,h1,h2,h3,h4,h5,h6,h7,h8,h9⟩:=h.ent e he
 obtain rfl:=encK_inj h.flat h2 hk (h1.symm.trans hek)
 exact⟨h3,h4,h5,vs,h6,h7,h8,h9⟩
theorem MapRel.find (h:MapRel D ks ka va dom n g es) (K:KeyT P kt ks ka) {k:List Int} (hk:k.length=ks.length) (w:World) :
  ((Instr.findKey kt (encK ks ka k) es).run P w=.ok none w∧¬dom k∧∀e∈es,e.key≠encK ks ka k)∨∃j e,(Instr.findKey kt (encK ks ka k) es).run P w=.ok (some (j,e.val)) w∧es[j]? = some e∧e.key=encK ks ka k∧dom k:=by
 rcases K.find w k hk es h.keysOk with⟨h1,h2⟩|⟨j,e,h1,h2,h3⟩
 ·refine .inl ⟨h1,fun hd=>?_,h2⟩
  obtain⟨e,he,hek⟩:=h.has k hk hd
  exact h2 e he hek
 ·exact .inr ⟨j,e,h1,h2,h3,(h.at (a1Y h2) hk h3).1⟩
theorem MapRel.put (h:MapRel D ks ka va dom n g es) {k:List Int} (hk:k.length=ks.length) (hnd:¬dom k) {vs:List Value} (h1:∀u∈vs,u.oneCell'=true) (hl:va=false→vs.length=1) :
  MapRel (fun k' vs'=>(k'=k→vs'=vs)∧(k'≠k→D k' vs')) ks ka va (fun k'=>k'=k∨dom k') (n+1) ⟨fun k'=>@ite _ (k'=k) (Classical.propDecidable _) g.clock (g.born k'),g.clock+1⟩ (es++[{key:=encK ks ka k,val:=encV va vs,born:=g.clock}]) where
 size:=by simp[h.size]
 ent e he:=by
  rcases a0U.1 he with he|he
  ·obtain⟨k',vs',e1,e2,e3,e4,e5,e6,e7,e8,e9⟩:=h.ent e he
   have hne:k'≠k:=fun e=>hnd (e▸e3)
   exact⟨k',vs',e1,e2,.inr e3,by simp[hne,e4],by show e.born<g.clock+1;omega,e6,⟨fun e=>(hne e).elim,fun _=>e7⟩,e8,e9⟩
  ·simp at he
   subst he
   exact⟨k,vs,rfl,hk,.inl rfl,by simp,by show g.clock<g.clock+1;omega,rfl,⟨fun _=>rfl,fun hn=>(hn rfl).elim⟩,h1,hl⟩
 has k' hk' hd:=by
  rcases hd with rfl|hd
  ·exact⟨_,List.mem_append_right _ (a1B.2 rfl),rfl⟩
  ·obtain⟨e,he,hek⟩:=h.has k' hk' hd
   exact⟨e,a2D _ he,hek⟩
 keys:=by
  rw[a2E]
  refine⟨h.keys,by simp,fun x hx y hy=>?_⟩
  simp at hy
  subst hy
  intro hxk
  exact hnd (h.at hx hk hxk).1
 stamps:=by
  rw[a2E]
  refine⟨h.stamps,by simp,fun x hx y hy=>?_⟩
  simp at hy
  subst hy
  obtain⟨_,_,_,_,_,_,e5,_⟩:=h.ent x hx
  show x.born≠g.clock
  omega
 flat:=h.flat
theorem MapRel.over (h:MapRel D ks ka va dom n g es) {k:List Int} (hk:k.length=ks.length) {j:Nat} {e:MapEntry} (hj:es[j]? = some e) (hek:e.key=encK ks ka k) {vs:List Value} (h1:∀u∈vs,u.oneCell'=true) (hl:va=false→vs.length=1) :
  MapRel (fun k' vs'=>(k'=k→vs'=vs)∧(k'≠k→D k' vs')) ks ka va dom n g (es.set j {e with key:=encK ks ka k,val:=encV va vs}):=by
 obtain⟨hjl,hje⟩:=a0B.1 hj
 have hat:=h.at (a1Y hj) hk hek
 have hkeys:(es.set j {e with key:=encK ks ka k,val:=encV va vs}).map (·.key)=es.map (·.key):=by
  apply a2L (by simp)
  intro i a b
  simp only[List.getElem_map,List.getElem_set]
  split
  ·rename_i hij;subst hij;rw[hje,hek]
  ·rfl
 have hborn:(es.set j {e with key:=encK ks ka k,val:=encV va vs}).map (·.born)=es.map (·.born):=by
  apply a2L (by simp)
  intro i a b
  simp only[List.getElem_map,List.getElem_set]
  split
  ·rename_i hij;subst hij;rw[hje]
  ·rfl
 refine⟨by simp[h.size],?_,?_,?_,?_,h.flat⟩
 ·intro x hx
  obtain⟨i,hi⟩:=List.mem_iff_getElem?.1 hx
  rw[a0G] at hi
  split at hi
  ·rename_i hij
   subst hij
   cases hi
   exact⟨k,vs,rfl,hk,hat.1,hat.2.1,hat.2.2.1,rfl,⟨fun _=>rfl,fun hn=>(hn rfl).elim⟩,h1,hl⟩
  ·rename_i hij
   obtain⟨k',vs',e1,e2,e3,e4,e5,e6,e7,e8,e9⟩:=h.ent x (a1Y hi)
   refine⟨k',vs',e1,e2,e3,e4,e5,e6,⟨fun e0=>?_,fun _=>e7⟩,e8,e9⟩
   exfalso
   subst e0
   have hil:=(a0B.1 hi).1
   have hp:=a0T.1 h.keys
   rcases a1N j i with hlt|hge
   ·have:=hp j i hjl hil hlt
    rw[hje,(a0B.1 hi).2,hek,e1] at this
    exact this rfl
   ·have:=hp i j hil hjl (by omega)
    rw[hje,(a0B.1 hi).2,hek,e1] at this
    exact this rfl
 ·intro k' hk' hd
  obtain⟨x,hx,hxk⟩:=h.has k' hk' hd
  have:x.key∈(es.set j {e with key:=encK ks ka k,val:=encV va vs}).map (·.key):=by rw[hkeys];exact List.mem_map_of_mem hx
  obtain⟨y,hy,hyk⟩:=a2V.1 this
  exact⟨y,hy,hyk.trans hxk⟩
 ·have:=a2Z (f:=MapEntry.key) (R:=fun x y=>x≠y).2 h.keys
  rw[←hkeys] at this
  exact a2Z.1 this
 ·have:=a2Z (f:=MapEntry.born) (R:=fun x y=>x≠y).2 h.stamps
  rw[←hborn] at this
  exact a2Z.1 this
theorem MapRel.del (h:MapRel D ks ka va dom n g es) {k:List Int} (hk:k.length=ks.length) {j:Nat} {e:MapEntry} (hj:es[j]? = some e) (hek:e.key=encK ks ka k) :
  MapRel D ks ka va (fun k'=>dom k'∧k'≠k) (n-1) g (es.eraseIdx j):=by
 obtain⟨hjl,hje⟩:=a0B.1 hj
 have hp:=a0T.1 h.keys
 have hmem:∀x,x∈es.eraseIdx j↔x∈es∧x.key≠encK ks ka k:=by
  intro x
  rw[List.mem_eraseIdx_iff_getElem?]
  constructor
  ·rintro⟨i,hij,hi⟩
   obtain⟨hil,hie⟩:=a0B.1 hi
   refine⟨a1Y hi,fun hxk=>?_⟩
   rcases a1N j i with hlt|hge
   ·have:=hp j i hjl hil hlt
    rw[hje,hie,hek,hxk] at this
    exact this rfl
   ·have:=hp i j hil hjl (by omega)
    rw[hje,hie,hek,hxk] at this
    exact this rfl
  ·rintro⟨hx,hne⟩
   obtain⟨i,hi⟩:=List.mem_iff_getElem?.1 hx
   refine⟨i,fun hij=>hne ?_,hi⟩
   subst hij
   rw[hj] at hi
   cases hi
   exact hek
 refine⟨by rw[List.length_eraseIdx,if_pos hjl,h.size],?_,?_,h.keys.sublist (List.eraseIdx_sublist _ _),h.stamps.sublist (List.eraseIdx_sublist _ _),h.flat⟩
 ·intro x hx
  obtain⟨h1,h2⟩:=(hmem x).1 hx
  obtain⟨k',vs',e1,e2,e3,e4⟩:=h.ent x h1
  exact⟨k',vs',e1,e2,⟨e3,fun e0=>h2 (by rw[e1,e0])⟩,e4⟩
 ·intro k' hk' hd
  obtain⟨x,hx,hxk⟩:=h.has k' hk' hd.1
  exact⟨x,(hmem x).2 ⟨hx,fun hh=>hd.2 (encK_inj h.flat hk' hk (hxk.symm.trans hh))⟩,hxk⟩
theorem MapRel.empty (hf:ka=false→ks.length=1) (g:MG) (hdom:∀k,k.length=ks.length→¬dom k):MapRel D ks ka va dom 0 g []:=
 ⟨rfl,by simp,fun k hk hd=>(hdom k hk hd).elim,by simp,by simp,hf⟩
end
section
theorem MapRel.counted {D:List Int→List Value→Prop} {ks:List IntKind} {ka va:Bool} {dom:List Int→Prop} {n:Nat} {g:MG} {es:List MapEntry} (h:MapRel D ks ka va dom n g es):Counted ks dom n:=by
 let f:MapEntry→List Int:=fun e=>@dite _ (∃k,e.key=encK ks ka k∧k.length=ks.length) (Classical.propDecidable _) (fun h=>h.choose) (fun _=>[])
 have hf:∀e∈es,e.key=encK ks ka (f e)∧(f e).length=ks.length:=by
  intro e he
  obtain⟨k,_,h1,h2,_⟩:=h.ent e he
  have hex:∃k,e.key=encK ks ka k∧k.length=ks.length:=⟨k,h1,h2⟩
  have:f e=hex.choose:=by simp only[f];rw[dif_pos hex]
  rw[this]
  exact hex.choose_spec
 refine⟨es.map f,?_,by simp[h.size],fun k hk=>by obtain⟨e,he,rfl⟩:=a2V.1 hk;exact(hf e he).2,fun k hk=>?_⟩
 ·rw[List.Nodup,a2Z]
  refine h.keys.imp_of_mem ?_
  intro a b ha hb hne he
  exact hne (by rw[(hf a ha).1,(hf b hb).1,he])
 ·rw[a2V]
  constructor
  ·rintro⟨e,he,rfl⟩
   exact(h.at he (hf e he).2 (hf e he).1).1
  ·intro hd
   obtain⟨e,he,hek⟩:=h.has k hk hd
   exact⟨e,he,encK_inj h.flat (hf e he).2 hk ((hf e he).1.symm.trans hek)⟩
end
end Go.Sx
namespace Go.Sx
open Go
open Go.ChangeMaps (setBlock)
variable {P:Program} {E:Env}
section
variable {D:List Int→List Value→Prop} {ks:List IntKind} {ka va:Bool} {dom:List Int→Prop} {n:Nat} {g:MG} {es:Array MapEntry} {kt et t:TypeId} {w:World} {b:Nat}
theorem run_setMap (hb:w.heap[b]? = some (.map es g.clock)) (o':Obj):(setObj b o').run P w=.ok () (setBlock w b o'):=by
 simp[setObj,Sem.run,hb,setBlock]
theorem look_run (h:MapRel D ks ka va dom n g es.toList) (K:KeyT P kt ks ka) (hu:P.underlying t=some (.map kt et)) (hb:w.heap[b]? = some (.map es g.clock)) {z:Value} (hz:(zeroValue et).run P w=.ok z w) {k:List Int} (hk:k.length=ks.length) (c:Bool) :
  ∃v,(Instr.lookup t (.map (some b)) (encK ks ka k) c).run P w=.ok (if c then .tuple #[v,.bool (@decide (dom k) (Classical.propDecidable _))] else v) w∧(dom k→∃vs,v=encV va vs∧D k vs∧(∀u∈vs,u.oneCell'=true)∧(va=false→vs.length=1))∧(¬dom k→v=z):=by
 have hc:=K.flat.check w 10000 es.isEmpty k (a0K _) hk
 rcases h.find K hk w with⟨h1,h2,_⟩|⟨j,e,h1,h2,h3,h4⟩
 ·refine⟨z,?_,fun hd=>(h2 hd).elim,fun _=>rfl⟩
  have hdec:@decide (dom k) (Classical.propDecidable _)=false:=by simp[h2]
  rw[hdec]
  simp[Instr.lookup,run_underlying hu,getObj,Sem.run,hb,Result.andThen,hc,h1,hz]
 ·obtain⟨_,_,_,vs,e1,e2⟩:=h.at (a1Y h2) hk h3
  refine⟨e.val,?_,fun _=>⟨vs,e1,e2⟩,fun hd=>(hd h4).elim⟩
  have hdec:@decide (dom k) (Classical.propDecidable _)=true:=by simp[h4]
  rw[hdec]
  simp[Instr.lookup,run_underlying hu,getObj,Sem.run,hb,Result.andThen,hc,h1]
theorem put_run (h:MapRel D ks ka va dom n g es.toList) (K:KeyT P kt ks ka) (hu:P.underlying t=some (.map kt et)) (hb:w.heap[b]? = some (.map es g.clock)) {k:List Int} (hk:k.length=ks.length) {vs:List Value} (h1:∀u∈vs,u.oneCell'=true) (hl:va=false→vs.length=1) :
  ∃es' g',(Instr.mapUpdate t (.map (some b)) (encK ks ka k) (encV va vs)).run P w=.ok () (setBlock w b (.map es' g'.clock))∧
   MapRel (fun k' vs'=>(k'=k→vs'=vs)∧(k'≠k→D k' vs')) ks ka va (a1l dom k) (nPut dom n k) g' es'.toList:=by
 have hc:=K.flat.check w 10000 false k (a0K _) hk
 rcases h.find K hk w with⟨e1,e2,_⟩|⟨j,e,e1,e2,e3,e4⟩
 ·refine⟨es.push {key:=encK ks ka k,val:=encV va vs,born:=g.clock},⟨fun k'=>@ite _ (k'=k) (Classical.propDecidable _) g.clock (g.born k'),g.clock+1⟩,?_,?_⟩
  rotate_left
  ·have:=h.put hk e2 h1 hl
   have hn:nPut dom n k=n+1:=by simp[nPut,e2]
   rw[hn,Array.toList_push]
   exact this
  ·simp only[Instr.mapUpdate,Sem.run_bind,run_underlying hu,Result.andThen_ok,getObj,Sem.run,hb,hc,e1]
   exact run_setMap hb _
 ·refine⟨es.modify j fun x=>{x with key:=encK ks ka k,val:=encV va vs},g,?_,?_⟩
  ·have hk0:((es[j]?).map (·.key)).getD (encK ks ka k)=encK ks ka k:=by
    have:es[j]? = some e:=by simpa using e2
    rw[this];exact e3
   simp only[Instr.mapUpdate,Sem.run_bind,run_underlying hu,Result.andThen_ok,getObj,Sem.run,hb,hc,e1,hk0,K.flat.stays hk w]
   exact run_setMap hb _
  ·have:=(h.over hk e2 e3 h1 hl)
   have hn:nPut dom n k=n:=by simp[nPut,e4]
   rw[hn]
   have hes:(es.modify j fun x=>{x with key:=encK ks ka k,val:=encV va vs}).toList=es.toList.set j {e with key:=encK ks ka k,val:=encV va vs}:=by
    have hjl:=(a0B.1 e2).1
    have hje:=(a0B.1 e2).2
    apply a2L (by simp)
    intro i a b
    simp only[Array.getElem_toList,Array.getElem_modify,List.getElem_set]
    split
    ·rename_i hij
     subst hij
     have:es[j]=e:=by simpa using hje
     rw[this]
    ·rfl
   rw[hes]
   refine this.turn (fun k' hk'=>?_) (fun k' vs' _ _ hd=>hd)
   unfold a1l
   constructor
   ·exact .inr
   ·rintro(rfl|hh);exact e4;exact hh
theorem del_run (h:MapRel D ks ka va dom n g es.toList) (K:KeyT P kt ks ka) (hu:P.underlying t=some (.map kt et)) (hb:w.heap[b]? = some (.map es g.clock)) {k:List Int} (hk:k.length=ks.length) (ty kt':TypeId) :
  ∃es':Array MapEntry,(Builtin.delete_ #[t,kt'] ty #[.map (some b),encK ks ka k]).run P w=.ok (.tuple #[]) (setBlock w b (.map es' g.clock))∧
   MapRel D ks ka va (domDel dom k) (nDel dom n k) g es'.toList:=by
 have hc:=K.flat.check w 10000 es.isEmpty k (a0K _) hk
 rcases h.find K hk w with⟨e1,e2,_⟩|⟨j,e,e1,e2,e3,e4⟩
 ·refine⟨es,?_,?_⟩
  ·have:=run_setMap (P:=P) hb (.map es g.clock)
   simp[Builtin.delete_,run_underlying hu,getObj,Sem.run,hb,Result.andThen,hc,e1,this]
  ·have hn:nDel dom n k=n:=by simp[nDel,e2]
   rw[hn]
   refine h.turn (fun k' hk'=>⟨fun hd=>⟨hd,fun he=>e2 (he▸hd)⟩,fun hd=>hd.1⟩) (fun k' vs' _ _ hd=>hd)
 ·refine⟨es.eraseIdxIfInBounds j,?_,?_⟩
  ·have:=run_setMap (P:=P) hb (.map (es.eraseIdxIfInBounds j) g.clock)
   simp[Builtin.delete_,run_underlying hu,getObj,Sem.run,hb,Result.andThen,hc,e1,this]
  ·have hn:nDel dom n k=n-1:=by simp[nDel,e4]
   rw[hn]
   have hjl:=(a0B.1 e2).1
   have:(es.eraseIdxIfInBounds j).toList=es.toList.eraseIdx j:=by
    simp[Array.eraseIdxIfInBounds,show j<es.size by simpa using hjl]
   rw[this]
   exact h.del hk e2 e3
end
end Go.Sx
namespace Go.Sx
open Go
open Go.ChangeMaps (setBlock)
variable {P:Program} {E:Env}
section
variable {D:List Int→List Value→Prop} {ks:List IntKind} {ka va:Bool} {dom dom0:List Int→Prop} {n:Nat} {g:MG} {es:Array MapEntry} {kt et t:TypeId} {w:World} {b r:Nat}
theorem next_run (h:MapRel D ks ka va dom n g es.toList) (hb:w.heap[b]? = some (.map es g.clock)) {done:List (List Int)} (hr:w.heap[r]? = some (.mapIter (some b) g.clock (done.map g.born).toArray g.clock))
  (hinj:∀k k',dom0 k→dom0 k'→g.born k=g.born k'→k=k') (hdone:∀k∈done,dom0 k) (hsub:∀k,k.length=ks.length→dom k→dom0 k) (ty:TypeId) :
  ((∀k,k.length=ks.length→dom k→k∈done)∧(Instr.next (.pointer (some ⟨r,0,none⟩)) false ty).run P w=.ok (.tuple #[.bool false]) w)∨
  ∃k vs w1,k.length=ks.length∧dom k∧k∉done∧(D k vs∧(∀u∈vs,u.oneCell'=true)∧(va=false→vs.length=1))∧(w1=w∨w1=w.drew)∧
   (Instr.next (.pointer (some ⟨r,0,none⟩)) false ty).run P w=.ok (.tuple #[.bool true,encK ks ka k,encV va vs]) (setBlock w1 r (.mapIter (some b) g.clock ((done++[k]).map g.born).toArray g.clock)):=by
 have hold:∀x∈es.toList,x.born<g.clock:=fun x hx=>by
  obtain⟨_,_,_,_,_,_,h5,_⟩:=h.ent x hx
  exact h5
 rcases run_next_at (P:=P) w ty r b g.clock g.clock _ es g.clock hr hb hold (a0K _) with⟨h0,h1⟩|⟨e,he,w1,hw,h1⟩
 ·refine .inl ⟨fun k hk hd=>?_,h1⟩
  obtain⟨x,hx,hxk⟩:=h.has k hk hd
  have hat:=h.at hx hk hxk
  have hl:leftOf es (done.map g.born).toArray=#[]:=Array.eq_empty_of_size_eq_zero h0
  have:((done.map g.born).toArray.contains x.born)=true:=by
   cases hc:(done.map g.born).toArray.contains x.born with
   |true=>rfl
   |false=>
    exfalso
    have hm:x∈leftOf es (done.map g.born).toArray:=by
     unfold leftOf
     rw[Array.mem_filter]
     exact⟨by simpa using hx,by simp only[hc];rfl⟩
    rw[hl] at hm
    simp at hm
  rw[Array.contains_iff_mem] at this
  simp at this
  obtain⟨k',hk',hbk⟩:=this
  rw[hat.2.1] at hbk
  rw[←hinj k' k (hdone k' hk') (hsub k hk hd) hbk]
  exact hk'
 ·right
  obtain⟨hmem,hns⟩:=mem_left he
  obtain⟨k,vs,e1,e2,e3,e4,e5,e6,e7,e8,e9⟩:=h.ent e hmem
  refine⟨k,vs,w1,e2,e3,fun hkd=>?_,⟨e7,e8,e9⟩,hw,?_⟩
  ·have:(done.map g.born).toArray.contains e.born=true:=by
    rw[Array.contains_iff_mem]
    simp
    exact⟨k,hkd,e4.symm⟩
   rw[this] at hns
   cases hns
  ·rw[h1,e1,e6]
   simp[e4]
theorem entry_run (h:MapRel D ks ka va dom n g es.toList) (hb:w.heap[b]? = some (.map es g.clock)) {done:List (List Int)} {k:List Int} (hr:w.heap[r]? = some (.mapIter (some b) g.clock ((done++[k]).map g.born).toArray g.clock)) (hk:k.length=ks.length) (hd:dom k) :
  ∃vs,(Instr.entry (.pointer (some ⟨r,0,none⟩))).run P w=.ok (.tuple #[encK ks ka k,encV va vs]) w∧D k vs∧(∀u∈vs,u.oneCell'=true)∧(va=false→vs.length=1):=by
 obtain⟨e,he,hek⟩:=h.has k hk hd
 obtain⟨_,hbn,_,vs,e1,e2⟩:=h.at he hk hek
 have hseen:((done++[k]).map g.born).toArray=((done.map g.born).toArray).push e.born:=by simp[hbn]
 rw[hseen] at hr
 have:=run_entry_at (P:=P) w r b g.clock _ es g.clock e hr hb he (by
  rw[List.Nodup,a2Z]
  exact h.stamps)
 exact⟨vs,by rw[this,hek,e1],e2⟩
theorem born_inj (h:MapRel D ks ka va dom n g es.toList) {k k':List Int} (hk:k.length=ks.length) (hk':k'.length=ks.length) (hd:dom k) (hd':dom k') (hb:g.born k=g.born k'):k=k':=by
 obtain⟨e,he,hek⟩:=h.has k hk hd
 obtain⟨e',he',hek'⟩:=h.has k' hk' hd'
 have h1:=(h.at he hk hek).2.1
 have h2:=(h.at he' hk' hek').2.1
 have:e=e':=by
  have hp:=a0T.1 h.stamps
  obtain⟨i,hi,rfl⟩:=List.mem_iff_getElem.1 he
  obtain⟨j,hj,rfl⟩:=List.mem_iff_getElem.1 he'
  rcases a3G i j with hlt|heq|hgt
  ·exact(hp i j hi hj hlt (by rw[h1,h2,hb])).elim
  ·subst heq;rfl
  ·exact(hp j i hj hi hgt (by rw[h1,h2,hb])).elim
 subst this
 exact encK_inj h.flat hk hk' (hek.symm.trans hek')
theorem make_run:(Instr.makeMap t none).run P w=.ok (.map (some w.heap.size)) (w.alloc (.map #[] 0)):=by
 simp[Instr.makeMap,newObj,Sem.run]
theorem range_run (hu:P.underlying t=some (.map kt et)) (hb:w.heap[b]? = some (.map es g.clock)):(Instr.range t (.map (some b))).run P w=.ok (.pointer (some ⟨w.heap.size,0,none⟩)) (w.alloc (.mapIter (some b) g.clock #[] g.clock)):=by
 simp[Instr.range,run_underlying hu,getObj,newObj,Sem.run,hb,Result.andThen]
end
end Go.Sx
