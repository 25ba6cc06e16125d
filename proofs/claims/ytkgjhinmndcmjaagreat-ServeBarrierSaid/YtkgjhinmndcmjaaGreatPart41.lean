/- Own work: texts of the proof of a law (SzRow2). No condition. -/
import Derived.RowKit
import Derived.OpenShut
import Derived.Test.YtkgjhinmndcmjaaGreatPart40
import Derived.Test.YtkgjhinmndcmjaaGreatPart0
set_option linter.unusedVariables false
set_option linter.unusedSimpArgs false
namespace Go.Sx
open Go Go.ChangeShapes Go.WideShapes Go.RowKit
variable {P:Program}
section
variable {H:Type} {enc:TypeId×Value→H} {w w':World} {sp:Nat→Bool} {held:Bool}
theorem mapM_le {n m:Nat} (hnm:n≤m) {cs:List Value}:∀{F:List Field} {xs:List (DataW H×List MemPlace)},F.mapM (fun f=>DataW.trod enc P w 0 sp held n f.type ((cs.drop f.offset).take (P.cellsOf f.type)))=some xs→
  F.mapM (fun f=>DataW.trod enc P w 0 sp held m f.type ((cs.drop f.offset).take (P.cellsOf f.type)))=some xs
 |[],xs,h=>by simpa using h
 |f :: r,xs,h=>by
  simp only[List.mapM_cons,bind,Option.bind_eq_some_iff,pure,a1H] at h ⊢
  obtain⟨x,h1,ys,h2,h3⟩:=h
  exact⟨x,DataW.trod_le hnm h1,ys,mapM_le hnm h2,h3⟩
theorem cells?_same (hb:∀b,b<w.heap.size→w'.heap[b]? = w.heap[b]?) {a:Addr} {n:Nat} {cs:List Value} (h:w.cells? 0 a n=some cs):w'.cells? 0 a n=some cs:=by
 rw[←h]
 obtain⟨h1,h2,h3⟩:=World.cells?_some h
 unfold World.cells?
 rw[if_pos (a1X _),if_pos (a1X _)]
 have key:∀(l:List Nat),(∀i∈l,i<n)→l.mapM (fun i=>w'.cell? (a.add i))=l.mapM (fun i=>w.cell? (a.add i)):=by
  intro l hl
  induction l with
  |nil=>rfl
  |cons i l ih=>
   have hc:w'.cell? (a.add i)=w.cell? (a.add i):=by
    have hi:=hl i (by simp)
    have:=h3 i hi
    rw[a0C (by omega)] at this
    unfold World.cell? at this ⊢
    have hlt:(a.add i).block<w.heap.size:=by
     cases hh:w.heap[(a.add i).block]? with
     |none=>rw[hh] at this;cases this
     |some o=>exact(a0L.1 hh).1
    rw[hb _ hlt]
   rw[List.mapM_cons,List.mapM_cons,hc,ih (fun j hj=>hl j (by simp[hj]))]
 exact key _ (fun i hi=>a1F.1 hi)
mutual
theorem TS.keep (hb:∀b,b<w.heap.size→w'.heap[b]? = w.heap[b]?):∀(s:TS) (fuel:Nat) (t:TypeId) (cs:List Value) (x:DataW H×List MemPlace),s.ok P t=true→DataW.trod enc P w 0 (fun _=>true) held fuel t cs=some x→(∀p∈x.2,sp p.block=true)→
  ∃n,DataW.trod enc P w' 0 sp held n t cs=some x
 |.int k,fuel,t,cs,x,hok,h,_=>by
  simp only[TS.ok,a0D] at hok
  have hu:P.underlying t=some (.int k):=by
   have:=hok.1
   split at this
   ·rename_i k' hk';rw[hk',of_decide_eq_true this]
   ·cases this
  have hu':=hu
  cases fuel with
  |zero=>simp[DataW.trod] at h
  |succ n=>
   unfold DataW.trod at h
   rw[hu] at h
   split at h<;>try(simp_all;done)
   rename_i k1 k2 m heq
   cases heq
   split at h
   ·rename_i hk
    obtain⟨rfl,hwf⟩:=hk
    cases h
    exact⟨1,by simp[DataW.trod,hu',hwf]⟩
   ·cases h
 |.bool,fuel,t,cs,x,hok,h,_=>by
  simp only[TS.ok,a0D] at hok
  have hu:P.underlying t=some .bool:=by
   have:=hok.1
   split at this
   ·rename_i hk';exact hk'
   ·cases this
  have hu':=hu
  cases fuel with
  |zero=>simp[DataW.trod] at h
  |succ n=>
   unfold DataW.trod at h
   rw[hu] at h
   split at h<;>try(simp_all;done)
   cases h
   exact⟨1,by simp[DataW.trod,hu']⟩
 |.slice e,fuel,t,cs,x,hok,h,hp=>by
  simp only[TS.ok,a0D] at hok
  obtain⟨u,hu,hoe,hs1⟩:∃u,P.underlying t=some (.slice u)∧e.ok P u=true∧1≤e.size:=by
   have:=hok.1
   split at this
   ·rename_i u hk';simp only[a0D] at this;exact⟨u,hk',this.1,a0P this.2⟩
   ·cases this
  have hC:=TS.ok_size hoe
  rcases Deep.open_slice hu h with⟨rfl,rfl⟩|⟨a,len,cap,m,n,D,Pl,rfl,_,hlc,hcm,hm,hx,hi⟩
  ·exact⟨1,by simp[DataW.trod,hu]⟩
  ·simp only[if_true] at hm
   subst hm
   subst hx
   have hel:∀i,i<m→∃cs n,w'.cells? 0 (a.add (i*P.cellsOf u)) (P.cellsOf u)=some cs∧DataW.trod enc P w' 0 sp held n u cs=some (D i,Pl i):=by
    intro i hil
    obtain⟨cs',h1,h2⟩:=hi i hil
    obtain⟨n',hn'⟩:=TS.keep hb e n u cs' _ hoe h2 (fun p hp'=>hp p (by
     simp only[a0U,List.mem_flatMap,a1F]
     exact .inr ⟨i,hil,hp'⟩))
    exact⟨cs',n',cells?_same hb h1,hn'⟩
   by_cases hsb:sp a.block=true
   ·exact Deep.shut_slice_whole_cells hu (a1X _) hlc hcm hsb D Pl hel
   ·have hm0:m=0:=by
     rcases a3C m with h0|h0
     ·exact h0
     ·refine absurd (hp (.cell a.block (a.off+0)) ?_) hsb
      simp only[a0U,MemPlace.row,a2V,a1F]
      exact .inl ⟨0,by rw[hC];exact Nat.mul_pos h0 hs1,rfl⟩
    subst hm0
    obtain rfl:len=0:=by omega
    obtain⟨n',hn'⟩:=Deep.shut_slice_cells (enc:=enc) (w:=w') (held:=held) (spare:=sp) hu (Nat.zero_le a.block) hlc hcm (by simpa using hsb) D Pl (fun i hi=>by omega)
    exact⟨n',by simpa using hn'⟩
 |.struct fs,fuel,t,cs,x,hok,h,hp=>by
  simp only[TS.ok,a0D] at hok
  obtain⟨F,hu,hF⟩:∃F,P.underlying t=some (.struct F)∧TS.oks P fs 0 F.toList=true:=by
   have:=hok.1
   split at this
   ·rename_i F hk';exact⟨F,hk',this⟩
   ·cases this
  cases fuel with
  |zero=>simp[DataW.trod] at h
  |succ n=>
   obtain⟨hl,xs,hxs,rfl⟩:cs.length=P.cellsOf t∧∃xs,F.toList.mapM (fun f=>DataW.trod enc P w 0 (fun _=>true) held n f.type ((cs.drop f.offset).take (P.cellsOf f.type)))=some xs∧(DataW.agg (xs.map (·.1)),xs.flatMap (·.2))=x:=by
    clear hp hok hF
    unfold DataW.trod at h
    rw[hu] at h
    clear hu hb
    split at h<;>simp_all
   obtain⟨m,hm⟩:=TS.keeps hb fs n 0 F.toList cs xs hF hxs (fun x hx p hp'=>hp p (List.mem_flatMap.2 ⟨x,hx,hp'⟩))
   exact⟨m+1,trod_struct_mk hu hl hm⟩
theorem TS.keeps (hb:∀b,b<w.heap.size→w'.heap[b]? = w.heap[b]?):∀(fs:List TS) (n o:Nat) (F:List Field) (cs:List Value) (xs:List (DataW H×List MemPlace)),TS.oks P fs o F=true→
  F.mapM (fun f=>DataW.trod enc P w 0 (fun _=>true) held n f.type ((cs.drop f.offset).take (P.cellsOf f.type)))=some xs→(∀x∈xs,∀p∈x.2,sp p.block=true)→
  ∃m,F.mapM (fun f=>DataW.trod enc P w' 0 sp held m f.type ((cs.drop f.offset).take (P.cellsOf f.type)))=some xs
 |[],n,o,F,cs,xs,hok,h,_=>by
  simp only[TS.oks,List.isEmpty_iff] at hok
  subst hok
  exact⟨0,by simpa using h⟩
 |s :: l,n,o,F,cs,xs,hok,h,hp=>by
  simp only[TS.oks] at hok
  split at hok
  ·rename_i f r
   simp only[a0D] at hok
   obtain⟨⟨_,h2⟩,h3⟩:=hok
   simp only[List.mapM_cons,bind,Option.bind_eq_some_iff,pure,a1H] at h
   obtain⟨x,g1,ys,g2,rfl⟩:=h
   obtain⟨m1,k1⟩:=TS.keep hb s n f.type _ x h2 g1 (hp x (by simp))
   obtain⟨m2,k2⟩:=TS.keeps hb l n (o+s.size) r cs ys h3 g2 (fun y hy=>hp y (by simp[hy]))
   refine⟨max m1 m2,?_⟩
   simp only[List.mapM_cons,bind,Option.bind_eq_some_iff,pure,a1H]
   exact⟨x,DataW.trod_le (Nat.le_max_left _ _) k1,ys,mapM_le (Nat.le_max_right _ _) k2,rfl⟩
  ·cases hok
end
def TS.okAll (P:Program):List TS→List TypeId→Bool
 |[],[]=>true
 |s :: l,t :: r=>s.ok P t && TS.okAll P l r
 |_,_=>false
def TS.arg:(s:TS)→s.Val→V
 |.struct fs,x=>.agg (TS.encs fs x)
 |.int k,(n:Int)=>.int k n
 |.bool,(b:Bool)=>.prop (b=true) inferInstance
 |.slice e,(l:List (TS.Val e))=>.sl (TS.size e) l.length (a0e (TS.enc e) (TS.dflt e) l)
def TS.args:(l:List TS)→TS.Vals l→List V
 |[],_=>[]
 |t :: l,x=>t.arg x.1 :: TS.args l x.2
theorem TS.keepAll (hb:∀b,b<w.heap.size→w'.heap[b]? = w.heap[b]?):∀{ss:List TS} {ts:List TypeId} {vs:List Value} {ds:List (DataW H)} {p:List MemPlace},TS.okAll P ss ts=true→
  DataW.TrodAll enc P w 0 (fun _=>true) held ts vs ds p→(∀q∈p,sp q.block=true)→DataW.TrodAll enc P w' 0 sp held ts vs ds p
 |[],[],vs,ds,p,_,h,_=>by
  obtain⟨rfl,rfl,rfl⟩:=trodAll_nil h
  exact trodAll_mk0
 |s :: l,t :: r,vs,ds,p,hok,h,hp=>by
  simp only[TS.okAll,a0D] at hok
  obtain⟨v,vs1,d,ds1,a,b,rfl,rfl,rfl,⟨fuel,h1⟩,h2⟩:=trodAll_cons h
  obtain⟨n,hn⟩:=TS.keep (sp:=sp) hb s fuel t _ _ hok.1 h1 (fun q hq=>hp q (by simp[hq]))
  exact trodAll_cons_mk ⟨n,hn⟩ (TS.keepAll hb hok.2 h2 (fun q hq=>hp q (by simp[hq])))
 |[],_ :: _,_,_,_,hok,_,_=>by simp[TS.okAll] at hok
 |_ :: _,[],_,_,_,hok,_,_=>by simp[TS.okAll] at hok
theorem TS.rdArg {s:TS} {t:TypeId} {v:Value} {d:DataW H} {p:List MemPlace} {r:Reach} {base:Nat} (hok:s.ok P t=true) (hv:Value.okWide P w r base t v) (h:DataW.Trod enc P w 0 (fun _=>true) held t v d p) :
  ∃y:s.Val,s.wf y∧Den (allB w) [] w (s.arg y) v:=by
 obtain⟨fuel,h⟩:=h
 obtain⟨y,h1,h2,h3,h4⟩:=TS.rd (fun _=>rfl) s fuel t _ _ hok h
 refine⟨y,h1,?_⟩
 have one:(∀cs,v≠.agg cs)→v.cells=#[v]:=by
  intro hne
  cases v<;>first|rfl|exact absurd rfl (hne _)
 cases s with
 |int k=>
  simp only[TS.ok,a0D] at hok
  have hu:P.underlying t=some (.int k):=by
   have:=hok.1
   split at this
   ·rename_i k' hk';rw[hk',of_decide_eq_true this]
   ·cases this
  have hne:∀cs,v≠.agg cs:=by
   rintro cs rfl
   simp[Value.okWide,hu,Cell.okWide,Cell.ok] at hv
  rw[one hne] at h2
  obtain⟨x,r,e1,e2,e3⟩:=h2
  simp at e1
  rw[←e1.1] at e2
  exact e2
 |bool=>
  simp only[TS.ok,a0D] at hok
  have hu:P.underlying t=some .bool:=by
   have:=hok.1
   split at this
   ·rename_i hk';exact hk'
   ·cases this
  have hne:∀cs,v≠.agg cs:=by
   rintro cs rfl
   simp[Value.okWide,hu,Cell.okWide,Cell.ok] at hv
  rw[one hne] at h2
  obtain⟨x,r,e1,e2,e3⟩:=h2
  simp at e1
  rw[←e1.1] at e2
  exact e2
 |slice e=>
  simp only[TS.ok,a0D] at hok
  obtain⟨u,hu⟩:∃u,P.underlying t=some (.slice u):=by
   have:=hok.1
   split at this
   ·rename_i u hk';exact⟨u,hk'⟩
   ·cases this
  have hne:∀cs,v≠.agg cs:=by
   rintro cs rfl
   simp[Value.okWide,hu,Cell.okWide,Cell.ok] at hv
  rw[one hne] at h2
  obtain⟨x,r,e1,e2,e3⟩:=h2
  simp at e1
  rw[←e1.1] at e2
  exact e2
 |struct fs=>
  simp only[TS.ok,a0D] at hok
  obtain⟨F,hu⟩:∃F,P.underlying t=some (.struct F):=by
   have:=hok.1
   split at this
   ·rename_i F hk';exact⟨F,hk'⟩
   ·cases this
  obtain⟨cs,rfl,_⟩:=okWide_struct hu hv
  exact⟨cs.toList,by simp,by simpa [Value.cells] using h4,h2⟩
theorem TS.rdAll {r:Reach} {base:Nat}:∀{ss:List TS} {ts:List TypeId} {vs:List Value} {ds:List (DataW H)} {p:List MemPlace},TS.okAll P ss ts=true→(∀(j:Nat) t v,ts[j]? = some t→vs[j]? = some v→Value.okWide P w r base t v)→
  DataW.TrodAll enc P w 0 (fun _=>true) held ts vs ds p→∃y:TS.Vals ss,TS.wfs ss y∧DenL (allB w) [] w (TS.args ss y) vs
 |[],[],vs,ds,p,_,_,h=>by
  obtain⟨rfl,rfl,rfl⟩:=trodAll_nil h
  exact⟨(),trivial,rfl⟩
 |s :: l,t :: r,vs,ds,p,hok,hv,h=>by
  simp only[TS.okAll,a0D] at hok
  obtain⟨v,vs1,d,ds1,a,b,rfl,rfl,rfl,h1,h2⟩:=trodAll_cons h
  obtain⟨y,g1,g2⟩:=TS.rdArg hok.1 (hv 0 t v rfl rfl) h1
  obtain⟨ys,k1,k2⟩:=TS.rdAll hok.2 (fun j t v h3 h4=>hv (j+1) t v (by simpa using h3) (by simpa using h4)) h2
  exact⟨(y,ys),⟨g1,k1⟩,v,vs1,rfl,g2,k2⟩
 |[],_ :: _,_,_,_,hok,_,_=>by simp[TS.okAll] at hok
 |_ :: _,[],_,_,_,hok,_,_=>by simp[TS.okAll] at hok
theorem Pres.kept (h:Pres w w') (may:MemPlace→Prop):w.keptBut w' may:=by
 refine⟨h.os,h.output,fun i hi=>?_⟩
 rw[h.block i hi]
 split<;>simp_all
theorem post_of_pres {f:Func} {s:ChangeSpec} {apart fresh handsOn again:Bool} {args:Array Value} {ds gs:List (DataW H)} {before:List MemPlace} {ss:List TS} {tb:TypeId}
  (hW:DataW.Whole enc P f.params.toList s.vars apart w args.toList ds gs before) (hvars:s.vars=[]) (hok:TS.okAll P ss f.params.toList=true) (hres:f.resultTypes=#[tb]) (htb:P.underlying tb=some .bool)
  (hfn:(s.fn H (ds++gs)).results=[.lit (.bool true)]∧(s.fn H (ds++gs)).args=ds∧(s.fn H (ds++gs)).vars=[]) (hp:Pres w w') :
  s.post enc P f apart fresh handsOn again w args (.bool true) w':=by
 have hW':=hW
 obtain⟨pa,pv,hA,hV,hps,hz,hn⟩:=hW
 rw[hvars] at hV
 obtain⟨rfl,rfl⟩:=trodVars_none hV
 have hold:∀p∈before,(fun b=>decide (b<w.heap.size)) p.block=true:=fun p hp=>by simpa using hW'.lt p hp
 have hargs:∀sp:Nat→Bool,(∀p∈before,sp p.block=true)→DataW.TrodAll enc P w' 0 sp true f.params.toList args.toList (s.fn H (ds++[])).args pa:=by
  intro sp hsp
  rw[hfn.2.1]
  exact TS.keepAll hp.block hok hA (fun q hq=>hsp q (by rw[hps];simp[hq]))
 have hr:∀(b:Nat) (sp:Nat→Bool) (hd:Bool),DataW.TrodAll enc P w' b sp hd f.resultTypes.toList ((Value.bool true).resultList f.resultTypes.size) (s.fn H (ds++[])).results []:=by
  intro b sp hd
  rw[hres,hfn.1]
  exact trodAll_cons_mk (shut_bool htb true) trodAll_mk0
 have hv:∀sp:Nat→Bool,DataW.TrodVars enc P w' sp s.vars (s.fn H (ds++[])).vars []:=by
  intro sp
  rw[hvars,hfn.2.2]
  rfl
 have hokr:∀(j:Nat) (t:TypeId) (r:Value),f.resultTypes[j]? = some t→((Value.bool true).resultList f.resultTypes.size)[j]? = some r→Value.okWide P w' .any 0 t r:=ok_one hres rfl (okWide_bool_mk htb true)
 refine⟨ds,[],before,[],pa,[],hW',hr _ _ _,hargs _ hold,hv _,World.keptBut_mono (fun p hp=>⟨hp,?_⟩) (hp.kept (·∈before)),fun _=>?_⟩
 ·rw[hps] at hp
  simpa using hp
 ·refine⟨hokr,_,_,([]++pa)++[],⟨[]++pa,[],trodAll_append (hargs _ (fun _ _=>rfl)) (hr _ _ _),hv _,rfl,?_,?_⟩,?_⟩
  ·intro b off hp'
   have hmem:MemPlace.cell b off∈before:=by rw[hps];simpa using hp'
   have hlt:b<w.heap.size:=of_decide_eq_true (hold _ hmem)
   have:=hz b off hmem
   unfold World.frozen? at this ⊢
   rw[hp.block b hlt]
   exact this
  ·intro ha
   have:=hn ha
   rw[hps] at this
   simpa using this
  ·intro p hp' _
   rw[hps]
   simpa using hp'
theorem contract_of_pure {g:FuncId} {f:Func} {s:ChangeSpec} {apart fresh handsOn again:Bool} {ss:List TS} {tb:TypeId} (hvars:s.vars=[]) (hok:TS.okAll P ss f.params.toList=true) (hres:f.resultTypes=#[tb]) (htb:P.underlying tb=some .bool)
  (hfn:∀(H:Type) (ds:List (DataW H)),ds.length=ss.length→(s.fn H ds).results=[.lit (.bool true)]∧(s.fn H ds).args=ds∧(s.fn H ds).vars=[])
  (hc:∀y:TS.Vals ss,TS.wfs ss y→∃keep,a0g P g keep (TS.args ss y) (·=.prop True inferInstance))
  (W:World) (base:Nat) (args:Array Value) (ds gs:List (DataW H)) (before:List MemPlace)
  (hval:∀(j:Nat) t v,f.params[j]? = some t→args[j]? = some v→Value.okWide P W .any base t v)
  (hW:DataW.Whole enc P f.params.toList s.vars apart W args.toList ds gs before) :
  Calls P g args W fun e W'=>∃v,e=.returned v∧s.post enc P f apart fresh handsOn again W args v W':=by
 have hW':=hW
 obtain⟨pa,pv,hA,hV,hps,hz,hn⟩:=hW'
 rw[hvars] at hV
 obtain⟨rfl,rfl⟩:=trodVars_none hV
 have hlen:ds.length=ss.length:=by
  clear hc hW hfn hval hps hz hn
  revert hA hok
  generalize f.params.toList=ts
  generalize args.toList=vs
  intro hok hA
  induction ss generalizing ts vs ds pa with
  |nil=>
   cases ts with
   |nil=>obtain⟨_,rfl,_⟩:=trodAll_nil hA;rfl
   |cons t r=>simp[TS.okAll] at hok
  |cons s l ih=>
   cases ts with
   |nil=>simp[TS.okAll] at hok
   |cons t r=>
    simp only[TS.okAll,a0D] at hok
    obtain⟨v,vs1,d,ds1,a,b,rfl,rfl,rfl,h1,h2⟩:=trodAll_cons hA
    simp[ih _ _ _ _ hok.2 h2]
 obtain⟨y,h1,h2⟩:=TS.rdAll (r:=.any) (base:=base) hok (fun j t v h3 h4=>hval j t v (by simpa using h3) (by simpa using h4)) hA
 obtain⟨keep,hp⟩:=hc y h1
 have:=hp.2 (allB W) W args.toList (fun b hb=>hb) h2
 simp only[a3L] at this
 refine this.mono ?_
 rintro e W' ⟨ret,v,rfl,rfl,hden,hpres⟩
 have hv:v=.bool true:=by
  have:v=.bool (decide True):=hden
  simpa using this
 subst hv
 exact⟨_,rfl,post_of_pres hW hvars hok hres htb (by rw[a3V];exact hfn H ds hlen) hpres⟩
end
end Go.Sx
