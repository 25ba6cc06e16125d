/- Own work: texts of the proof of a law (SzRun, SzCall, SzFn, SzNew, SzAid, SzAid2, SzFrame). No condition. -/
import Derived.Scope
import Derived.Test.YtkgjhinmndcmjaaGreatPart10
import Derived.Test.YtkgjhinmndcmjaaGreatPart0
namespace Go.Sx
open Go
variable {P:Program} {E:Env}
theorem havK_ex:∀(l:List Nat) (T:List V) (K:List V→Prop),havK T l K→∃T₀,K T₀
 |[],T,K,h=>⟨T,h⟩
 |d :: l,T,K,h=>by simp only[havK] at h;rw[a0p] at h;exact havK_ex l _ K h
theorem ovrVK_ex:∀(l:List (Nat×V)) (T:List V),∃T₁,∀K:List V→Prop,ovrVK T l K=K T₁
 |[],T=>⟨T,fun _=>rfl⟩
 |(d,v) :: l,T=>by
  obtain⟨T₁,h⟩:=ovrVK_ex l (set T d v)
  exact⟨T₁,fun K=>by simp only[ovrVK];rw[force_eq,a0p];exact h K⟩
theorem ovrHK_ex:∀(l:List (Nat×O)) (T:List O),∃T₁,∀K:List O→Prop,ovrHK T l K=K T₁
 |[],T=>⟨T,fun _=>rfl⟩
 |(d,v) :: l,T=>by
  obtain⟨T₁,h⟩:=ovrHK_ex l (set T d v)
  exact⟨T₁,fun K=>by simp only[ovrHK];rw[a0p];exact h K⟩
theorem appK_ex {α:Type}:∀(l:List α) (T:List α),∃T₁,∀K:List α→Prop,appK T l K=K T₁
 |[],T=>⟨T,fun _=>rfl⟩
 |v :: l,T=>by
  obtain⟨T₁,h⟩:=appK_ex l (T++[v])
  exact⟨T₁,fun K=>by simp only[appK];rw[a1i];exact h K⟩
structure ProgOk (E:Env) (P:Program):Prop where
 env:a1b E P
 mixed:P.follows .mixedOrders=true
theorem alloc_old {w:World} {o:Obj} {b:Nat} (h:b<w.heap.size):(w.alloc o).heap[b]? = w.heap[b]?:=by
 rw[World.alloc_heap,a3E]
 have:b≠w.heap.size:=by omega
 simp[this]
theorem wpIn_scope_straight {F:Fence} {n:Nat} {c:Code} {Q:Exit→Act→World→Prop} {a:Act} {w:World} (h:c.wpIn F n P (Exit.noGoto Q) a w):(Code.scope c).wpIn F n P Q a w:=by
 intro b k cs hro hb hr
 have h0:(lone (b.atR a (.code (.scope c) :: k)) cs w).fenced P F:=fenced_calm hb hr rfl
 have s0:step P (lone (b.atR a (.code (.scope c) :: k)) cs w)=.next (lone (b.atR a (.code c :: .inScope c :: k)) cs w):=step_lone_go (by simp[stepG,stepG.exec,Frame.atR])
 obtain⟨e,a₁,w₁,hq,harr⟩:=h b (.inScope c :: k) cs hro hb hr
 cases e with
 |normal=>
  have s1:step P (lone (b.atR a₁ (.inScope c :: k)) cs w₁)=.next (lone (b.atR a₁ k) cs w₁):=step_lone_go (by simp[stepG,stepG.exec,Frame.atR])
  exact⟨.normal,a₁,w₁,hq,.head h0 s0 (StepsIn.trans harr (.one (fenced_calm hb hr rfl) s1))⟩
 |exit id'=>
  have hx:exitTo id' (.inScope c :: k)=exitTo id' k:=by simp[exitTo]
  exact⟨.exit id',a₁,w₁,hq,fun k' hk=>.head h0 s0 (harr.1 k' (by rw[hx];exact hk)),
   fun hr' hk=>let⟨k₁,h1,h2⟩:=harr.2 hr' (by rw[hx];exact hk);⟨k₁,h1,.head h0 s0 h2⟩⟩
 |goto l=>exact hq.elim
 |ret=>exact⟨_,a₁,w₁,hq,.of_steps (.one h0 s0) harr⟩
 |panic ch=>exact⟨_,a₁,w₁,hq,.of_steps (.one h0 s0) harr⟩
 |outgrown=>exact⟨_,a₁,w₁,hq,.of_steps (.one h0 s0) harr⟩
section
variable (hE:ProgOk E P) {r:Option Nat} {n B:Nat}
include hE
omit hE in
theorem rangeFunc_sound {g:Operand} {ps:Array Tmp} {assign body:Code} {Q:Exit→KT} {T:List V} {H:List O} {I:Nat→Prop} {η:Eta} {w:World} {a:Act} (h:exec (sys P) E B (.rangeFunc g ps assign body) Q T H) (hg:Good I η w T H a) :
  (Code.rangeFunc g ps assign body).wpIn (Fw none) n P (fun e a' w'=>AfterM B I (own η H) w a.defers (Q e) a' w') a w:=by
 simp only[exec] at h
 split at h
 ·rename_i f first cap hf
  rw[a1k,a1i,forceL_eq,a2n] at h
  have hfd:=ev0_den hg.tmp g
  rw[hf] at hfd
  obtain⟨as,bs,hfv,had,hbd⟩:=hfd
  unfold sys Callee at h
  obtain⟨⟨fn,hfn,hnm,hbody⟩,hcall⟩:=h
  refine wpIn_rangeFunc ?_
  intro fid _
  obtain⟨s1,s2,s3⟩:=hg.sat.aside (.deferred (some []))
  have hsz1:(w.alloc (.deferred (some []))).heap.size=w.heap.size+1:=by rw[World.alloc_heap];simp
  have hlist:∀st,lrec fid a.tmps ps.toList assign body w.heap.size st=lrec fid a.tmps ps.toList assign body w.heap.size st:=fun _=>rfl
  obtain⟨t1,t2,t3⟩:=s1.push (.loop (lrec fid a.tmps ps.toList assign body w.heap.size .ready)) (.loop T ps.toList assign body .ready) 0
   ⟨_,_,fid,a.tmps,w.heap.size,rfl,World.alloc_heap_new _ _,DenL.mono (s2.trans ⟨fun id e he _=>by rw[a0F (a0B.1 he).1];exact he,fun _ hb=>hb,fun b hb=>alloc_old (by have:=hg.sat.ilt b hb;rw[hsz1];omega)⟩) _ _ hg.tmp.list⟩
  rw[hsz1] at t1 t2 t3
  obtain⟨w1,hw1⟩:∃w1,(w.alloc (.deferred (some []))).alloc (.loop (lrec fid a.tmps ps.toList assign body w.heap.size .ready))=w1:=⟨_,rfl⟩
  rw[hw1] at t1 t2 t3
  have hen:(Instr.enterLoop fid a.tmps ps assign body none).run P w=.ok (w.heap.size+1,[mark w.heap.size]) w1:=by
   rw[run_enterLoop_outer,←hw1]
   simp[lrec,mark]
  have hb':fn.body.isNone=false:=hbody
  refine⟨w.heap.size+1,[mark w.heap.size],w1,{target:=.fn (.func f) bs.toArray,args:=as.toArray++#[.func (.yield (w.heap.size+1)) #[] #[]]},w1,f,
   (as++(.func (.yield (w.heap.size+1)) #[] #[] :: bs)).toArray,w1,hen,?_,fun _ _=>trivial,?_,fun h=>by simp[Fw] at h,?_⟩
  ·simp only[resolve,hfv,Deferred.ofValue,Sem.run_pure]
   simp[go_sem]
  ·simp only[invoke,callFunc,Sem.run_bind,run_program,hfn,hnm,hb',Result.andThen_ok]
   simp
  ·have hall:DenL I (η++[(some (w.heap.size+1),0)]) w1 (first++(.yld H.length :: cap)) (as++(.func (.yield (w.heap.size+1)) #[] #[] :: bs)):=by
    refine(DenL.mono (s2.trans t2) _ _ had).append ⟨_,_,rfl,⟨w.heap.size+1,0,?_,rfl⟩,DenL.mono (s2.trans t2) _ _ hbd⟩
    rw[←hg.sat.len];simp
   refine a3g ((hcall I _ w1 _ t1 hall).mono ?_)
   rintro e w3 ⟨I',η',H',ret,v,rfl,hk,hs,hden,hm,hr⟩
   have hηl:η'[H.length]? = some (some (w.heap.size+1),0):=hm.eta _ _ (by rw[←hg.sat.len];simp) (by simp)
   have hD1:w1.heap[w.heap.size]? = some (.deferred (some [])):=by rw[←hw1,World.alloc_heap,World.alloc_heap];simp[a3E]
   have hDW:¬own (η++[(some (w.heap.size+1),0)]) (H++[.loop T ps.toList assign body .ready]) w.heap.size:=by
    intro hD
    rcases t3.wnew _ hD with hD|hD
    ·have:=hg.sat.lt _ hD;omega
    ·rw[hsz1] at hD;omega
   have m1:Marks w.heap.size I (own (η++[(some (w.heap.size+1),0)]) (H++[.loop T ps.toList assign body .ready])) w1 [w.heap.size]:=
    ⟨by simp,fun D hD=>by rw[a1B.1 hD];exact⟨a0K _,hD1,hDW,fun hI=>by have:=hg.sat.ilt _ hI;omega⟩⟩
   have fin:∀(o:O) (st:LSt),get .gone H' H.length=o→(∃T' ps' a' b',o=.loop T' ps' a' b' st)→st≠.busy→∃w4,(Instr.endLoop (w.heap.size+1)).run P w3=.ok (match st with|.done c=>some c|_=>none) w4∧
     ∀(K:KT),K T (set H' H.length .gone)→AfterM B I (own η H) w a.defers K {a with defers:=[mark w.heap.size]++a.defers} w4:=by
    rintro o st ho ⟨T',ps',a',b',rfl⟩ hst
    have hH':=a0j ho trivial
    obtain⟨bb,cc,fn',tmps',D',he,hbl,_⟩:=hs.obj _ _ _ hηl hH'
    cases he
    obtain⟨k1,k2,k3⟩:=hs.kill hηl hH' trivial (.loop {lrec fn' tmps' ps' a' b' D' st with state:=.exhausted})
    refine⟨w3.putObj (w.heap.size+1) (.loop {lrec fn' tmps' ps' a' b' D' st with state:=.exhausted}),?_,fun K hK=>?_⟩
    ·have:=run_endLoop (P:=P) hbl (by cases st<;>simp_all [lrec])
     rw[this]
     cases st<;>simp_all [lrec]
    ·rw[a0v] at hK
     refine⟨I',η',T,_,[w.heap.size],rfl,(m1.step (B:=0) hr.toB).step (B:=0) k3.toB,hK,⟨k1,hg.tmp.mono (s2.trans (t2.trans (hm.trans k2)))⟩,((s3.trans t3).trans (hr.trans k3)).toB⟩
   simp only[rangePost]
   split at hk
   ·rename_i T' ps' a' b' hget
    rw[a0p] at hk
    obtain⟨w4,h1,h2⟩:=fin _ .ready hget ⟨_,_,_,_,rfl⟩ (by simp)
    exact⟨none,w4,h1,h2 _ hk⟩
   ·rename_i T' ps' a' b' hget
    rw[a0p] at hk
    obtain⟨w4,h1,h2⟩:=fin _ (.done .ret) hget ⟨_,_,_,_,rfl⟩ (by simp)
    exact⟨some .ret,w4,h1,wpIn_ret (h2 _ hk)⟩
   ·rename_i T' ps' a' b' id hget
    rw[a0p] at hk
    obtain⟨w4,h1,h2⟩:=fin _ (.done (.exit id)) hget ⟨_,_,_,_,rfl⟩ (by simp)
    exact⟨some (.exit id),w4,h1,wpIn_exit (h2 _ hk)⟩
   ·exact hk.elim
 ·exact h.elim
theorem a1w:∀(c:Code) (Q:Exit→KT) (T:List V) (H:List O) (I:Nat→Prop) (η:Eta) (w:World) (a:Act),(r=none∨plainC c=true)→exec (sys P) E B c Q T H→Good I η w T H a→
  c.wpIn (Fw r) n P (fun e a' w'=>AfterM B I (own η H) w a.defers (Q e) a' w') a w
 |.skip,Q,T,H,I,η,w,a,_,h,hg=>wpIn_skip (a1r.toM ⟨rfl,I,η,T,H,h,hg,(Step.refl _ _ _).toB⟩)
 |.label _,Q,T,H,I,η,w,a,_,h,hg=>wpIn_label (a1r.toM ⟨rfl,I,η,T,H,h,hg,(Step.refl _ _ _).toB⟩)
 |.ret,Q,T,H,I,η,w,a,_,h,hg=>wpIn_ret (a1r.toM ⟨rfl,I,η,T,H,h,hg,(Step.refl _ _ _).toB⟩)
 |.exit id,Q,T,H,I,η,w,a,_,h,hg=>wpIn_exit (a1r.toM ⟨rfl,I,η,T,H,h,hg,(Step.refl _ _ _).toB⟩)
 |.region id ops false,Q,T,H,I,η,w,a,_,h,hg=>by
  simp only[exec] at h
  exact wpIn_region_list (execOps_sound (relOk_step B) hE.env (fun a' w' hq=>a1r.toM hq) ops.toList T H I η w a h hg rfl (Step.refl _ _ _).toB)
 |.region id ops true,Q,T,H,I,η,w,a,_,h,hg=>by
  simp only[exec] at h
  exact draw_sound (relOk_step B) hE.env hE.mixed h hg (fun a' w' hq=>a1r.toM hq)
 |.seq x y,Q,T,H,I,η,w,a,hp,h,hg=>by
  simp only[exec] at h
  have hp1:r=none∨plainC x=true:=hp.imp id (fun h=>by simp only[plainC,a0D] at h;exact h.1)
  have hp2:r=none∨plainC y=true:=hp.imp id (fun h=>by simp only[plainC,a0D] at h;exact h.2)
  refine wpIn_seq (wpIn_mono (a1w x _ T H I η w a hp1 h hg) ?_)
  rintro e a' w' ⟨I',η',T',H',Ds,hd,hm,hq,hg',hr⟩
  cases e with
  |normal=>
   refine wpIn_mono (a1w y Q T' H' I' η' w' a' hp2 hq hg') ?_
   intro e a'' w'' h2
   exact AfterM.trans hd hm hr h2
  |_=>exact⟨I',η',T',H',Ds,hd,hm,hq,hg',hr⟩
 |.cond c x y,Q,T,H,I,η,w,a,hp,h,hg=>by
  have hp1:r=none∨plainC x=true:=hp.imp id (fun h=>by simp only[plainC,a0D] at h;exact h.1)
  have hp2:r=none∨plainC y=true:=hp.imp id (fun h=>by simp only[plainC,a0D] at h;exact h.2)
  simp only[exec] at h
  have hc:=ev0_den hg.tmp c
  split at h
  ·rename_i hv
   rw[hv] at hc
   exact wpIn_cond_true hc (a1w x Q T H I η w a hp1 h hg)
  ·rename_i hv
   rw[hv] at hc
   exact wpIn_cond_false hc (a1w y Q T H I η w a hp2 h hg)
  ·rename_i p d hv
   rw[hv] at hc
   refine wpIn_cond_split hc (fun ht=>?_) (fun hf=>?_)
   ·exact a1w x Q T H I η w a hp1 (h.1 (by simpa using ht)) hg
   ·exact a1w y Q T H I η w a hp2 (h.2 (by simpa using hf)) hg
  ·exact h.elim
 |.block id c,Q,T,H,I,η,w,a,hp,h,hg=>by
  simp only[exec] at h
  refine wpIn_block (wpIn_mono (a1w c _ T H I η w a hp h hg) ?_)
  rintro e a' w' ⟨I',η',T',H',Ds,hd,hm,hq,hg',hr⟩
  cases e with
  |exit j=>
   simp only[cond_eq_ite] at hq
   simp only[Exit.inBlock]
   split at hq
   ·rename_i hj
    rw[if_pos (a0f hj)]
    exact⟨I',η',T',H',Ds,hd,hm,hq,hg',hr⟩
   ·rename_i hj
    have:¬j=id:=fun e=>hj (by rw[e];simp)
    rw[if_neg this]
    exact⟨I',η',T',H',Ds,hd,hm,hq,hg',hr⟩
  |_=>exact⟨I',η',T',H',Ds,hd,hm,hq,hg',hr⟩
 |.loop c,Q,T,H,I,η,w,a,hp,h,hg=>by
  simp only[exec] at h
  obtain⟨T₀,h⟩:=havK_ex _ T _ h
  obtain⟨ι,inv,m,ov,oh,ex,i₀,⟨hinv,ρ,h0⟩,hround⟩:=h
  obtain⟨ST,hST⟩:∃ST:ι→List V,∀i K,ovrVK T₀ (ov i) K=K (ST i):=⟨fun i=>(ovrVK_ex (ov i) T₀).choose,fun i=>(ovrVK_ex (ov i) T₀).choose_spec⟩
  obtain⟨SG,hSG⟩:∃SG:ι→List O,∀i K,ovrHK H (oh i) K=K (SG i):=⟨fun i=>(ovrHK_ex (oh i) H).choose,fun i=>(ovrHK_ex (oh i) H).choose_spec⟩
  obtain⟨SH,hSH⟩:∃SH:ι→List O,∀i K,appK (SG i) (ex i) K=K (SH i):=⟨fun i=>(appK_ex (ex i) (SG i)).choose,fun i=>(appK_ex (ex i) (SG i)).choose_spec⟩
  simp only[hST,hSG,hSH] at h0 hround
  obtain⟨I₁,η₁,hg₁,hs₁⟩:=Ent_sound h0 hg
  refine wpIn_loop_ghost (fun k a' w'=>∃i,inv i∧m i=k∧∃I' η' Ds,a'.defers=List.map mark Ds++a.defers∧Marks w.heap.size I' (own η' (SH i)) w' Ds∧Good I' η' w' (ST i) (SH i) a'∧StepB B I (own η H) w I' (own η' (SH i)) w') (m i₀)
   ⟨i₀,hinv,rfl,I₁,η₁,[],rfl,Marks.nil _ _ _ _,hg₁,hs₁⟩ ?_
  rintro k a' w' ⟨i,hi,rfl,I',η',Ds,hd,hm,hg',hr⟩
  refine wpIn_mono (a1w c _ (ST i) (SH i) I' η' w' a' hp (hround i hi) hg') ?_
  intro e a'' w'' hq0
  cases e with
  |normal=>
   obtain⟨I'',η'',T'',H'',Ds',hd',hm',hq,hg'',hr'⟩:=AfterM.trans hd hm hr hq0
   obtain⟨j,⟨hj,hlt⟩,ρ',hent⟩:=hq
   obtain⟨I₂,η₂,hg₂,hs₂⟩:=Ent_sound hent hg''
   exact⟨m j,hlt,j,hj,rfl,I₂,η₂,Ds',hd',hm'.step hs₂,hg₂,hr'.trans hs₂⟩
  |_=>exact AfterM.trans hd hm hr hq0
 |.rangeFunc g ps assign body,Q,T,H,I,η,w,a,hp,h,hg=>by
  rcases hp with rfl|hp
  ·exact rangeFunc_sound h hg
  ·cases hp
 |.scope c,Q,T,H,I,η,w,a,hp,h,hg=>by
  simp only[exec] at h
  refine wpIn_scope_straight (wpIn_mono (a1w c _ T H I η w a hp h hg) ?_)
  rintro e a' w' ⟨I',η',T',H',Ds,hd,hm,hq,hg',hr⟩
  cases e with
  |goto _=>exact hq.elim
  |_=>exact⟨I',η',T',H',Ds,hd,hm,hq,hg',hr⟩
 |.goto _,_,_,_,_,_,_,_,_,h,_=>by simp only[exec] at h
 |.refuse _,_,_,_,_,_,_,_,_,h,_=>by simp only[exec] at h
end
end Go.Sx
namespace Go.Sx
open Go
/-! ### results -/
def resOne (E:Env) (T:List V) (H:List O):ResultVar→Option V
 |.tmp t=>some (get .any T t)
 |.cell a t=>match get .any T a with
  |.ptr id off=>match loadV E H t (.ptr id off) with
   |.ok v=>some v
   |_=>none
  |_=>none
def resL (E:Env) (T:List V) (H:List O):List ResultVar→Option (List V)
 |[]=>some []
 |r :: l=>match resOne E T H r,resL E T H l with
  |some v,some vs=>some (v :: vs)
  |_,_=>none
def resK (E:Env) (T:List V) (H:List O) (rs:List ResultVar) (K:V→Prop):Prop:=
 match resL E T H rs with
 |some [v]=>force v K
 |some vs=>forceL vs fun vs=>K (.tup vs)
 |none=>False
variable {P:Program} {E:Env}
section
variable {I:Nat→Prop} {η:Eta} {w:World} {H:List O} {keep:Bool} {J:Nat→Prop}
def resSem (tmps:Array Value):ResultVar→Sem Value
 |.tmp t=>pure (tmps.getD t undef)
 |.cell a t=>do loadVar t (←asAddr (tmps.getD a undef))
theorem results_eq (fn:Func) (tmps:Array Value):results fn tmps=(do
  let vs ←fn.results.mapM (resSem tmps)
  pure (if h:vs.size=1 then vs[0] else .tuple vs)):=by
 unfold results
 congr 1
theorem resOne_sound (hE:a1b E P) (hS:Sat I η w H) {T:List V} {tmps:Array Value} (hT:SatT I η w T tmps) {rv:ResultVar} {v:V} (h:resOne E T H rv=some v) :
  ∃x,(resSem tmps rv).run P w=.ok x w∧Den I η w v x:=by
 cases rv with
 |tmp t=>simp only[resOne,a1H] at h;subst h;exact⟨_,rfl,hT.2 t⟩
 |cell a t=>
  simp only[resOne] at h
  split at h
  ·rename_i id off hv
   have hd:=hT.2 a
   rw[hv] at hd
   have hl:=loadV_sound (P:=P) hE hS.obj t hd
   split at h
   ·rename_i u hu
    cases h
    rw[hu] at hl
    obtain⟨x,h1,h2⟩:=hl
    obtain⟨b,c,_,hp⟩:=hd
    refine⟨x,?_,h2⟩
    rw[hp] at h1
    simpa [resSem,hp,asAddr,Instr.loadAt,Instr.sureAddr] using h1
   ·cases h
  ·cases h
theorem resL_sound (hE:a1b E P) (hS:Sat I η w H) {T:List V} {tmps:Array Value} (hT:SatT I η w T tmps):∀{rs:List ResultVar} {vs:List V},resL E T H rs=some vs→
  ∃xs:List Value,(rs.mapM (resSem tmps)).run P w=.ok xs w∧DenL I η w vs xs
 |[],vs,h=>by simp only[resL,a1H] at h;subst h;exact⟨[],by simp,rfl⟩
 |rv :: rs,vs,h=>by
  simp only[resL] at h
  split at h
  ·rename_i v vs' h1 h2
   cases h
   obtain⟨x,g1,g2⟩:=resOne_sound hE hS hT h1
   obtain⟨xs,g3,g4⟩:=resL_sound hE hS hT h2
   refine⟨x :: xs,?_,x,xs,rfl,g2,g4⟩
   simp only[List.mapM_cons,Sem.run_bind,g1,Result.andThen_ok,g3,Sem.run_pure]
  ·cases h
theorem resK_sound (hE:a1b E P) (hS:Sat I η w H) {T:List V} {tmps:Array Value} (hT:SatT I η w T tmps) {fn:Func} {K:V→Prop} (h:resK E T H fn.results.toList K) :
  ∃v x,K v∧(results fn tmps).run P w=.ok x w∧Den I η w v x:=by
 unfold resK at h
 have hm:∀(xs:List Value),(fn.results.toList.mapM (resSem tmps)).run P w=.ok xs w→
   (fn.results.mapM (resSem tmps)).run P w=.ok xs.toArray w:=by
  intro xs hx
  rw[Array.mapM_eq_mapM_toList,Sem.run_map,hx]
  rfl
 split at h
 ·rename_i v hr
  obtain⟨xs,h1,h2⟩:=resL_sound (P:=P) hE hS hT hr
  obtain⟨x,r,rfl,h3,h4⟩:=h2
  have h4:r=[]:=h4
  subst h4
  rw[force_eq] at h
  refine⟨v,x,h,?_,h3⟩
  rw[results_eq,Sem.run_bind,hm _ h1]
  simp
 ·rename_i vs hne hr
  obtain⟨xs,h1,h2⟩:=resL_sound (P:=P) hE hS hT hr
  rw[forceL_eq] at h
  refine⟨.tup vs,.tuple xs.toArray,h,?_,xs,rfl,h2⟩
  rw[results_eq,Sem.run_bind,hm _ h1]
  have hl:=h2.length
  have:xs.toArray.size≠1:=by
   intro h1
   have hvl:vs.length=1:=by rw[←hl];simpa using h1
   obtain⟨v,rfl⟩:=a1K.1 hvl
   exact hne v rfl
  simp
  intro h1
  exact(this (by simpa using h1)).elim
 ·exact h.elim
end
/-! ### contracts -/
theorem a0g.mono {g:FuncId} {keep:Bool} {args:List V} {R R':V→Prop} (h:a0g P g keep args R) (hr:∀v,R v→R' v):a0g P g keep args R':=
 ⟨h.1,fun I w vals hI hd=>(h.2 I w vals hI hd).mono fun _ _ ⟨ret,v,h1,h2,h3⟩=>⟨ret,v,h1,hr _ h2,h3⟩⟩
def padT (args:List V) (n:Nat):List V:=app args (repl (n-len args))
where repl:Nat→List V
 |0=>[]
 |n+1=>.any :: repl n
theorem padT_repl (n:Nat):padT.repl n=List.replicate n .any:=by
 induction n with
 |zero=>rfl
 |succ n ih=>simp[padT.repl,ih,List.replicate_succ]
theorem denL_any (I:Nat→Prop) (η:Eta) (w:World):∀(vs:List Value),DenL I η w (List.replicate vs.length .any) vs
 |[]=>rfl
 |v :: vs=>⟨v,vs,rfl,trivial,denL_any I η w vs⟩
def retQ (E:Env) (fn:Func) (K:V→List O→Prop):Exit→KT
 |.normal,T,H=>resK E T H fn.results.toList fun v=>K v H
 |.ret,T,H=>resK E T H fn.results.toList fun v=>K v H
 |_,_,_=>False
theorem leaves_marks {fn:Func} {tmps:Array Value} {I:Nat→Prop} {η:Eta} {H:List O} {N:Nat} {R:Ending→World→Prop}:∀(Ds:List Nat) (w:World),Sat I η w H→Marks N I (own η H) w Ds→
  (∀w',w'.os=w.os→w'.tape=w.tape→w'.output=w.output→w'.heap.size=w.heap.size→(∀b,b<N→w'.heap[b]? = w.heap[b]?)→Sat I η w' H→Mono I η w I η w'→∃v,(results fn tmps).run P w'=.ok v w'∧R (.returned v) w')→
  LeavesInM (Fw none) 0 P fn tmps R (List.map mark Ds) .returning w
 |[],w,hS,_,h=>h w rfl rfl rfl rfl (fun _ _=>rfl) hS (Mono.refl _ _ _)
 |D :: Ds,w,hS,hm,h=>by
  obtain⟨h1,h2,h3,h4⟩:=hm.all D (by simp)
  obtain⟨s1,s2⟩:=hS.putAside (.deferred none) h4 h3
  have hnd:=List.nodup_cons.1 hm.nodup
  refine⟨by simp,.inl ⟨D,w.putObj D (.deferred none),rfl,run_takeDeferred h2,leaves_marks (N:=N) Ds _ s1 ⟨hnd.2,fun D' hD'=>?_⟩ ?_⟩⟩
  ·obtain⟨g1,g2,g3,g4⟩:=hm.all D' (by simp[hD'])
   have hne:D'≠D:=fun e=>hnd.1 (e▸hD')
   exact⟨g1,(World.putObj_heap_other hne).trans g2,g3,g4⟩
  ·intro w' e1 e2 e3 e4 e5 e6 e7
   exact h w' e1 e2 e3 (by rw[e4,World.putObj_size]) (fun b hb=>(e5 b hb).trans (World.putObj_heap_other (by omega))) e6 (s2.trans e7)
theorem calls_of_exec (hE:ProgOk E P) {g:FuncId} {fn:Func} {code:Code} (hf:P.funcs[g]? = some fn) (hb:fn.body=some code) {args:List V} {H:List O} {K:V→List O→Prop}
  (hx:exec (sys P) E (len H) code (retQ E fn K) (padT args fn.ntmps) H) {I:Nat→Prop} {η:Eta} {w:World} {vals:List Value} (hS:Sat I η w H) (hd:DenL I η w args vals) :
  Calls P g vals.toArray w fun e w'=>∃I' η' H' ret v,e=.returned v∧K ret H'∧Sat I' η' w' H'∧Den I' η' w' ret v∧Mono I η w I' η' w'∧Step I (own η H) w I' (own η' H') w':=by
 refine callsIn_wide (n:=0).1 (callsIn_of_wp_marks (F:=Fw none) hf hb trivial ?_)
 have hT:SatT I η w (padT args fn.ntmps) (vals.toArray++Array.replicate (fn.ntmps-vals.toArray.size) undef):=by
  refine SatT.ofList ?_
  unfold padT
  rw[a2n,padT_repl,a1j]
  have hl:=hd.length
  simp only[Array.toList_append,Array.toList_replicate,a2B]
  refine hd.append ?_
  have:=denL_any I η w (List.replicate (fn.ntmps-vals.length) undef)
  rw[List.length_replicate,hl] at this
  rw[hl]
  exact this
 refine wpIn_mono (a1w (r:=none) (n:=0) hE code _ _ H I η w {tmps:=_,defers:=[]} (.inl rfl) hx ⟨hS,hT⟩) ?_
 rintro e a' w' ⟨I',η',T',H',Ds,hds,hm,hq,hg,hr⟩
 have hds:a'.defers=List.map mark Ds:=by simpa using hds
 have fin:resK E T' H' fn.results.toList (fun v=>K v H')→LeavesInM (Fw none) 0 P fn a'.tmps (fun e w'=>∃I' η' H' ret v,e=.returned v∧K ret H'∧Sat I' η' w' H'∧Den I' η' w' ret v∧Mono I η w I' η' w'∧Step I (own η H) w I' (own η' H') w') a'.defers .returning w':=by
  intro hk
  rw[hds]
  refine leaves_marks Ds w' hg.sat hm ?_
  intro w'' e1 e2 e3 e4 e5 e6 e7
  obtain⟨v,x,h1,h2,h3⟩:=resK_sound (P:=P) hE.env e6 (hg.tmp.mono e7) hk
  have hst:Step I (own η H) w I' (own η' H') w'':=by
   have h0:=hr.toStep (by rw[a1j];exact Nat.le_of_eq hS.len)
   exact⟨e1.trans h0.os,e2.trans h0.tape,e3.trans h0.output,by rw[e4];exact h0.size,fun b hb hw=>(e5 b hb).trans (h0.block b hb hw),h0.imono,h0.inew,h0.wnew,h0.eta⟩
  exact⟨x,h2,I',η',H',v,x,rfl,h1,e6,h3,⟨hst.eta,hst.imono,fun b hb=>hst.block b (hS.ilt b hb) (fun hw=>hS.notI b hw hb)⟩,hst⟩
 cases e with
 |normal=>exact fin hq
 |ret=>exact fin hq
 |exit _=>exact hq.elim
 |goto _=>exact hq.elim
 |panic _=>exact hq.elim
 |outgrown=>exact hq.elim
theorem a0r (hE : ProgOk E P) {g : FuncId} {fn : Func} {code : Code} (hf : P.funcs[g]? = some fn) (hb : fn.body = some code) (hn : (fn.name == "runtime.NumGoroutine") = false) {args : List V} {H : List O} {K : V → List O → Prop}
  (hx:exec (sys P) E (len H) code (retQ E fn K) (padT args fn.ntmps) H):Callee P g args H K:=by
 unfold Callee
 exact⟨⟨fn,hf,hn,by rw[hb];rfl⟩,fun I η w vals hS hd=>calls_of_exec hE hf hb hx hS hd⟩
theorem sat_nil {I:Nat→Prop} {w:World} (h:∀b,I b→b<w.heap.size):Sat I [] w [] where
 len:=rfl
 obj:=fun id e o h=>by simp at h
 apart:=fun id id' b c c' o o' h=>by simp at h
 notI:=fun b ⟨id,c,o,h,_⟩=>by simp at h
 lt:=fun b ⟨id,c,o,h,_⟩=>by simp at h
 ilt:=h
theorem own_nil (b:Nat):¬own [] [] b:=fun⟨id,c,o,h,_⟩=>by simp at h
theorem a0a (hE : ProgOk E P) {g : FuncId} {fn : Func} {code : Code} (hf : P.funcs[g]? = some fn) (hb : fn.body = some code) (hn : (fn.name == "runtime.NumGoroutine") = false) {keep : Bool} {args : List V} {R : V → Prop}
  (hx:exec (sys P) E 0 code (retQ E fn fun v H=>∃ret,R ret∧rEnt keep H v ret True) (padT args fn.ntmps) []):a0g P g keep args R:=by
 refine⟨⟨fn,hf,hn,by rw[hb];rfl⟩,fun I w vals hI hd=>?_⟩
 refine(calls_of_exec (H:=[]) hE hf hb hx (sat_nil hI) hd).mono ?_
 rintro e w' ⟨I',η',H',v,x,rfl,⟨ret,hret,hent⟩,hS,hden,_,hst⟩
 have hown:∀b,own η' H' b→w.heap.size≤b:=fun b hb=>(hst.wnew b hb).resolve_left (own_nil b)
 obtain⟨h1,_⟩:=rEnt_sound (J:=fun b=>(keep=true∧I b)∨(w.heap.size≤b∧b<w'.heap.size)) (keep:=keep) hS.obj (fun b hb=>.inr ⟨hown b hb,hS.lt b hb⟩)
  (fun hk b hb=>by
   rcases hst.inew b hb with h|h|h
   ·exact .inl ⟨hk,h⟩
   ·exact(own_nil b h).elim
   ·exact .inr ⟨h,hS.ilt b hb⟩) v ret True x hent hden
 exact⟨ret,x,rfl,hret,h1,⟨hst.os,hst.tape,hst.output,hst.size,fun b hb=>hst.block b hb (own_nil b)⟩⟩
theorem a0b {g:FuncId} {keep:Bool} {args:List V} {R0:V→Prop} {H:List O} {K:V→List O→Prop} (h:a0g P g keep args R0) (hfo:foL args=true) (hk:∀ret,R0 ret→K ret H) :
  Callee P g args H K:=by
 unfold Callee
 refine⟨h.1,fun I η w vals hS hd=>?_⟩
 refine(h.2 I w vals hS.ilt (fo_nil_list _ _ hfo hd)).mono ?_
 rintro e w' ⟨ret,v,rfl,hr,hden,hp⟩
 obtain⟨s1,s2,s3⟩:=hS.pres hp
 refine⟨grow I w w',η,H,ret,v,rfl,hk ret hr,s1,?_,s2,s3⟩
 refine Den.mono ⟨fun _ _ he _=>by simp at he,fun b hb=>?_,fun _ _=>rfl⟩ _ _ hden
 rcases hb with hb|hb
 ·exact .inl hb.2
 ·exact .inr hb
theorem a0u {g:FuncId} {args cargs:List V} {R0:V→Prop} {H:List O} {K:V→List O→Prop} (h:a0g P g false cargs R0) (hk:rEntL true H args cargs (∀ret,R0 ret→K ret H)) :
  Callee P g args H K:=by
 unfold Callee
 refine⟨h.1,fun I η w vals hS hd=>?_⟩
 obtain⟨hd',hk'⟩:=rEntL_sound (J:=fun b=>I b∨own η H b) (keep:=true) hS.obj (fun b hb=>.inr hb) (fun _ b hb=>.inl hb) args cargs _ vals hk hd
 refine(h.2 _ w vals (fun b hb=>hb.elim (hS.ilt b) (hS.lt b)) hd').mono ?_
 rintro e w' ⟨ret,v,rfl,hr,hden,hp⟩
 obtain⟨s1,s2,s3⟩:=hS.pres hp
 refine⟨grow I w w',η,H,ret,v,rfl,hk' ret hr,s1,?_,s2,s3⟩
 refine Den.mono ⟨fun _ _ he _=>by simp at he,fun b hb=>?_,fun _ _=>rfl⟩ _ _ hden
 rcases hb with hb|hb
 ·exact(Bool.false_ne_true hb.1).elim
 ·exact .inr hb
end Go.Sx
namespace Go.Sx
theorem a1b.flag {E:Env} {P:Program} (h:a1b ({} :: E) P):a1b ({size:=1} :: E) P:=by
 intro t hk
 cases t with
 |zero=>cases hk
 |succ t=>exact h (t+1) hk
theorem envOk_of {E:Env} {P:Program} {n:Nat} {mask:Nat→Bool} (h:E=(List.range n).map (fun t=>bif mask t then tiOf P t else {})):a1b E P:=by
 intro t hk
 unfold Env.ti at hk ⊢
 rw[a0z,h,a1O] at hk ⊢
 by_cases ht:t<n
 ·rw[List.getElem?_range ht] at hk ⊢
  simp only[a3U,a2S] at hk ⊢
  cases hm:mask t with
  |true=>rfl
  |false=>rw[hm] at hk;cases hk
 ·rw[List.getElem?_eq_none (by simpa using ht)] at hk
  cases hk
end Go.Sx
namespace Go.Sx
theorem appF_one {n:Nat} {f:Nat→List V} {c:List V} (h:f n=c):∀i,i<n+1→appF n f (fun _=>c) i=f i:=by
 intro i hi
 unfold appF
 split
 ·rfl
 ·rw[show i=n by omega,h]
theorem inR64 {n:Int} (h1:-9223372036854775808≤n) (h2:n≤9223372036854775807):inR .i64 n:=⟨h1,h2⟩
end Go.Sx
namespace Go.Sx
open Go
variable {P:Program} {E:Env}
/-! ### function values -/
def FnD (P:Program) {ι:Type} (args:ι→List V) (R:ι→V→Prop) (I:Nat→Prop) (w:World) (v:Value):Prop:=
 ∃g as bs,v=.func (.func g) as bs∧Plain P g∧∀(i:ι) (vals:List Value),(∀b,I b→b<w.heap.size)→DenL I [] w (args i) vals→Calls P g (as++vals.toArray++bs) w fun e w'=>
  ∃ret x,e=.returned x∧R i ret∧Den (fun b=>w.heap.size≤b∧b<w'.heap.size) [] w' ret x∧Pres w w'
theorem scall_fn {ι:Type} {args:ι→List V} {R:ι→V→Prop} (i:ι) {as:List V} {H:List O} {K:V→List O→Prop} (ha:as=args i) (hfo:foL as=true) (hk:∀ret,R i ret→K ret H):SCall P (FnD P args R) as H K:=by
 unfold SCall
 subst ha
 intro I η w f vals hS hf hd
 obtain⟨g,as,bs,rfl,hp,hc⟩:=hf.2 I w (fun _ h=>h) (fun _ _=>rfl)
 refine⟨g,as,bs,rfl,hp,(hc i vals hS.ilt (fo_nil_list _ _ hfo hd)).mono ?_⟩
 rintro e w' ⟨ret,x,rfl,hr,hden,hpr⟩
 obtain⟨s1,s2,s3⟩:=hS.pres hpr
 refine⟨grow I w w',η,H,ret,x,rfl,hk ret hr,s1,?_,s2,s3⟩
 exact Den.mono ⟨fun _ _ he _=>by simp at he,fun b hb=>.inr hb,fun _ _=>rfl⟩ _ _ hden
theorem semOb_fn {ι:Type} {args:ι→List V} {R:ι→V→Prop} {keep:Bool} {H:List O} {g:FuncId} {a b a' b':List V} (hc:∀i,a0g P g false (a'++(args i++b')) (R i)) (hne:Plain P g) (hv:rEntL keep H a a' (rEntL keep H b b' True)) :
  SemOb keep H (.fn (.func g) a b) (FnD P args R):=by
 intro I J η w v hO hJ hI hd
 obtain⟨as,bs,rfl,h1,h2⟩:=hd
 obtain⟨g1,g2⟩:=rEntL_sound hO hJ hI a a' _ as hv h1
 obtain⟨g3,_⟩:=rEntL_sound hO hJ hI b b' _ bs g2 h2
 refine⟨rfl,fun I' w' hI' hw'=>⟨g,as.toArray,bs.toArray,rfl,hne,fun i vals hlt hd=>?_⟩⟩
 have m:Mono J [] w I' [] w':=⟨fun _ _ he _=>he,hI',hw'⟩
 have:=(hc i).2 I' w' (as++(vals++bs)) hlt ((DenL.mono m _ _ g1).append (hd.append (DenL.mono m _ _ g3)))
 rw[show as.toArray++vals.toArray++bs.toArray=(as++(vals++bs)).toArray by simp]
 refine this.mono ?_
 rintro e w'' ⟨ret,x,rfl,hr,hden,hpr⟩
 exact⟨ret,x,rfl,hr,Den.mono ⟨fun _ _ he _=>by simp at he,fun b hb=>hb.elim (fun h=>(Bool.false_ne_true h.1).elim) id,fun _ _=>rfl⟩ _ _ hden,hpr⟩
/-! ### rounds of loops over functions -/
def putAllK (T:List V):List Nat→List V→(List V→Prop)→Prop
 |[],[],K=>K T
 |d :: ds,v :: vs,K=>setK T d v fun T=>putAllK T ds vs K
 |_,_,_=>False
def loopSt (H:List O) (id:Nat) (st:LSt) (K:List O→Prop):Prop:=
 match get .gone H id with
 |.loop T ps a b _=>setK H id (.loop T ps a b st) K
 |_=>False
def roundEnd (id:Nat) (K:V→List O→Prop):Exit→KT
 |.normal,_,H=>loopSt H id .ready fun H=>K (.kb true) H
 |.ret,_,H=>loopSt H id (.done .ret) fun H=>K (.kb false) H
 |.exit j,_,H=>loopSt H id (.done (.exit j)) fun H=>K (.kb false) H
 |_,_,_=>False
def isReady (H:List O) (id:Nat):Bool:=
 match get .gone H id with
 |.loop _ _ _ _ .ready=>true
 |_=>false
def yieldX (S:Sys) (E:Env) (id:Nat) (args:List V) (H:List O) (K:V→List O→Prop):Prop:=
 match get .gone H id with
 |.loop T ps assign body .ready=>putAllK T ps args fun T'=>lenK H fun B=>exec S E B assign (fun e T1 H1=>match e with
   |.normal=>bif isReady H1 id then loopSt H1 id .busy fun H2=>exec S E B body (roundEnd id K) T1 H2 else False
   |_=>False) T' H
 |_=>False
theorem putAllK_sound {I:Nat→Prop} {η:Eta} {w:World}:∀(ps:List Nat) (args:List V) (vals:List Value) (T:List V) (tmps:Array Value) (K:List V→Prop),putAllK T ps args K→DenL I η w args vals→SatT I η w T tmps→
  vals.length=ps.length∧∃T',K T'∧SatT I η w T' ((ps.zip vals).foldl (fun tmps (t,a)=>tmps.setIfInBounds t a) tmps)
 |[],[],vals,T,tmps,K,h,hd,hT=>by
  have hd:vals=[]:=hd
  subst hd
  exact⟨rfl,T,h,hT⟩
 |d :: ds,v :: vs,vals,T,tmps,K,h,hd,hT=>by
  obtain⟨x,r,rfl,h1,h2⟩:=hd
  simp only[putAllK] at h
  rw[a0p] at h
  have hp:SatT I η w (set T d v) (tmps.setIfInBounds d x):=by
   have:=SatT.put (a:={tmps:=tmps,defers:=[]}) (dst:=some d) hT h1
   simpa [Act.put] using this
  obtain⟨g1,T',g2,g3⟩:=putAllK_sound ds vs r _ _ K h h2 hp
  exact⟨by simp[g1],T',g2,by simpa using g3⟩
 |[],_ :: _,_,_,_,_,h,_,_=>h.elim
 |_ :: _,[],_,_,_,_,h,_,_=>h.elim
theorem loopSt_sound {I:Nat→Prop} {η:Eta} {w:World} {H:List O} {id b c:Nat} {st:LSt} {K:List O→Prop} (h:loopSt H id st K) (hS:Sat I η w H) (hη:η[id]? = some (some b,c)) :
  ∃fn tmps ps assign body D st0,w.heap[b]? = some (.loop (lrec fn tmps ps assign body D st0))∧(∃T,get .gone H id=.loop T ps assign body st0)∧∃H',K H'∧
   Sat I η (w.putObj b (.loop (lrec fn tmps ps assign body D st))) H'∧Mono I η w I η (w.putObj b (.loop (lrec fn tmps ps assign body D st)))∧Step I (own η H) w I (own η H') (w.putObj b (.loop (lrec fn tmps ps assign body D st))):=by
 unfold loopSt at h
 split at h
 ·rename_i T ps a bd st0 hg
  rw[a0p,a0v] at h
  have hH:=a0j hg trivial
  obtain⟨b',c',fn,tmps,D,he,hb,hd⟩:=hS.obj id _ _ hη hH
  cases he
  have hlt:b<w.heap.size:=(a0L.1 hb).1
  obtain⟨s1,s2,s3⟩:=hS.turn (w':=w.putObj b (.loop (lrec fn tmps ps a bd D st))) (o':=.loop T ps a bd st) hη hH trivial trivial rfl rfl rfl (by simp) (fun k hk=>World.putObj_heap_other hk)
   (fun m=>⟨b,c,fn,tmps,D,rfl,World.putObj_heap_same hlt,DenL.mono m _ _ hd⟩)
  exact⟨fn,tmps,ps,a,bd,D,st0,hb,⟨T,hg⟩,_,h,s1,s2,s3⟩
 ·exact h.elim
theorem ycall_exec (hE:ProgOk E P) {id:Nat} {args:List V} {H:List O} {K:V→List O→Prop} {T:List V} {ps:List Nat} {assign body:Code} (hg:get .gone H id=.loop T ps assign body .ready) (hpa:plainC assign=true) (hpb:plainC body=true)
  (hx:yieldX (sys P) E id args H K):YCall P id args H K:=by
 unfold YCall
 intro I η w vals hS hd
 unfold yieldX at hx
 rw[hg] at hx
 simp only at hx
 have hH:=a0j hg trivial
 have hidl:id<H.length:=(a0B.1 hH).1
 have hη0:η[id]? = some (η[id]'(by rw[hS.len];exact hidl)):=a0C _
 obtain⟨b,c,fn,tmps,D,he,hb,hdT⟩:=hS.obj id _ _ hη0 hH
 rw[he] at hη0
 have hT:SatT I η w T tmps:=SatT.ofList hdT
 obtain⟨hl,T',hx,hT'⟩:=putAllK_sound ps args vals T tmps _ hx hd hT
 refine⟨b,c,fn,(ps.zip vals).foldl (fun tmps (t,a)=>tmps.setIfInBounds t a) tmps,assign,body,hη0,?_,?_⟩
 ·have:=run_yield (P:=P) (args:=vals.toArray) hb (by simp[lrec,hl])
  simp only[invoke]
  rw[this]
  simp[lrec]
 ·rw[a1k] at hx
  refine roundIn_of_wpIn (F:=Fw none) (n:=0) trivial ?_
  have h1:=a1w (r:=some b) (n:=0) (B:=H.length) hE assign _ T' H I η w {tmps:=_,defers:=[]} (.inr hpa) hx ⟨hS,hT'⟩
  refine wpIn_mono h1 ?_
  rintro e a1 w1 ⟨I1,η1,T1,H1,Ds,hds,hm,hq,hg1,hr1⟩
  have hη1:η1[id]? = some (some b,c):=hr1.eta id _ hidl hη0 (by simp)
  cases e with
  |normal=>
   simp only[cond_eq_ite] at hq
   split at hq
   ·rename_i hrd
    obtain⟨fn2,tmps2,ps2,as2,bd2,D2,st2,hb2,⟨T2,hget2⟩,H2,hx2,s1,s2,s3⟩:=loopSt_sound hq hg1.sat hη1
    have hst:st2=.ready:=by
     unfold isReady at hrd
     rw[hget2] at hrd
     cases st2<;>first|rfl|cases hrd
    subst hst
    refine⟨_,run_beginRound hb2 rfl,?_⟩
    have h2:=a1w (r:=some b) (n:=0) (B:=H.length) hE body _ T1 H2 I1 η1 (w1.putObj b (.loop (lrec fn2 tmps2 ps2 as2 bd2 D2 .busy))) a1 (.inr hpb) hx2 ⟨s1,hg1.tmp.mono s2⟩
    refine wpIn_mono h2 ?_
    rintro e a3 w3 ⟨I3,η3,T3,H3,Ds3,hds3,hm3,hq3,hg3,hr3⟩
    have hη3:η3[id]? = some (some b,c):=hr3.eta id _ hidl hη1 (by simp)
    have hB:StepB H.length I (own η H) w I3 (own η3 H3) w3:=(hr1.trans s3.toB).trans hr3
    have fin:∀(st:LSt) (j:Option Code) (bb:Bool),(∀(fn:FuncId) (tmps:Array Value) (ps:List Nat) (as bd:Code) (D:Nat) (st0:LSt),({lrec fn tmps ps as bd D st0 with state:=if j.isNone then .ready else .done,pending:=j}:Loop)=lrec fn tmps ps as bd D st)→j.isNone=bb→loopSt H3 id st (fun H=>K (.kb bb) H)→
      ∃v w',(Instr.endRound b j).run P w3=.ok v w'∧(∃I' η' H' ret v',Ending.returned v=.returned v'∧K ret H'∧Sat I' η' w' H'∧Den I' η' w' ret v'∧Mono I η w I' η' w'∧Step I (own η H) w I' (own η' H') w'):=by
     intro st j bb hrec hbb hk
     obtain⟨fn4,tmps4,ps4,as4,bd4,D4,st4,hb4,_,H4,hk4,t1,t2,t3⟩:=loopSt_sound hk hg3.sat hη3
     refine⟨_,_,run_endRound j hb4,I3,η3,H4,.kb bb,.bool bb,by rw[hbb],hk4,?_,?_,?_,?_⟩
     ·rw[hrec];exact t1
     ·rfl
     ·rw[hrec]
      have hst:=(hB.trans t3.toB).toStep (by show η.length≤_;rw[hS.len];exact a0K _)
      exact⟨hst.eta,hst.imono,fun k hk=>hst.block k (hS.ilt k hk) (fun hw=>hS.notI k hw hk)⟩
     ·rw[hrec]
      exact(hB.trans t3.toB).toStep (by show η.length≤_;rw[hS.len];exact a0K _)
    cases e with
    |normal=>exact fin .ready none true (fun _ _ _ _ _ _ st0=>by cases st0<;>rfl) rfl hq3
    |ret=>exact fin (.done .ret) (some .ret) false (fun _ _ _ _ _ _ st0=>by cases st0<;>rfl) rfl hq3
    |exit j=>exact fin (.done (.exit j)) (some (.exit j)) false (fun _ _ _ _ _ _ st0=>by cases st0<;>rfl) rfl hq3
    |goto _=>exact hq3.elim
    |panic _=>exact hq3.elim
    |outgrown=>exact hq3.elim
   ·exact hq.elim
  |_=>exact hq.elim
end Go.Sx
namespace Go.Sx
open Go
variable {P:Program} {E:Env}
theorem NewC.mono {g:FuncId} {args:List V} {R R':V→List O→Prop} (h:NewC P g args R) (hr:∀v H,R v H→R' v H):NewC P g args R':=
 ⟨h.1,fun I w vals hI hd=>(h.2 I w vals hI hd).mono fun _ _ ⟨I',η',H',ret,v,h1,h2,h3⟩=>⟨I',η',H',ret,v,h1,hr _ _ h2,h3⟩⟩
theorem NewC.pure {g:FuncId} {keep:Bool} {args:List V} {R:V→List O→Prop} {R':V→Prop} (h:NewC P g args R) (hr:∀v H,R v H→∃ret,R' ret∧rEnt keep H v ret True):a0g P g keep args R':=by
 refine⟨h.1,fun I w vals hI hd=>(h.2 I w vals hI hd).mono ?_⟩
 rintro e w' ⟨I',η',H',v,x,rfl,hret,hS,hden,hst⟩
 obtain⟨ret,hret,hent⟩:=hr _ _ hret
 have hown:∀b,own η' H' b→w.heap.size≤b:=fun b hb=>(hst.wnew b hb).resolve_left (own_nil b)
 obtain⟨h1,_⟩:=rEnt_sound (J:=fun b=>(keep=true∧I b)∨(w.heap.size≤b∧b<w'.heap.size)) (keep:=keep) hS.obj (fun b hb=>.inr ⟨hown b hb,hS.lt b hb⟩)
  (fun hk b hb=>by
   rcases hst.inew b hb with h|h|h
   ·exact .inl ⟨hk,h⟩
   ·exact(own_nil b h).elim
   ·exact .inr ⟨h,hS.ilt b hb⟩) v ret True x hent hden
 exact⟨ret,x,rfl,hret,h1,⟨hst.os,hst.tape,hst.output,hst.size,fun b hb=>hst.block b hb (own_nil b)⟩⟩
theorem a2l {g:FuncId} {args:List V} {R:V→List O→Prop} {H:List O} {K:V→List O→Prop} (h:NewC P g args R) (hfo:foL args=true) (hk:∀ret H',R ret H'→lenK H fun n=>force (shV n ret) fun r=>appK H (shH n H') fun H2=>K r H2) :
  Callee P g args H K:=by
 unfold Callee
 refine⟨h.1,fun I η w vals hS hd=>?_⟩
 refine(h.2 I w vals hS.ilt (fo_nil_list _ _ hfo hd)).mono ?_
 rintro e w' ⟨I',η',H',ret,v,rfl,hr,hS',hden,hst⟩
 obtain⟨s1,s2,s3⟩:=hS.join hS' hst
 have:=hk ret H' hr
 rw[a1k,force_eq,appK_eq] at this
 exact⟨I',η++η',H++shH H.length H',shV H.length ret,v,rfl,this,s1,Den.shift (fun j e he=>by rw[List.getElem?_append_right (by rw[hS.len];omega),hS.len];simpa using he) _ _ hden,s2,s3⟩
end Go.Sx
namespace Go.Sx
open Go
variable {P:Program} {E:Env}
theorem iJ {p q:Prop} (h:p→q):p→q:=h
theorem spl {p q r:Prop} (h1:p→q) (h2:¬p→r):(p→q)∧(¬p→r):=⟨h1,h2⟩
theorem spl' {p q r:Prop} (h1:¬p→q) (h2:p→r):(¬p→q)∧(p→r):=⟨h1,h2⟩
theorem vc {a b:Prop} (h:a:=by first|(with_reducible rfl)|exact id|exact trivial|exact Iff.rfl|exact inR64 (by omega) (by omega)|omega|(dsimp only;omega)|(dsimp only;exact inR64 (by omega) (by omega))|exact fun _ _=>rfl|exact fun _=>rfl|(intros;first|assumption|omega|(exact inR64 (by omega) (by omega)))|exact rfl|exact fun _ _=>⟨Iff.rfl,fun _=>rfl⟩|exact .inr (fun _ _=>rfl)|exact .inr (fun _=>rfl)|exact .inl rfl|exact fun h1 h2=>⟨h1,h2⟩|exact fun h=>h.1|exact fun h=>h.2|exact fun h=>⟨h.1,h.2⟩) (k:b):a∧b:=⟨h,k⟩
theorem dr {ops:List Oper} {F:Nat→Prop} (p:Nat) (k:F p) (h:drawOk ops p=true:=by decide +kernel):∃p,drawOk ops p=true∧F p:=⟨p,h,k⟩
theorem pcall_fo {g:FuncId} {keep:Bool} {args:List V} {H:List O} {v:V} (h:a0g P g keep args (·=v)) (hfo:foL args=true):PCall P g args H v:=by
 unfold PCall
 exact⟨keep,args,h,.inl ⟨rfl,hfo⟩⟩
theorem a0d {g:FuncId} {keep:Bool} {args:List V} {H:List O} {v:V} {F:V→Prop} {G:Prop} (h:a0g P g keep args (·=v)) (hfo:foL args=true) (hf:F v):(∃v,PCall P g args H v∧F v)∨G:=.inl ⟨v,pcall_fo h hfo,hf⟩
theorem a0h {e:Prop} {g:FuncId} {keep:Bool} {args:List V} {H:List O} {v:V} {F:V→Prop} (h:e→a0g P g keep args (·=v)) (hfo:foL args=true) (hf:F v):∃v,(e→PCall P g args H v)∧F v:=⟨v,fun he=>pcall_fo (h he) hfo,hf⟩
theorem pcall_view {g:FuncId} {args cargs:List V} {H:List O} {v:V} {F:V→Prop} (h:a0g P g false cargs (·=v)) (hv:rEntL true H args cargs True) {G:Prop} (hf:F v):(∃v,PCall P g args H v∧F v)∨G:=by
 refine .inl ⟨v,?_,hf⟩
 unfold PCall
 exact⟨false,cargs,h,.inr ⟨rfl,hv⟩⟩
theorem newC_ent (hE : ProgOk E P) {g : FuncId} {fn : Func} {code : Code} (hf : P.funcs[g]? = some fn) (hb : fn.body = some code) (hn : (fn.name == "runtime.NumGoroutine") = false) {args : List V} {R : V → List O → Prop}
  (hx:exec (sys P) E 0 code (retQ E fn fun v H=>∃v1 H1,R v1 H1∧∃ρ,Ent 0 ρ [v] H [v1] H1) (padT args fn.ntmps) []):NewC P g args R:=by
 refine⟨⟨fn,hf,hn,by rw[hb];rfl⟩,fun I w vals hI hd=>?_⟩
 refine(calls_of_exec (H:=[]) hE hf hb hx (sat_nil hI) hd).mono ?_
 rintro e w' ⟨I',η',H',v,x,rfl,⟨v1,H1,hret,ρ,hent⟩,hS,hden,_,hst⟩
 have hg:Good I' η' w' [v] H' {tmps:=#[x],defers:=[]}:=⟨hS,SatT.ofList ⟨x,[],rfl,hden,rfl⟩⟩
 obtain⟨I1,η1,hg1,hs1⟩:=Ent_sound hent hg
 have hx:=hg1.tmp.2 0
 refine⟨I1,η1,H1,v1,x,rfl,hret,hg1.sat,by simpa [get] using hx,?_⟩
 have h0:=(hst.toB (B:=0)).trans hs1
 exact⟨h0.os,h0.tape,h0.output,h0.size,h0.block,h0.imono,h0.inew,h0.wnew,fun id e he _=>by simp[own] at he⟩
theorem a0g.view {g:FuncId} {keep:Bool} {args cargs:List V} {R:V→Prop} (h:a0g P g keep cargs R) (hv:rEntL true [] args cargs True):a0g P g keep args R:=by
 refine⟨h.1,fun I w vals hI hd=>?_⟩
 obtain⟨hd',_⟩:=rEntL_sound (J:=I) (keep:=true) (sat_nil hI).obj (fun b hb=>(own_nil b hb).elim) (fun _ b hb=>hb) args cargs _ vals hv hd
 exact h.2 I w vals hI hd'
def a0e {α:Type} (c:α→List V) (d:α) (l:List α) (i:Nat):List V:=c (l.getD i d)
theorem a1q {α:Type} {c:α→List V} {d:α} {l:List α} {a:α} {n:Nat} {f:Nat→List V} (hn:n=l.length) (hf:∀i,i<n→f i=a0e c d l i):∀i,i<n+1→appF n f (fun _=>c a) i=a0e c d (l++[a]) i:=by
 subst hn
 intro i hi
 unfold appF
 split
 ·rename_i h
  rw[hf i h]
  unfold a0e
  simp only[a0A]
  rw[a0F h]
 ·rename_i h
  obtain rfl:i=l.length:=by omega
  unfold a0e
  simp
theorem a1t {α:Type} [DecidableEq α]:∀{l m:List α},l.Nodup→(∀x∈l,x∈m)→l.length≤m.length
 |[],_,_,_=>by simp
 |x :: l,m,hn,hm=>by
  have h1:=List.nodup_cons.1 hn
  have hx:x∈m:=hm x (by simp)
  have:=a1t (l:=l) (m:=m.erase x) h1.2 (fun y hy=>(List.mem_erase_of_ne (a:=y) (b:=x) (fun e=>by subst e;exact h1.1 hy)).2 (hm y (by simp[hy])))
  rw[List.length_erase_of_mem hx] at this
  have:0<m.length:=List.length_pos_of_mem hx
  simp
  omega
theorem Counted.le {ks:List IntKind} {dom:List Int→Prop} {n:Nat} (h:Counted ks dom n) {l:List (List Int)} (hn:l.Nodup) (hl:∀k∈l,k.length=ks.length∧dom k):l.length≤n:=by
 obtain⟨all,h1,h2,_,h3⟩:=h
 rw[←h2]
 exact a1t hn (fun k hk=>(h3 k (hl k hk).1).2 (hl k hk).2)
end Go.Sx
namespace Go.Sx
open Go
theorem vcq {a b:Prop} (k:b) (h:a:=by first|(with_reducible rfl)|(with_reducible exact id)|(with_reducible exact trivial)|(with_reducible exact Iff.rfl)|(with_reducible exact And.left)|(with_reducible exact And.right)|(with_reducible exact And.intro)|(with_reducible exact not_inl)|(with_reducible exact and_ll)|(with_reducible exact and_lr)|exact inR64 (by omega) (by omega)|omega|exact⟨by omega,inR64 (by omega) (by omega)⟩|(dsimp only;omega)|(dsimp only;exact inR64 (by omega) (by omega))|(intros;first|(with_reducible assumption)|omega|(exact inR64 (by omega) (by omega)))|(with_reducible exact fun _ _=>rfl)|(with_reducible exact fun _=>rfl)|exact fun _ _=>rfl|exact fun _=>rfl|exact rfl|exact fun _ _=>⟨Iff.rfl,fun _=>rfl⟩|exact fun _=>⟨Iff.rfl,fun _=>rfl⟩|exact .inr (fun _ _=>rfl)|exact .inr (fun _=>rfl)|exact .inl rfl|exact Iff.rfl|exact id|exact And.left|exact And.right):a∧b:=⟨h,k⟩
structure KX (p:Prop):Prop where
 h:p
theorem xc0 {p:Prop} (h:p:=by(repeat' ((conv=>whnf);first|(with_reducible first|apply spl|apply spl'|refine iJ ?_)<;>intro hq9z<;>try(exfalso;omega)|refine vcq ?_|fail));(all_goals((try conv=>whnf);try exact trivial))):p:=h
theorem x1 {p q0:Prop} (k0:q0) (h:KX q0→p:=by intro k0;(repeat' ((conv=>whnf);first|(with_reducible first|apply spl|apply spl'|refine iJ ?_)<;>intro hq9z<;>try(exfalso;omega)|refine vcq ?_|fail));(all_goals((try conv=>whnf);try exact trivial));(repeat revert hq9z);exact k0.h):p:=h ⟨k0⟩
theorem x2 {p q0:Prop} (k0:q0) (h:KX q0→p:=by intro k0;(repeat' ((conv=>whnf);first|(with_reducible first|apply spl|apply spl'|refine iJ ?_)<;>intro hq9z<;>try(exfalso;omega)|refine vcq ?_|refine dr 9 ?_));(all_goals((try conv=>whnf);try exact trivial));(repeat revert hq9z);exact k0.h):p:=h ⟨k0⟩
theorem x3 {p q0 q1:Prop} (k0:q0) (k1:q1) (h:KX q0→KX q1→p:=by intro k0 k1;(repeat' ((conv=>whnf);first|(with_reducible first|apply spl|apply spl'|refine iJ ?_)<;>intro hq9z<;>try(exfalso;omega)|refine vcq ?_|fail));(all_goals((try conv=>whnf);try exact trivial));(repeat revert hq9z);exact k0.h;(repeat revert hq9z);exact k1.h):p:=h ⟨k0⟩ ⟨k1⟩
theorem xc4 {p:Prop} (h:p:=by(repeat' ((conv=>whnf);first|(with_reducible first|apply spl|apply spl'|refine iJ ?_)<;>intro hq9z<;>try(exfalso;omega)|refine vcq ?_|refine dr 9 ?_));(all_goals((try conv=>whnf);try exact trivial))):p:=h
theorem x5 {p q0:Prop} (k0:q0) (h:KX q0→p:=by intro k0;(repeat' ((conv=>whnf);first|(with_reducible first|apply spl|apply spl'|refine iJ ?_)<;>intro hq9z<;>try(exfalso;omega)|refine vcq ?_|refine dr 18 ?_));(all_goals((try conv=>whnf);try exact trivial));(repeat revert hq9z);exact k0.h):p:=h ⟨k0⟩
theorem x6 {p q0:Prop} (k0:q0) (h:KX q0→p:=by intro k0;(repeat' ((conv=>whnf);first|(with_reducible first|apply spl|apply spl'|refine iJ ?_)<;>intro hq9z<;>try(exfalso;omega)|refine vcq ?_|refine dr 2004 ?_|refine dr 10 ?_));(all_goals((try conv=>whnf);try exact trivial));(repeat revert hq9z);exact k0.h):p:=h ⟨k0⟩
theorem x7 {p q0:Prop} (k0:q0) (h:KX q0→p:=by intro k0;(repeat' ((conv=>whnf);first|(with_reducible first|apply spl|apply spl'|refine iJ ?_)<;>intro hq9z<;>try(exfalso;omega)|refine vcq ?_|refine dr 406030502042005 ?_|refine dr 9 ?_));(all_goals((try conv=>whnf);try exact trivial));(repeat revert hq9z);exact k0.h):p:=h ⟨k0⟩
theorem xc8 {p:Prop} (h:p:=by(repeat' ((conv=>whnf);first|(with_reducible first|apply spl|apply spl'|refine iJ ?_)<;>intro hq9z<;>try(exfalso;omega)|refine vcq ?_|refine dr 2021 ?_));(all_goals((try conv=>whnf);try exact trivial))):p:=h
theorem x9 {p q0:Prop} (k0:q0) (h:KX q0→p:=by intro k0;(repeat' ((conv=>whnf);first|(with_reducible first|apply spl|apply spl'|refine iJ ?_)<;>intro hq9z<;>try(exfalso;omega)|refine vcq ?_|refine dr 61105080407030502042007 ?_));(all_goals((try conv=>whnf);try exact trivial));(repeat revert hq9z);exact k0.h):p:=h ⟨k0⟩
theorem x10 {p q0:Prop} (k0:q0) (h:KX q0→p:=by intro k0;(repeat' ((conv=>whnf);first|(with_reducible first|apply spl|apply spl'|refine iJ ?_)<;>intro hq9z<;>try(exfalso;omega)|refine vcq ?_|refine dr 17 ?_));(all_goals((try conv=>whnf);try exact trivial));(repeat revert hq9z);exact k0.h):p:=h ⟨k0⟩
theorem x11 {p q0:Prop} (k0:q0) (h:KX q0→p:=by intro k0;(repeat' ((conv=>whnf);first|(with_reducible first|apply spl|apply spl'|refine iJ ?_)<;>intro hq9z<;>try(exfalso;omega)|refine vcq ?_|refine dr 2002 ?_));(all_goals((try conv=>whnf);try exact trivial));(repeat revert hq9z);exact k0.h):p:=h ⟨k0⟩
theorem x12 {p q0:Prop} (k0:q0) (h:KX q0→p:=by intro k0;(repeat' ((conv=>whnf);first|(with_reducible first|apply spl|apply spl'|refine iJ ?_)<;>intro hq9z<;>try(exfalso;omega)|refine vcq ?_|refine dr 2021 ?_));(all_goals((try conv=>whnf);try exact trivial));(repeat revert hq9z);exact k0.h):p:=h ⟨k0⟩
theorem x13 {p q0:Prop} (k0:q0) (h:KX q0→p:=by intro k0;(repeat' ((conv=>whnf);first|(with_reducible first|apply spl|apply spl'|refine iJ ?_)<;>intro hq9z<;>try(exfalso;omega)|refine vcq ?_|refine dr 305020401032004 ?_|refine dr 9 ?_|refine dr 2007 ?_));(all_goals((try conv=>whnf);try exact trivial));(repeat revert hq9z);exact k0.h):p:=h ⟨k0⟩
theorem xc14 {p:Prop} (h:p:=by(repeat' ((conv=>whnf);first|(with_reducible first|apply spl|apply spl'|refine iJ ?_)<;>intro hq9z<;>try(exfalso;omega)|refine vcq ?_|refine dr 305020401032004 ?_|refine dr 9 ?_|refine dr 2007 ?_));(all_goals((try conv=>whnf);try exact trivial))):p:=h
theorem x15 {p q0:Prop} (k0:q0) (h:KX q0→p:=by intro k0;(repeat' ((conv=>whnf);first|(with_reducible first|apply spl|apply spl'|refine iJ ?_)<;>intro hq9z<;>try(exfalso;omega)|refine vcq ?_|refine dr 4 ?_));(all_goals((try conv=>whnf);try exact trivial));(repeat revert hq9z);exact k0.h):p:=h ⟨k0⟩
theorem x16 {p q0:Prop} (k0:q0) (h:KX q0→p:=by intro k0;(repeat' ((conv=>whnf);first|(with_reducible first|apply spl|apply spl'|refine iJ ?_)<;>intro hq9z<;>try(exfalso;omega)|refine vcq ?_|refine dr 15 ?_|refine dr 2015 ?_));(all_goals((try conv=>whnf);try exact trivial));(repeat revert hq9z);exact k0.h):p:=h ⟨k0⟩
theorem xc17 {p:Prop} (h:p:=by(repeat' ((conv=>whnf);first|(with_reducible first|apply spl|apply spl'|refine iJ ?_)<;>intro hq9z<;>try(exfalso;omega)|refine vcq ?_|refine dr 18 ?_));(all_goals((try conv=>whnf);try exact trivial))):p:=h
theorem xc18 {p:Prop} (h:p:=by(repeat' ((conv=>whnf);first|(with_reducible first|apply spl|apply spl'|refine iJ ?_)<;>intro hq9z<;>try(exfalso;omega)|refine vcq ?_|refine dr 406030502042005 ?_|refine dr 9 ?_));(all_goals((try conv=>whnf);try exact trivial))):p:=h
theorem xc19 {p:Prop} (h:p:=by(repeat' ((conv=>whnf);first|(with_reducible first|apply spl|apply spl'|refine iJ ?_)<;>intro hq9z<;>try(exfalso;omega)|refine vcq ?_|refine dr 2006 ?_));(all_goals((try conv=>whnf);try exact trivial))):p:=h
theorem x20 {p q0:Prop} (k0:q0) (h:KX q0→p:=by intro k0;(repeat' ((conv=>whnf);first|(with_reducible first|apply spl|apply spl'|refine iJ ?_)<;>intro hq9z<;>try(exfalso;omega)|refine vcq ?_|refine dr 2006 ?_));(all_goals((try conv=>whnf);try exact trivial));(repeat revert hq9z);exact k0.h):p:=h ⟨k0⟩
theorem xc21 {p:Prop} (h:p:=by(repeat' ((conv=>whnf);first|(with_reducible first|apply spl|apply spl'|refine iJ ?_)<;>intro hq9z<;>try(exfalso;omega)|refine vcq ?_|refine dr 28 ?_));(all_goals((try conv=>whnf);try exact trivial))):p:=h
theorem x22 {p q0:Prop} (k0:q0) (h:KX q0→p:=by intro k0;(repeat' ((conv=>whnf);first|(with_reducible first|apply spl|apply spl'|refine iJ ?_)<;>intro hq9z<;>try(exfalso;omega)|refine vcq ?_|refine dr 4 ?_|refine dr 2007 ?_|refine dr 2012 ?_));(all_goals((try conv=>whnf);try exact trivial));(repeat revert hq9z);exact k0.h):p:=h ⟨k0⟩
theorem xc23 {p:Prop} (h:p:=by(repeat' ((conv=>whnf);first|(with_reducible first|apply spl|apply spl'|refine iJ ?_)<;>intro hq9z<;>try(exfalso;omega)|refine vcq ?_|refine dr 2005 ?_));(all_goals((try conv=>whnf);try exact trivial))):p:=h
theorem xc24 {p:Prop} (h:p:=by(repeat' ((conv=>whnf);first|(with_reducible first|apply spl|apply spl'|refine iJ ?_)<;>intro hq9z<;>try(exfalso;omega)|refine vcq ?_|refine dr 15 ?_|refine dr 2015 ?_));(all_goals((try conv=>whnf);try exact trivial))):p:=h
theorem x25 {p q0:Prop} (k0:q0) (h:KX q0→p:=by intro k0;(repeat' ((conv=>whnf);first|(with_reducible first|apply spl|apply spl'|refine iJ ?_)<;>intro hq9z<;>try(exfalso;omega)|refine vcq ?_|refine dr 2004 ?_));(all_goals((try conv=>whnf);try exact trivial));(repeat revert hq9z);exact k0.h):p:=h ⟨k0⟩
theorem x26 {p q0:Prop} (k0:q0) (h:KX q0→p:=by intro k0;(repeat' ((conv=>whnf);first|(with_reducible first|apply spl|apply spl'|refine iJ ?_)<;>intro hq9z<;>try(exfalso;omega)|refine vcq ?_|refine dr 2004 ?_|refine dr 2009 ?_));(all_goals((try conv=>whnf);try exact trivial));(repeat revert hq9z);exact k0.h):p:=h ⟨k0⟩
theorem xc27 {p:Prop} (h:p:=by(repeat' ((conv=>whnf);first|(with_reducible first|apply spl|apply spl'|refine iJ ?_)<;>intro hq9z<;>try(exfalso;omega)|refine vcq ?_|refine dr 36 ?_));(all_goals((try conv=>whnf);try exact trivial))):p:=h
theorem xc28 {p:Prop} (h:p:=by(repeat' ((conv=>whnf);first|(with_reducible first|apply spl|apply spl'|refine iJ ?_)<;>intro hq9z<;>try(exfalso;omega)|refine vcq ?_|refine dr 4 ?_|refine dr 2007 ?_|refine dr 2012 ?_));(all_goals((try conv=>whnf);try exact trivial))):p:=h
theorem x29 {p q0:Prop} (k0:q0) (h:KX q0→p:=by intro k0;(repeat' ((conv=>whnf);first|(with_reducible first|apply spl|apply spl'|refine iJ ?_)<;>intro hq9z<;>try(exfalso;omega)|refine vcq ?_|refine dr 6 ?_|refine dr 2008 ?_|refine dr 508040603052006 ?_));(all_goals((try conv=>whnf);try exact trivial));(repeat revert hq9z);exact k0.h):p:=h ⟨k0⟩
theorem x30 {p q0 q1:Prop} (k0:q0) (k1:q1) (h:KX q0→KX q1→p:=by intro k0 k1;(repeat' ((conv=>whnf);first|(with_reducible first|apply spl|apply spl'|refine iJ ?_)<;>intro hq9z<;>try(exfalso;omega)|refine vcq ?_|refine dr 9 ?_));(all_goals((try conv=>whnf);try exact trivial));(repeat revert hq9z);exact k0.h;(repeat revert hq9z);exact k1.h):p:=h ⟨k0⟩ ⟨k1⟩
theorem xc31 {p:Prop} (h:p:=by(repeat' ((conv=>whnf);first|(with_reducible first|apply spl|apply spl'|refine iJ ?_)<;>intro hq9z<;>try(exfalso;omega)|refine vcq ?_|refine dr 17 ?_));(all_goals((try conv=>whnf);try exact trivial))):p:=h
theorem xc32 {p:Prop} (h:p:=by(repeat' ((conv=>whnf);first|(with_reducible first|apply spl|apply spl'|refine iJ ?_)<;>intro hq9z<;>try(exfalso;omega)|refine vcq ?_|refine dr 2002 ?_));(all_goals((try conv=>whnf);try exact trivial))):p:=h
theorem xc33 {p:Prop} (h:p:=by(repeat' ((conv=>whnf);first|(with_reducible first|apply spl|apply spl'|refine iJ ?_)<;>intro hq9z<;>try(exfalso;omega)|refine vcq ?_|refine dr 2004 ?_|refine dr 10 ?_));(all_goals((try conv=>whnf);try exact trivial))):p:=h
theorem xc34 {p:Prop} (h:p:=by(repeat' ((conv=>whnf);first|(with_reducible first|apply spl|apply spl'|refine iJ ?_)<;>intro hq9z<;>try(exfalso;omega)|refine vcq ?_|refine dr 2004 ?_|refine dr 2009 ?_));(all_goals((try conv=>whnf);try exact trivial))):p:=h
theorem x35 {p q0:Prop} (k0:q0) (h:KX q0→p:=by intro k0;(repeat' ((conv=>whnf);first|(with_reducible first|apply spl|apply spl'|refine iJ ?_)<;>intro hq9z<;>try(exfalso;omega)|refine vcq ?_|refine dr 2005 ?_));(all_goals((try conv=>whnf);try exact trivial));(repeat revert hq9z);exact k0.h):p:=h ⟨k0⟩
theorem xc36 {p:Prop} (h:p:=by(repeat' ((conv=>whnf);first|(with_reducible first|apply spl|apply spl'|refine iJ ?_)<;>intro hq9z<;>try(exfalso;omega)|refine vcq ?_|refine dr 4 ?_));(all_goals((try conv=>whnf);try exact trivial))):p:=h
theorem xc37 {p:Prop} (h:p:=by(repeat' ((conv=>whnf);first|(with_reducible first|apply spl|apply spl'|refine iJ ?_)<;>intro hq9z<;>try(exfalso;omega)|refine vcq ?_|refine dr 6 ?_|refine dr 2008 ?_|refine dr 508040603052006 ?_));(all_goals((try conv=>whnf);try exact trivial))):p:=h
theorem xc38 {p:Prop} (h:p:=by(repeat' ((conv=>whnf);first|(with_reducible first|apply spl|apply spl'|refine iJ ?_)<;>intro hq9z<;>try(exfalso;omega)|refine vcq ?_|refine dr 61105080407030502042007 ?_));(all_goals((try conv=>whnf);try exact trivial))):p:=h
theorem xc39 {p:Prop} (h:p:=by(repeat' ((conv=>whnf);first|(with_reducible first|apply spl|apply spl'|refine iJ ?_)<;>intro hq9z<;>try(exfalso;omega)|refine vcq ?_|refine dr 2008 ?_|refine dr 11 ?_));(all_goals((try conv=>whnf);try exact trivial))):p:=h
theorem x40 {p q0:Prop} (k0:q0) (h:KX q0→p:=by intro k0;(repeat' ((conv=>whnf);first|(with_reducible first|apply spl|apply spl'|refine iJ ?_)<;>intro hq9z<;>try(exfalso;omega)|refine vcq ?_|refine dr 2008 ?_|refine dr 11 ?_));(all_goals((try conv=>whnf);try exact trivial));(repeat revert hq9z);exact k0.h):p:=h ⟨k0⟩
theorem x41 {p q0:Prop} (k0:q0) (h:KX q0→p:=by intro k0;(repeat' ((conv=>whnf);first|(with_reducible first|apply spl|apply spl'|refine iJ ?_)<;>intro hq9z<;>try(exfalso;omega)|refine vcq ?_|refine dr 28 ?_));(all_goals((try conv=>whnf);try exact trivial));(repeat revert hq9z);exact k0.h):p:=h ⟨k0⟩
theorem xc42 {p:Prop} (h:p:=by(repeat' ((conv=>whnf);first|(with_reducible first|apply spl|apply spl'|refine iJ ?_)<;>intro hq9z<;>try(exfalso;omega)|refine vcq ?_|refine dr 11 ?_|refine dr 8 ?_));(all_goals((try conv=>whnf);try exact trivial))):p:=h
theorem x43 {p q0:Prop} (k0:q0) (h:KX q0→p:=by intro k0;(repeat' ((conv=>whnf);first|(with_reducible first|apply spl|apply spl'|refine iJ ?_)<;>intro hq9z<;>try(exfalso;omega)|refine vcq ?_|refine dr 11 ?_|refine dr 8 ?_));(all_goals((try conv=>whnf);try exact trivial));(repeat revert hq9z);exact k0.h):p:=h ⟨k0⟩
theorem x44 {p q0:Prop} (k0:q0) (h:KX q0→p:=by intro k0;(repeat' ((conv=>whnf);first|(with_reducible first|apply spl|apply spl'|refine iJ ?_)<;>intro hq9z<;>try(exfalso;omega)|refine vcq ?_|refine dr 15 ?_));(all_goals((try conv=>whnf);try exact trivial));(repeat revert hq9z);exact k0.h):p:=h ⟨k0⟩
theorem xc45 {p:Prop} (h:p:=by(repeat' ((conv=>whnf);first|(with_reducible first|apply spl|apply spl'|refine iJ ?_)<;>intro hq9z<;>try(exfalso;omega)|refine vcq ?_|refine dr 2004 ?_));(all_goals((try conv=>whnf);try exact trivial))):p:=h
theorem x46 {p q0:Prop} (k0:q0) (h:KX q0→p:=by intro k0;(repeat' ((conv=>whnf);first|(with_reducible first|apply spl|apply spl'|refine iJ ?_)<;>intro hq9z<;>try(exfalso;omega)|refine vcq ?_|refine dr 2007 ?_));(all_goals((try conv=>whnf);try exact trivial));(repeat revert hq9z);exact k0.h):p:=h ⟨k0⟩
theorem x47 {p q0 q1:Prop} (k0:q0) (k1:q1) (h:KX q0→KX q1→p:=by intro k0 k1;(repeat' ((conv=>whnf);first|(with_reducible first|apply spl|apply spl'|refine iJ ?_)<;>intro hq9z<;>try(exfalso;omega)|refine vcq ?_|refine dr 28 ?_));(all_goals((try conv=>whnf);try exact trivial));(repeat revert hq9z);exact k0.h;(repeat revert hq9z);exact k1.h):p:=h ⟨k0⟩ ⟨k1⟩
theorem x48 {p q0:Prop} (k0:q0) (h:KX q0→p:=by intro k0;(repeat' ((conv=>whnf);first|(with_reducible first|apply spl|apply spl'|refine iJ ?_)<;>intro hq9z<;>try(exfalso;omega)|refine vcq ?_|refine dr 2009 ?_));(all_goals((try conv=>whnf);try exact trivial));(repeat revert hq9z);exact k0.h):p:=h ⟨k0⟩
theorem x49 {p q0:Prop} (k0:q0) (h:KX q0→p:=by intro k0;(repeat' ((conv=>whnf);first|(with_reducible first|apply spl|apply spl'|refine iJ ?_)<;>intro hq9z<;>try(exfalso;omega)|refine vcq ?_|refine dr 6 ?_));(all_goals((try conv=>whnf);try exact trivial));(repeat revert hq9z);exact k0.h):p:=h ⟨k0⟩
theorem xc50 {p:Prop} (h:p:=by(repeat' ((conv=>whnf);first|(with_reducible first|apply spl|apply spl'|refine iJ ?_)<;>intro hq9z<;>try(exfalso;omega)|refine vcq ?_|refine dr 9 ?_|refine dr 11 ?_));(all_goals((try conv=>whnf);try exact trivial))):p:=h
theorem x51 {p q0:Prop} (k0:q0) (h:KX q0→p:=by intro k0;(repeat' ((conv=>whnf);first|(with_reducible first|apply spl|apply spl'|refine iJ ?_)<;>intro hq9z<;>try(exfalso;omega)|refine vcq ?_|refine dr 9 ?_|refine dr 23 ?_|refine dr 25 ?_));(all_goals((try conv=>whnf);try exact trivial));(repeat revert hq9z);exact k0.h):p:=h ⟨k0⟩
theorem x52 {p q0 q1 q2:Prop} (k0:q0) (k1:q1) (k2:q2) (h:KX q0→KX q1→KX q2→p:=by intro k0 k1 k2;(repeat' ((conv=>whnf);first|(with_reducible first|apply spl|apply spl'|refine iJ ?_)<;>intro hq9z<;>try(exfalso;omega)|refine vcq ?_|fail));(all_goals((try conv=>whnf);try exact trivial));(repeat revert hq9z);exact k0.h;(repeat revert hq9z);exact k1.h;(repeat revert hq9z);exact k2.h):p:=h ⟨k0⟩ ⟨k1⟩ ⟨k2⟩
theorem xc53 {p:Prop} (h:p:=by(repeat' ((conv=>whnf);first|(with_reducible first|apply spl|apply spl'|refine iJ ?_)<;>intro hq9z<;>try(exfalso;omega)|refine vcq ?_|refine dr 18 ?_|refine dr 10 ?_));(all_goals((try conv=>whnf);try exact trivial))):p:=h
theorem x54 {p q0 q1:Prop} (k0:q0) (k1:q1) (h:KX q0→KX q1→p:=by intro k0 k1;(repeat' ((conv=>whnf);first|(with_reducible first|apply spl|apply spl'|refine iJ ?_)<;>intro hq9z<;>try(exfalso;omega)|refine vcq ?_|refine dr 2004 ?_|refine dr 10 ?_));(all_goals((try conv=>whnf);try exact trivial));(repeat revert hq9z);exact k0.h;(repeat revert hq9z);exact k1.h):p:=h ⟨k0⟩ ⟨k1⟩
theorem x55 {p q0 q1:Prop} (k0:q0) (k1:q1) (h:KX q0→KX q1→p:=by intro k0 k1;(repeat' ((conv=>whnf);first|(with_reducible first|apply spl|apply spl'|refine iJ ?_)<;>intro hq9z<;>try(exfalso;omega)|refine vcq ?_|refine dr 2005 ?_));(all_goals((try conv=>whnf);try exact trivial));(repeat revert hq9z);exact k0.h;(repeat revert hq9z);exact k1.h):p:=h ⟨k0⟩ ⟨k1⟩
theorem xc56 {p:Prop} (h:p:=by(repeat' ((conv=>whnf);first|(with_reducible first|apply spl|apply spl'|refine iJ ?_)<;>intro hq9z<;>try(exfalso;omega)|refine vcq ?_|refine dr 6 ?_));(all_goals((try conv=>whnf);try exact trivial))):p:=h
theorem x57 {p q0 q1 q2:Prop} (k0:q0) (k1:q1) (k2:q2) (h:KX q0→KX q1→KX q2→p:=by intro k0 k1 k2;(repeat' ((conv=>whnf);first|(with_reducible first|apply spl|apply spl'|refine iJ ?_)<;>intro hq9z<;>try(exfalso;omega)|refine vcq ?_|refine dr 9 ?_));(all_goals((try conv=>whnf);try exact trivial));(repeat revert hq9z);exact k0.h;(repeat revert hq9z);exact k1.h;(repeat revert hq9z);exact k2.h):p:=h ⟨k0⟩ ⟨k1⟩ ⟨k2⟩
theorem xc58 {p:Prop} (h:p:=by(repeat' ((conv=>whnf);first|(with_reducible first|apply spl|apply spl'|refine iJ ?_)<;>intro hq9z<;>try(exfalso;omega)|refine vcq ?_|refine dr 12142013 ?_|refine dr 12 ?_));(all_goals((try conv=>whnf);try exact trivial))):p:=h
theorem x59 {p q0:Prop} (k0:q0) (h:KX q0→p:=by intro k0;(repeat' ((conv=>whnf);first|(with_reducible first|apply spl|apply spl'|refine iJ ?_)<;>intro hq9z<;>try(exfalso;omega)|refine vcq ?_|refine dr 12142013 ?_|refine dr 12 ?_));(all_goals((try conv=>whnf);try exact trivial));(repeat revert hq9z);exact k0.h):p:=h ⟨k0⟩
theorem xc60 {p:Prop} (h:p:=by(repeat' ((conv=>whnf);first|(with_reducible first|apply spl|apply spl'|refine iJ ?_)<;>intro hq9z<;>try(exfalso;omega)|refine vcq ?_|refine dr 15 ?_));(all_goals((try conv=>whnf);try exact trivial))):p:=h
theorem x61 {p q0 q1:Prop} (k0:q0) (k1:q1) (h:KX q0→KX q1→p:=by intro k0 k1;(repeat' ((conv=>whnf);first|(with_reducible first|apply spl|apply spl'|refine iJ ?_)<;>intro hq9z<;>try(exfalso;omega)|refine vcq ?_|refine dr 2021 ?_));(all_goals((try conv=>whnf);try exact trivial));(repeat revert hq9z);exact k0.h;(repeat revert hq9z);exact k1.h):p:=h ⟨k0⟩ ⟨k1⟩
theorem x62 {p q0:Prop} (k0:q0) (h:KX q0→p:=by intro k0;(repeat' ((conv=>whnf);first|(with_reducible first|apply spl|apply spl'|refine iJ ?_)<;>intro hq9z<;>try(exfalso;omega)|refine vcq ?_|refine dr 25 ?_));(all_goals((try conv=>whnf);try exact trivial));(repeat revert hq9z);exact k0.h):p:=h ⟨k0⟩
theorem x63 {p q0 q1:Prop} (k0:q0) (k1:q1) (h:KX q0→KX q1→p:=by intro k0 k1;(repeat' ((conv=>whnf);first|(with_reducible first|apply spl|apply spl'|refine iJ ?_)<;>intro hq9z<;>try(exfalso;omega)|refine vcq ?_|refine dr 4 ?_));(all_goals((try conv=>whnf);try exact trivial));(repeat revert hq9z);exact k0.h;(repeat revert hq9z);exact k1.h):p:=h ⟨k0⟩ ⟨k1⟩
theorem x64 {p q0 q1:Prop} (k0:q0) (k1:q1) (h:KX q0→KX q1→p:=by intro k0 k1;(repeat' ((conv=>whnf);first|(with_reducible first|apply spl|apply spl'|refine iJ ?_)<;>intro hq9z<;>try(exfalso;omega)|refine vcq ?_|refine dr 4 ?_|refine dr 2007 ?_|refine dr 2012 ?_));(all_goals((try conv=>whnf);try exact trivial));(repeat revert hq9z);exact k0.h;(repeat revert hq9z);exact k1.h):p:=h ⟨k0⟩ ⟨k1⟩
theorem xc65 {p:Prop} (h:p:=by(repeat' ((conv=>whnf);first|(with_reducible first|apply spl|apply spl'|refine iJ ?_)<;>intro hq9z<;>try(exfalso;omega)|refine vcq ?_|refine dr 8 ?_|refine dr 16 ?_));(all_goals((try conv=>whnf);try exact trivial))):p:=h
theorem x66 {p q0:Prop} (k0:q0) (h:KX q0→p:=by intro k0;(repeat' ((conv=>whnf);first|(with_reducible first|apply spl|apply spl'|refine iJ ?_)<;>intro hq9z<;>try(exfalso;omega)|refine vcq ?_|refine dr 8 ?_|refine dr 16 ?_));(all_goals((try conv=>whnf);try exact trivial));(repeat revert hq9z);exact k0.h):p:=h ⟨k0⟩
theorem xc67 {p:Prop} (h:p:=by(repeat' ((conv=>whnf);first|(with_reducible first|apply spl|apply spl'|refine iJ ?_)<;>intro hq9z<;>try(exfalso;omega)|refine vcq ?_|refine dr 9 ?_|refine dr 23 ?_|refine dr 25 ?_));(all_goals((try conv=>whnf);try exact trivial))):p:=h
theorem x68 {p q0:Prop} (k0:q0) (h:KX q0→p:=by intro k0;(repeat' ((conv=>whnf);first|(with_reducible first|apply spl|apply spl'|refine iJ ?_)<;>intro hq9z<;>try(exfalso;omega)|refine vcq ?_|refine dr 9 ?_|refine dr 406030502042005 ?_));(all_goals((try conv=>whnf);try exact trivial));(repeat revert hq9z);exact k0.h):p:=h ⟨k0⟩
theorem xc69 {p:Prop} (h:p:=by(repeat' ((conv=>whnf);first|(with_reducible first|apply spl|apply spl'|refine iJ ?_)<;>intro hq9z<;>try(exfalso;omega)|refine vcq ?_|refine dr 13 ?_));(all_goals((try conv=>whnf);try exact trivial))):p:=h
theorem x70 {p q0:Prop} (k0:q0) (h:KX q0→p:=by intro k0;(repeat' ((conv=>whnf);first|(with_reducible first|apply spl|apply spl'|refine iJ ?_)<;>intro hq9z<;>try(exfalso;omega)|refine vcq ?_|refine dr 13 ?_));(all_goals((try conv=>whnf);try exact trivial));(repeat revert hq9z);exact k0.h):p:=h ⟨k0⟩
theorem x71 {p q0 q1:Prop} (k0:q0) (k1:q1) (h:KX q0→KX q1→p:=by intro k0 k1;(repeat' ((conv=>whnf);first|(with_reducible first|apply spl|apply spl'|refine iJ ?_)<;>intro hq9z<;>try(exfalso;omega)|refine vcq ?_|refine dr 17 ?_));(all_goals((try conv=>whnf);try exact trivial));(repeat revert hq9z);exact k0.h;(repeat revert hq9z);exact k1.h):p:=h ⟨k0⟩ ⟨k1⟩
theorem x72 {p q0:Prop} (k0:q0) (h:KX q0→p:=by intro k0;(repeat' ((conv=>whnf);first|(with_reducible first|apply spl|apply spl'|refine iJ ?_)<;>intro hq9z<;>try(exfalso;omega)|refine vcq ?_|refine dr 18 ?_|refine dr 10 ?_));(all_goals((try conv=>whnf);try exact trivial));(repeat revert hq9z);exact k0.h):p:=h ⟨k0⟩
theorem x73 {p q0 q1:Prop} (k0:q0) (k1:q1) (h:KX q0→KX q1→p:=by intro k0 k1;(repeat' ((conv=>whnf);first|(with_reducible first|apply spl|apply spl'|refine iJ ?_)<;>intro hq9z<;>try(exfalso;omega)|refine vcq ?_|refine dr 2004 ?_));(all_goals((try conv=>whnf);try exact trivial));(repeat revert hq9z);exact k0.h;(repeat revert hq9z);exact k1.h):p:=h ⟨k0⟩ ⟨k1⟩
theorem xc74 {p:Prop} (h:p:=by(repeat' ((conv=>whnf);first|(with_reducible first|apply spl|apply spl'|refine iJ ?_)<;>intro hq9z<;>try(exfalso;omega)|refine vcq ?_|refine dr 2007 ?_));(all_goals((try conv=>whnf);try exact trivial))):p:=h
theorem x75 {p q0:Prop} (k0:q0) (h:KX q0→p:=by intro k0;(repeat' ((conv=>whnf);first|(with_reducible first|apply spl|apply spl'|refine iJ ?_)<;>intro hq9z<;>try(exfalso;omega)|refine vcq ?_|refine dr 2012 ?_|refine dr 2007 ?_));(all_goals((try conv=>whnf);try exact trivial));(repeat revert hq9z);exact k0.h):p:=h ⟨k0⟩
theorem x76 {p q0:Prop} (k0:q0) (h:KX q0→p:=by intro k0;(repeat' ((conv=>whnf);first|(with_reducible first|apply spl|apply spl'|refine iJ ?_)<;>intro hq9z<;>try(exfalso;omega)|refine vcq ?_|refine dr 2015 ?_|refine dr 15 ?_));(all_goals((try conv=>whnf);try exact trivial));(repeat revert hq9z);exact k0.h):p:=h ⟨k0⟩
theorem x77 {p q0 q1:Prop} (k0:q0) (k1:q1) (h:KX q0→KX q1→p:=by intro k0 k1;(repeat' ((conv=>whnf);first|(with_reducible first|apply spl|apply spl'|refine iJ ?_)<;>intro hq9z<;>try(exfalso;omega)|refine vcq ?_|refine dr 36 ?_));(all_goals((try conv=>whnf);try exact trivial));(repeat revert hq9z);exact k0.h;(repeat revert hq9z);exact k1.h):p:=h ⟨k0⟩ ⟨k1⟩
theorem x78 {p q0 q1:Prop} (k0:q0) (k1:q1) (h:KX q0→KX q1→p:=by intro k0 k1;(repeat' ((conv=>whnf);first|(with_reducible first|apply spl|apply spl'|refine iJ ?_)<;>intro hq9z<;>try(exfalso;omega)|refine vcq ?_|refine dr 406030502042005 ?_|refine dr 9 ?_));(all_goals((try conv=>whnf);try exact trivial));(repeat revert hq9z);exact k0.h;(repeat revert hq9z);exact k1.h):p:=h ⟨k0⟩ ⟨k1⟩
theorem x79 {p q0:Prop} (k0:q0) (h:KX q0→p:=by intro k0;(repeat' ((conv=>whnf);first|(with_reducible first|apply spl|apply spl'|refine iJ ?_)<;>intro hq9z<;>try(exfalso;omega)|refine vcq ?_|refine dr 8 ?_));(all_goals((try conv=>whnf);try exact trivial));(repeat revert hq9z);exact k0.h):p:=h ⟨k0⟩
end Go.Sx
namespace Go.Sx
open Go
variable {P:Program} {E:Env}
def sg:List Nat→Nat→Nat→Nat
 |[],n,j=>n+j
 |id :: _,_,0=>id
 |_ :: ρ,n,j+1=>sg ρ n j
def X.rn (σ:Nat→Nat):X→X
 |.emp=>.emp
 |.stamp g k=>.stamp g k
 |.awin id off sz m c=>.awin (σ id) off sz m c
 |.twin id m=>.twin (σ id) m
mutual
def rnV (σ:Nat→Nat):V→V
 |.int k x=>.int k x
 |.prop p d=>.prop p d
 |.kb b=>.kb b
 |.ptr id off=>.ptr (σ id) off
 |.eptr id sz i off=>.eptr (σ id) sz i off
 |.iptr cs=>.iptr cs
 |.sl sz m f=>.sl sz m f
 |.osl id m=>.osl (σ id) m
 |.map id=>.map (σ id)
 |.fn f a b=>.fn f (rnL σ a) (rnL σ b)
 |.agg cs=>.agg (rnL σ cs)
 |.tup cs=>.tup (rnL σ cs)
 |.lit v=>.lit v
 |.ite p v=>.ite p (rnV σ v)
 |.sem D=>.sem D
 |.imap ks ka va dom val m=>.imap ks ka va dom val m
 |.yld id=>.yld (σ id)
 |.win id sz off n=>.win (σ id) sz off n
 |.gsl id i n e=>.gsl (σ id) i n e
 |.gptr id i j off sz e=>.gptr (σ id) i j off sz e
 |.x e=>.x (e.rn σ)
 |.any=>.any
def rnL (σ:Nat→Nat):List V→List V
 |[]=>[]
 |v :: l=>rnV σ v :: rnL σ l
end
def rnO (σ:Nat→Nat):O→O
 |.cells ty vs=>.cells ty (rnL σ vs)
 |.row ty sz m f nz=>.row ty sz m f nz
 |.map ks ka va dom val m g=>.map ks ka va dom val m g
 |.iter mid g dom done=>.iter (σ mid) g dom done
 |.loop T ps a b st=>.loop (rnL σ T) ps a b st
 |.gone=>.gone
 |.mapx ks ka va dom val=>.mapx ks ka va dom val
 |.grid ty ety esz n m f β hole nz=>.grid ty ety esz n m f β hole nz
def rnH (σ:Nat→Nat):List O→List O
 |[]=>[]
 |o :: l=>rnO σ o :: rnH σ l
theorem rnH_eq (σ:Nat→Nat):∀l,rnH σ l=l.map (rnO σ)
 |[]=>rfl
 |o :: l=>by simp[rnH,rnH_eq σ l]
section
variable {I:Nat→Prop} {w:World} {η η':Eta} {σ:Nat→Nat}
mutual
theorem Den.ren (hη:∀(j:Nat) (e:Option Nat×Nat),η'[j]? = some e→η[σ j]? = some e):∀(c:V) (v:Value),Den I η' w c v→Den I η w (rnV σ c) v
 |.int _ _,_,h=>h
 |.prop _ _,_,h=>h
 |.kb _,_,h=>h
 |.ptr _ _,_,h=>by obtain⟨b,c,h1,h2⟩:=h;exact⟨b,c,hη _ _ h1,h2⟩
 |.eptr _ _ _ _,_,h=>by obtain⟨b,c,h1,h2⟩:=h;exact⟨b,c,hη _ _ h1,h2⟩
 |.iptr _,_,h=>h
 |.sl _ _ _,_,h=>h
 |.osl _ _,_,h=>by obtain⟨e,h1,h2⟩:=h;exact⟨e,hη _ _ h1,h2⟩
 |.map _,_,h=>by obtain⟨b,c,h1,h2⟩:=h;exact⟨b,c,hη _ _ h1,h2⟩
 |.fn _ a b,_,h=>by obtain⟨as,bs,h1,h2,h3⟩:=h;exact⟨as,bs,h1,DenL.ren hη a as h2,DenL.ren hη b bs h3⟩
 |.agg cs,_,h=>by obtain⟨vs,h1,h2,h3⟩:=h;exact⟨vs,h1,h2,DenL.ren hη cs vs h3⟩
 |.tup cs,_,h=>by obtain⟨vs,h1,h2⟩:=h;exact⟨vs,h1,DenL.ren hη cs vs h2⟩
 |.lit _,_,h=>h
 |.ite _ u,v,h=>⟨fun hp=>Den.ren hη u v (h.1 hp),h.2⟩
 |.sem _,_,h=>h
 |.imap _ _ _ _ _ _,_,h=>h
 |.yld _,_,h=>by obtain⟨b,c,h1,h2⟩:=h;exact⟨b,c,hη _ _ h1,h2⟩
 |.win _ _ _ _,_,h=>by
  refine⟨fun h0=>?_,?_⟩
  ·obtain⟨e,h1,h2⟩:=h.1 h0;exact⟨e,hη _ _ h1,h2⟩
  ·rcases h.2 with h|⟨b,c,cap,h1,h2⟩
   ·exact .inl h
   ·exact .inr ⟨b,c,cap,hη _ _ h1,h2⟩
 |.gsl _ _ _ _,_,h=>by obtain⟨⟨e0,h1,h2⟩,h3⟩:=h;exact⟨⟨e0,hη _ _ h1,h2⟩,h3⟩
 |.gptr _ _ _ _ _ _,_,h=>by obtain⟨⟨e0,h1,h2⟩,h3⟩:=h;exact⟨⟨e0,hη _ _ h1,h2⟩,h3⟩
 |.x e,_,h=>by cases e with
  |emp=>exact h
  |stamp=>exact h
  |awin=>obtain⟨b,c,h1,h2⟩:=h;exact⟨b,c,hη _ _ h1,h2⟩
  |twin=>obtain⟨e,⟨h1,h3⟩,h2⟩:=h;exact⟨e,⟨hη _ _ h1,h3⟩,h2⟩
 |.any,_,_=>trivial
theorem DenL.ren (hη:∀(j:Nat) (e:Option Nat×Nat),η'[j]? = some e→η[σ j]? = some e):∀(cs:List V) (vs:List Value),DenL I η' w cs vs→DenL I η w (rnL σ cs) vs
 |[],_,h=>h
 |c :: cs,_,h=>by
  obtain⟨v,r,h1,h2,h3⟩:=h
  exact⟨v,r,h1,Den.ren hη c v h2,DenL.ren hη cs r h3⟩
end
theorem SatO.ren (hη:∀(j:Nat) (e:Option Nat×Nat),η'[j]? = some e→η[σ j]? = some e) {e:Option Nat×Nat}:∀{o:O},SatO I η' w e o→SatO I η w e (rnO σ o)
 |.cells ty vs,h=>by obtain⟨b,c,h1,xs,h2,h3,h4⟩:=h;exact⟨b,c,h1,xs,h2,h3,DenL.ren hη _ _ h4⟩
 |.row _ _ _ _ _,h=>h
 |.map _ _ _ _ _ _ _,h=>h
 |.iter mid g dom done,h=>by
  obtain⟨b,c,mb,c',h1,h2,h3⟩:=h
  exact⟨b,c,mb,c',h1,hη _ _ h2,h3⟩
 |.loop T ps a b st,h=>by obtain⟨b,c,fn,tmps,D,h1,h2,h3⟩:=h;exact⟨b,c,fn,tmps,D,h1,h2,DenL.ren hη _ _ h3⟩
 |.gone,h=>h
 |.mapx _ _ _ _ _,h=>h
 |.grid _ _ _ _ _ _ _ _ _,h=>h
theorem rnO_has {o:O} {e:Option Nat×Nat} {b:Nat}:(rnO σ o).has e b↔o.has e b:=by cases o<;>exact a2W
end
def upd {α:Type}:List Nat→List α→List α→List α
 |[],l,l'=>l++l'
 |id :: ρ,l,x :: l'=>upd ρ (l.set id x) l'
 |_ :: _,l,[]=>l
theorem upd_other {α:Type}:∀(ρ:List Nat) (l l':List α) (i:Nat),i<l.length→i∉ρ→(upd ρ l l')[i]? = l[i]?
 |[],l,l',i,hi,_=>by simp[upd,a0F hi]
 |id :: ρ,l,[],i,_,_=>rfl
 |id :: ρ,l,x :: l',i,hi,hn=>by
  simp only[a0Z,not_or] at hn
  rw[upd,upd_other ρ _ l' i (by simpa using hi) hn.2,List.getElem?_set,if_neg (fun e=>hn.1 e.symm)]
theorem upd_len {α:Type}:∀(ρ:List Nat) (l l':List α),ρ.length≤l'.length→(upd ρ l l').length=l.length+(l'.length-ρ.length)
 |[],l,l',_=>by simp[upd]
 |id :: ρ,l,[],h=>by simp at h
 |id :: ρ,l,x :: l',h=>by
  simp only[a2R] at h
  rw[upd,upd_len ρ _ l' (by omega)]
  simp
theorem upd_at {α:Type}:∀(ρ:List Nat) (l l':List α),ρ.Nodup→(∀id∈ρ,id<l.length)→ρ.length≤l'.length→∀(j:Nat) (x:α),l'[j]? = some x→(upd ρ l l')[sg ρ l.length j]? = some x
 |[],l,l',_,_,_,j,x,h=>by
  simp only[upd,sg]
  rw[a0S (by omega)]
  simpa using h
 |id :: ρ,l,[],_,_,hl,j,x,h=>by simp at h
 |id :: ρ,l,y :: l',hn,hlt,hl,j,x,h=>by
  have hn:=List.nodup_cons.1 hn
  cases j with
  |zero=>
   simp at h
   subst h
   simp only[upd,sg]
   rw[upd_other ρ _ l' id (by simpa using hlt id (by simp)) hn.1]
   simp[hlt id (by simp)]
  |succ j=>
   simp only[upd,sg]
   have:=upd_at ρ (l.set id y) l' hn.2 (fun i hi=>by simpa using hlt i (by simp[hi])) (by simpa using hl) j x (by simpa using h)
   simpa using this
theorem sg_back:∀(ρ:List Nat) (n i:Nat),(i∈ρ∨n≤i)→∃j,sg ρ n j=i
 |[],n,i,h=>⟨i-n,by simp only[sg];rcases h with h|h;simp at h;omega⟩
 |id :: ρ,n,i,h=>by
  by_cases hi:i=id
  ·exact⟨0,hi.symm⟩
  ·obtain⟨j,hj⟩:=sg_back ρ n i (h.imp_left (fun h=>by simpa [hi] using h))
   exact⟨j+1,hj⟩
theorem sg_mem:∀(ρ:List Nat) (n j:Nat),(sg ρ n j∈ρ∧ρ[j]? = some (sg ρ n j))∨(n≤sg ρ n j∧ρ.length≤j)
 |[],n,j=>.inr ⟨by simp[sg],by simp⟩
 |id :: ρ,n,0=>.inl ⟨by simp[sg],by simp[sg]⟩
 |id :: ρ,n,j+1=>by
  rcases sg_mem ρ n j with h|h
  ·exact .inl ⟨by simp only[sg];exact List.mem_cons_of_mem _ h.1,by simpa [sg] using h.2⟩
  ·exact .inr ⟨by simpa [sg] using h.1,by simp;exact h.2⟩
theorem upd_back {α:Type} {ρ:List Nat} {l l':List α} (hn:ρ.Nodup) (hlt:∀id∈ρ,id<l.length) (hl:ρ.length≤l'.length) {i:Nat} {x:α} (h:(upd ρ l l')[i]? = some x) :
  (i∉ρ∧i<l.length∧l[i]? = some x)∨∃j,sg ρ l.length j=i∧l'[j]? = some x:=by
 by_cases hi:i∈ρ∨l.length≤i
 ·right
  obtain⟨j,hj⟩:=sg_back ρ l.length i hi
  refine⟨j,hj,?_⟩
  cases hx:l'[j]? with
  |some y=>
   have:=upd_at ρ l l' hn hlt hl j y hx
   rw[hj,h] at this
   exact this.symm
  |none=>
   have hjl:l'.length≤j:=by simpa using hx
   have hlen:=(a0B.1 h).1
   rw[upd_len ρ l l' hl] at hlen
   have key:∀(ρ:List Nat) (n j:Nat),ρ.length≤j→sg ρ n j=n+(j-ρ.length):=by
    intro ρ
    induction ρ with
    |nil=>intro n j _;simp[sg]
    |cons a ρ ih=>
     intro n j hj
     cases j with
     |zero=>simp at hj
     |succ j=>simp only[sg,List.length_cons];rw[ih n j (by simpa using hj)];omega
   rw[key ρ _ j (by omega)] at hj
   omega
 ·left
  simp only[not_or,Nat.not_le] at hi
  rw[upd_other ρ l l' i hi.2 hi.1] at h
  exact⟨hi.1,hi.2,h⟩
theorem Sat.frame {I I':Nat→Prop} {η η0 η':Eta} {w w':World} {H H0 H':List O} {ρ:List Nat} (h:Sat I η w H) (hn:ρ.Nodup) (hlt:∀id∈ρ,id<H.length) (hl0:ρ.length=H0.length)
  (hη0:∀(j id:Nat),ρ[j]? = some id→η0[j]? = η[id]?) (hlive:∀(j id b:Nat) (e:Option Nat×Nat) (o:O),ρ[j]? = some id→H0[j]? = some o→η[id]? = some e→o.has e b→∃o',H[id]? = some o'∧o'.has e b) (hlη0:η0.length=H0.length)
  (h':Sat I' η' w' H') (hlen:ρ.length≤H'.length) (hst:Step I (own η0 H0) w I' (own η' H') w') :
  (∀(j:Nat) (e:Option Nat×Nat),η'[j]? = some e→(upd ρ η η')[sg ρ H.length j]? = some e)∧
  Sat I' (upd ρ η η') w' (upd ρ H (rnH (sg ρ H.length) H'))∧Mono I η w I' (upd ρ η η') w'∧Step I (own η H) w I' (own (upd ρ η η') (upd ρ H (rnH (sg ρ H.length) H'))) w':=by
 have hltη:∀id∈ρ,id<η.length:=fun id hid=>by rw[h.len];exact hlt id hid
 have hlenη:ρ.length≤η'.length:=by rw[h'.len];exact hlen
 have hlenR:ρ.length≤(rnH (sg ρ H.length) H').length:=by rw[rnH_eq];simpa using hlen
 have hat:∀(j:Nat) (e:Option Nat×Nat),η'[j]? = some e→(upd ρ η η')[sg ρ H.length j]? = some e:=fun j e he=>by
  have:=upd_at ρ η η' hn hltη hlenη j e he
  rwa [h.len] at this
 have own0:∀b,own η0 H0 b→∃id c o,id∈ρ∧η[id]? = some c∧H[id]? = some o∧o.has c b:=by
  rintro b ⟨j,c,o,h1,h2,h3⟩
  have hj:j<ρ.length:=by rw[hl0];exact(a0B.1 h2).1
  have hid:ρ[j]? = some ρ[j]:=by simp[hj]
  rw[hη0 j ρ[j] hid] at h1
  obtain⟨o',g1,g2⟩:=hlive j ρ[j] b c o hid h2 h1 h3
  exact⟨ρ[j],c,o',a0N hj,h1,g1,g2⟩
 have own0':∀b,own η0 H0 b→own η H b:=fun b hb=>by
  obtain⟨id,c,o,_,h1,h2,h3⟩:=own0 b hb
  exact⟨id,c,o,h1,h2,h3⟩
 have fr0:∀(id b:Nat) (c:Option Nat×Nat) (o:O),id∉ρ→η[id]? = some c→H[id]? = some o→o.has c b→¬own η0 H0 b:=by
  intro id b c o hid h1 h2 h3 hb
  obtain⟨id',c',o',g0,g1,g2,g3⟩:=own0 b hb
  exact hid (h.apart id id' b c c' o o' h1 g1 h2 g2 h3 g3▸g0)
 have fr1:∀(id b:Nat) (c:Option Nat×Nat) (o:O),id∉ρ→η[id]? = some c→H[id]? = some o→o.has c b→¬own η' H' b:=by
  intro id b c o hid h1 h2 h3 hb
  rcases hst.wnew b hb with g|g
  ·exact fr0 id b c o hid h1 h2 h3 g
  ·have:=h.lt b ⟨id,c,o,h1,h2,h3⟩;omega
 have m:Mono I η w I' (upd ρ η η') w':=by
  refine⟨fun id e he hne=>?_,hst.imono,fun b hb=>hst.block b (h.ilt b hb) (fun ho=>h.notI b (own0' b ho) hb)⟩
  by_cases hid:id∈ρ
  ·obtain⟨j,hj,hje⟩:=a1A hid
   have hid':ρ[j]? = some id:=by simp[hj,hje]
   have h0:η0[j]? = some e:=by rw[hη0 j id hid'];exact he
   have h1:=hst.eta j e h0 hne
   have h2:=hat j e h1
   rcases sg_mem ρ H.length j with g|g
   ·rw[hid'] at g
    cases g.2
    simpa using h2
   ·omega
  ·rw[upd_other ρ η η' id (a0B.1 he).1 hid]
   exact he
 have cs:∀(i:Nat) (e:Option Nat×Nat) (o:O),(upd ρ η η')[i]? = some e→(upd ρ H (rnH (sg ρ H.length) H'))[i]? = some o→
   (i∉ρ∧η[i]? = some e∧H[i]? = some o)∨∃j o',sg ρ H.length j=i∧o=rnO (sg ρ H.length) o'∧η'[j]? = some e∧H'[j]? = some o':=by
  intro i e o he ho
  rcases upd_back hn hlt hlenR ho with⟨g1,g2,g3⟩|⟨j,g1,g2⟩
  ·left
   rw[upd_other ρ η η' i (by rw[h.len];exact g2) g1] at he
   exact⟨g1,he,g3⟩
  ·right
   rw[rnH_eq,a1O,Option.map_eq_some_iff] at g2
   obtain⟨o',g2,rfl⟩:=g2
   have hj:j<η'.length:=by rw[h'.len];exact(a0B.1 g2).1
   have:=hat j η'[j] (by simp[hj])
   rw[g1,he] at this
   cases this
   exact⟨j,o',g1,rfl,by simp[hj],g2⟩
 have oc:∀b,own (upd ρ η η') (upd ρ H (rnH (sg ρ H.length) H')) b→(∃id c o,id∉ρ∧η[id]? = some c∧H[id]? = some o∧o.has c b)∨own η' H' b:=by
  rintro b ⟨i,c,o,h1,h2,h3⟩
  rcases cs i _ o h1 h2 with⟨g0,g1,g2⟩|⟨j,o',_,rfl,g1,g2⟩
  ·exact .inl ⟨i,c,o,g0,g1,g2,h3⟩
  ·exact .inr ⟨j,c,o',g1,g2,rnO_has.1 h3⟩
 refine⟨hat,⟨?_,?_,?_,?_,?_,h'.ilt⟩,m,⟨hst.os,hst.tape,hst.output,hst.size,fun b hb hw=>hst.block b hb (fun ho=>hw (own0' b ho)),hst.imono,?_,?_,m.eta⟩⟩
 ·rw[upd_len ρ η η' hlenη,upd_len ρ H _ hlenR,h.len,h'.len,rnH_eq]
  simp
 ·intro i e o he ho
  rcases cs i e o he ho with⟨g0,g1,g2⟩|⟨j,o',_,rfl,g1,g2⟩
  ·refine(h.obj i e o g1 g2).mono m ?_
   intro b hb
   exact hst.block b (h.lt b ⟨i,_,o,g1,g2,hb⟩) (fr0 i b _ o g0 g1 g2 hb)
  ·exact SatO.ren hat (h'.obj j e o' g1 g2)
 ·intro i i' b c c' o o' h1 h2 h3 h4 l1 l2
  rcases cs i _ o h1 h3 with⟨g0,g1,g2⟩|⟨j,o1,q1,rfl,g1,g2⟩<;>rcases cs i' _ o' h2 h4 with⟨k0,k1,k2⟩|⟨j',o2,q2,rfl,k1,k2⟩
  ·exact h.apart i i' b c c' o o' g1 k1 g2 k2 l1 l2
  ·exact(fr1 i b c o g0 g1 g2 l1 ⟨j',c',o2,k1,k2,rnO_has.1 l2⟩).elim
  ·exact(fr1 i' b c' o' k0 k1 k2 l2 ⟨j,c,o1,g1,g2,rnO_has.1 l1⟩).elim
  ·rw[←q1,←q2,h'.apart j j' b c c' o1 o2 g1 k1 g2 k2 (rnO_has.1 l1) (rnO_has.1 l2)]
 ·intro b hb hI
  rcases oc b hb with⟨id,c,o,g0,g1,g2,g3⟩|hb
  ·rcases hst.inew b hI with h1|h1|h1
   ·exact h.notI b ⟨id,c,o,g1,g2,g3⟩ h1
   ·exact fr0 id b c o g0 g1 g2 g3 h1
   ·have:=h.lt b ⟨id,c,o,g1,g2,g3⟩;omega
  ·exact h'.notI b hb hI
 ·intro b hb
  rcases oc b hb with⟨id,c,o,g0,g1,g2,g3⟩|hb
  ·exact a1M (h.lt b ⟨id,c,o,g1,g2,g3⟩) hst.size
  ·exact h'.lt b hb
 ·intro b hb
  rcases hst.inew b hb with h1|h1|h1
  ·exact .inl h1
  ·exact .inr (.inl (own0' b h1))
  ·exact .inr (.inr h1)
 ·intro b hb
  rcases oc b hb with⟨id,c,o,g0,g1,g2,g3⟩|hb
  ·exact .inl ⟨id,c,o,g1,g2,g3⟩
  ·rcases hst.wnew b hb with h1|h1
   ·exact .inl (own0' b h1)
   ·exact .inr h1
def nodupN:List Nat→Bool
 |[]=>true
 |x :: l=>notin x l && nodupN l
where notin (x:Nat):List Nat→Bool
 |[]=>true
 |y :: l=>!Nat.beq x y && notin x l
theorem notin_spec {x:Nat}:∀{l:List Nat},nodupN.notin x l=true→x∉l
 |[],_=>by simp
 |y :: l,h=>by
  simp only[nodupN.notin,a0D,a3P] at h
  have h1:x≠y:=fun e=>by subst e;simp at h
  simp[h1,notin_spec h.2]
theorem nodupN_spec:∀{l:List Nat},nodupN l=true→l.Nodup
 |[],_=>List.nodup_nil
 |x :: l,h=>by
  simp only[nodupN,a0D] at h
  exact List.nodup_cons.2 ⟨notin_spec h.1,nodupN_spec h.2⟩
def allLt (n:Nat):List Nat→Bool
 |[]=>true
 |x :: l=>Nat.blt x n && allLt n l
theorem allLt_spec {n:Nat}:∀{l:List Nat},allLt n l=true→∀x∈l,x<n
 |[],_,x,h=>by simp at h
 |y :: l,h,x,hx=>by
  simp only[allLt,a0D] at h
  rcases a0Z.1 hx with rfl|hx
  ·exact a0P h.1
  ·exact allLt_spec h.2 x hx
def updK (σ:Nat→Nat):List Nat→List O→List O→(List O→Prop)→Prop
 |[],H,H',K=>appK H (rnH σ H') K
 |id :: ρ,H,o :: H',K=>setK H id (rnO σ o) fun H=>updK σ ρ H H' K
 |_ :: _,_,[],_=>False
theorem updK_spec (σ:Nat→Nat):∀(ρ:List Nat) (H H':List O) (K:List O→Prop),updK σ ρ H H' K→ρ.length≤H'.length∧K (upd ρ H (rnH σ H'))
 |[],H,H',K,h=>by
  simp only[updK] at h
  rw[appK_eq] at h
  exact⟨by simp,h⟩
 |id :: ρ,H,[],K,h=>h.elim
 |id :: ρ,H,o :: H',K,h=>by
  simp only[updK] at h
  rw[a0p,a0v] at h
  obtain⟨h1,h2⟩:=updK_spec σ ρ _ H' K h
  exact⟨by simpa using h1,h2⟩
def a2x:List Nat→List (Option Nat)
 |[]=>[]
 |x :: l=>some x :: a2x l
theorem someL_eq:∀l,a2x l=l.map some
 |[]=>rfl
 |x :: l=>by simp[a2x,someL_eq l]
theorem a0c {g:FuncId} {args args0:List V} {H H0:List O} {R K:V→List O→Prop} (ρ:List Nat) (h:Callee P g args0 H0 R) (hn:(nodupN ρ && allLt (len H) ρ)=true)
  (hv:vEntL (some (a2x ρ)) [] args args0 (hEnt (some (a2x ρ)) [] H (a2x ρ) H0 True)) (hk:∀ret H',R ret H'→lenK H fun n=>force (rnV (sg ρ n) ret) fun r=>updK (sg ρ n) ρ H H' fun H2=>K r H2):Callee P g args H K:=by
 simp only[a0D] at hn
 have hnd:=nodupN_spec hn.1
 have hlt:=allLt_spec hn.2
 rw[a1j] at hlt
 unfold Callee at h ⊢
 refine⟨h.1,fun I η w vals hS hd=>?_⟩
 have hρ:=ren_renEta η (a2x ρ)
 obtain⟨hT,hH⟩:=vEntL_sound hρ (F:=[]) (fun id e o _ ho=>by simp at ho) (fun b ⟨id,c,o,_,ho,_⟩=>by simp at ho) args args0 _ _ hv hd
 obtain⟨h1,_,h3⟩:=hEnt_sound hρ (F:=[]) (fun id e o _ ho=>by simp at ho) (fun b ⟨id,c,o,_,ho,_⟩=>by simp at ho) hS.len hS.obj (a2x ρ) H0 _ hH
 rw[someL_eq] at h1 h3
 have hl0:ρ.length=H0.length:=by simpa using h1
 have hη0:∀(j id:Nat),ρ[j]? = some id→(a1s η (a2x ρ))[j]? = η[id]?:=by
  intro j id hj
  have hid:id<η.length:=by rw[hS.len];exact hlt id (a1Y hj)
  simp[a1s,someL_eq,hj,hid]
 have hlη0:(a1s η (a2x ρ)).length=H0.length:=by simp[a1s,someL_eq,hl0]
 have hlive:∀(j id b:Nat) (e:Option Nat×Nat) (o:O),ρ[j]? = some id→H0[j]? = some o→η[id]? = some e→o.has e b→∃o',H[id]? = some o'∧o'.has e b:=fun j id b e o hj ho he hl=>(((h3 j o ho).1 id (by simp[hj])).1 e b hl (.inl he)).2
 have hback:∀(j:Nat) (e:Option Nat×Nat) (o:O),(a1s η (a2x ρ))[j]? = some e→H0[j]? = some o→∃id,ρ[j]? = some id∧η[id]? = some e:=by
  intro j e o he ho
  have hj:j<ρ.length:=by rw[hl0];exact(a0B.1 ho).1
  have hid:ρ[j]? = some ρ[j]:=by simp[hj]
  rw[hη0 j _ hid] at he
  exact⟨_,hid,he⟩
 have ow:∀b,own (a1s η (a2x ρ)) H0 b→own η H b:=by
  rintro b ⟨j,c,o,g1,g2,g3⟩
  obtain⟨id,q1,q2⟩:=hback j _ o g1 g2
  obtain⟨o',q3,q4⟩:=hlive j id b c o q1 g2 q2 g3
  exact⟨id,c,o',q2,q3,q4⟩
 have hS0:Sat I (a1s η (a2x ρ)) w H0:=by
  refine⟨hlη0,?_,?_,fun b hb=>hS.notI b (ow b hb),fun b hb=>hS.lt b (ow b hb),hS.ilt⟩
  ·intro j e o he ho
   obtain⟨id,q1,q2⟩:=hback j e o he ho
   have:=((h3 j o ho).1 id (by simp[q1])).2.1 e q2
   rwa [←someL_eq] at this
  ·intro j j' b c c' o o' g1 g2 g3 g4 l1 l2
   obtain⟨id,q1,q2⟩:=hback j _ o g1 g3
   obtain⟨id',q1',q2'⟩:=hback j' _ o' g2 g4
   obtain⟨o1,q3,q4⟩:=hlive j id b c o q1 g3 q2 l1
   obtain⟨o2,q3',q4'⟩:=hlive j' id' b c' o' q1' g4 q2' l2
   have:=hS.apart id id' b c c' o1 o2 q2 q2' q3 q3' q4 q4'
   subst this
   have e1:=(a0B.1 q1)
   have e2:=(a0B.1 q1')
   rcases a3G j j' with hh|hh|hh
   ·exact absurd (e1.2.trans e2.2.symm) (a0T.1 hnd j j' e1.1 e2.1 hh)
   ·exact hh
   ·exact absurd (e2.2.trans e1.2.symm) (a0T.1 hnd j' j e2.1 e1.1 hh)
 refine(h.2 I _ w vals hS0 hT).mono ?_
 rintro e w' ⟨I',η',H',ret,v,rfl,hr,hS',hden,_,hst⟩
 have hk:=hk ret H' hr
 rw[a1k,force_eq] at hk
 obtain⟨k1,k2⟩:=updK_spec _ ρ H H' _ hk
 obtain⟨s0,s1,s2,s3⟩:=hS.frame hnd hlt hl0 hη0 hlive hlη0 hS' k1 hst
 exact⟨I',_,_,_,v,rfl,k2,s1,Den.ren s0 _ _ hden,s2,s3⟩
theorem a0k (hE : ProgOk E P) {g : FuncId} {fn : Func} {code : Code} (hf : P.funcs[g]? = some fn) (hb : fn.body = some code) (hn : (fn.name == "runtime.NumGoroutine") = false) {args : List V} {H : List O} {K : V → List O → Prop}
  (hx:exec (sys P) E (len H) code (retQ E fn fun v H'=>∃v1 H1,K v1 H1∧∃ρ,Ent (len H) ρ [v] H' [v1] H1) (padT args fn.ntmps) H):Callee P g args H K:=by
 unfold Callee
 refine⟨⟨fn,hf,hn,by rw[hb];rfl⟩,fun I η w vals hS hd=>?_⟩
 refine(calls_of_exec hE hf hb hx hS hd).mono ?_
 rintro e w' ⟨I',η',H',v,x,rfl,⟨v1,H1,hret,ρ,hent⟩,hS',hden,hm,hst⟩
 have hg:Good I' η' w' [v] H' {tmps:=#[x],defers:=[]}:=⟨hS',SatT.ofList ⟨x,[],rfl,hden,rfl⟩⟩
 obtain⟨I1,η1,hg1,hs1⟩:=Ent_sound hent hg
 have hx:=hg1.tmp.2 0
 have h0:=(hst.toB (B:=len H)).trans hs1
 have hB:(own η H).eta.length≤len H:=by rw[a1j];exact Nat.le_of_eq hS.len
 have h1:=h0.toStep hB
 exact⟨I1,η1,H1,v1,x,rfl,hret,hg1.sat,by simpa [get] using hx,⟨h1.eta,h1.imono,hm.iblock⟩,h1⟩
theorem Callee.mono {g:FuncId} {args:List V} {H:List O} {K K':V→List O→Prop} (h:Callee P g args H K) (hr:∀v H',K v H'→K' v H'):Callee P g args H K':=by
 unfold Callee at h ⊢
 refine⟨h.1,fun I η w vals hS hd=>(h.2 I η w vals hS hd).mono ?_⟩
 rintro e w' ⟨I',η',H',v,x,he,hret,hr'⟩
 exact⟨I',η',H',v,x,he,hr _ _ hret,hr'⟩
end Go.Sx
