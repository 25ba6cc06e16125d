/- Own work: texts of the proof of a law (SzExec, SzEnt, SzDraw, SzDraw2, SzDraw3, SzPerm, SzEdge, SzJoin, SzDraw4). No condition. -/
import Derived.OrdersIn
import Derived.TacticsIn
import Derived.Sort.LoopGhostIn
import Derived.Test.YtkgjhinmndcmjaaGreatPart8
import Derived.Test.YtkgjhinmndcmjaaGreatPart0
namespace Go.Sx
open Go
variable {P:Program} {E:Env}
theorem guardDst_eq:∀(l:List Oper) (j:Nat),guardDst l j=(l[j]?).bind (·.dst)
 |[],_=>rfl
 |_ :: _,0=>rfl
 |_ :: l,j+1=>by simp[guardDst,guardDst_eq l j]
theorem yielded_eq {ops:Array Oper} {tmps:Array Value} {j g:Nat} (h:guardDst ops.toList j=some g):yielded ops tmps j=(match tmps.getD g undef with|.bool b=>some b|_=>none):=by
 rw[guardDst_eq,a3T] at h
 unfold yielded
 rw[h]
 simp only[Option.bind_some,a1W]
 cases tmps[g]? with
 |none=>rfl
 |some v=>cases v<;>rfl
theorem a3g {r:Option Nat} {n:Nat} {g:FuncId} {args:Array Value} {w:World} {R:Ending→World→Prop} (h:Calls P g args w R):CallsIn (Fw r) n P g args w R:=
 callsIn_wide.2 h
theorem round_fw {r:Option Nat} {n l:Nat} {f:FuncId} {tmps:Array Value} {assign body:Code} {w:World} {R:Ending→World→Prop} (h:RoundIn (Fw none) 0 P l f tmps assign body w R):RoundIn (Fw r) n P l f tmps assign body w R:=
 ⟨trivial,fun c cs _=>h.2 c cs (fun _ h=>by simp[Fw] at h)⟩
theorem pcall_run {R:Rel} (hR:RelOk R) {I:Nat→Prop} {η:Eta} {w:World} {H₀ H:List O} (hS:Sat I η w H) (hpre:∀(j:Nat) (o':O),H₀[j]? = some o'→H[j]? = some o') {g:FuncId} {args:List V} {vals:List Value} {v:V} (h:PCall P g args H₀ v) (hd:DenL I η w args vals) :
  Plain P g∧Calls P g vals.toArray w fun e w'=>∃x,e=.returned x∧Sat (grow I w w') η w' H∧Den (grow I w w') η w' v x∧Mono I η w (grow I w w') η w'∧R I (own η H) w (grow I w w') (own η H) w':=by
 unfold PCall at h
 obtain⟨keep,cargs,hp,hc⟩:=h
 refine⟨hp.1,?_⟩
 have hJ:∃J:Nat→Prop,(∀b,J b→b<w.heap.size)∧DenL J [] w cargs vals∧(keep=true→∀b,J b→I b):=by
  rcases hc with⟨rfl,hfo⟩|⟨rfl,hent⟩
  ·exact⟨I,hS.ilt,fo_nil_list _ _ hfo hd,fun _ _ hb=>hb⟩
  ·obtain⟨h1,_⟩:=rEntL_sound (J:=fun b=>I b∨own η H b) (keep:=true) (H:=H₀) (fun j e o he ho=>hS.obj j e o he (hpre j o ho)) (fun b ⟨j,c,o,h1,h2,h3⟩=>.inr ⟨j,c,o,h1,hpre j o h2,h3⟩) (fun _ b hb=>.inl hb) args cargs _ vals hent hd
   exact⟨_,fun b hb=>hb.elim (hS.ilt b) (hS.lt b),h1,fun hk=>by cases hk⟩
 obtain⟨J,hJ1,hJ2,hJ3⟩:=hJ
 refine(hp.2 J w vals hJ1 hJ2).mono ?_
 rintro e w' ⟨ret,x,rfl,rfl,hden,hpres⟩
 obtain⟨s1,s2,s3⟩:=hS.pres hpres
 refine⟨x,rfl,s1,Den.mono ⟨fun _ _ he _=>by simp at he,fun b hb=>?_,fun _ _=>rfl⟩ _ _ hden,s2,hR.step s3⟩
 rcases hb with hb|hb
 ·exact .inl (hJ3 hb.1 b hb.2)
 ·exact .inr hb
theorem pcall_run2 {I:Nat→Prop} {η:Eta} {w:World} {H₀ H:List O} (hS:Sat I η w H) (hpre:∀(j:Nat) (o':O),H₀[j]? = some o'→H[j]? = some o') {g:FuncId} {args:List V} {vals:List Value} {v:V} (h:PCall P g args H₀ v) (hd:DenL I η w args vals) :
  Plain P g∧Calls P g vals.toArray w fun e w'=>∃x,e=.returned x∧Sat (grow I w w') η w' H∧Den (grow I w w') η w' v x∧Mono I η w (grow I w w') η w'∧Step I (own η H) w (grow I w w') (own η H) w':=by
 unfold PCall at h
 obtain⟨keep,cargs,hp,hc⟩:=h
 refine⟨hp.1,?_⟩
 have hJ:∃J:Nat→Prop,(∀b,J b→b<w.heap.size)∧DenL J [] w cargs vals∧(keep=true→∀b,J b→I b):=by
  rcases hc with⟨rfl,hfo⟩|⟨rfl,hent⟩
  ·exact⟨I,hS.ilt,fo_nil_list _ _ hfo hd,fun _ _ hb=>hb⟩
  ·obtain⟨h1,_⟩:=rEntL_sound (J:=fun b=>I b∨own η H b) (keep:=true) (H:=H₀) (fun j e o he ho=>hS.obj j e o he (hpre j o ho)) (fun b ⟨j,c,o,h1,h2,h3⟩=>.inr ⟨j,c,o,h1,hpre j o h2,h3⟩) (fun _ b hb=>.inl hb) args cargs _ vals hent hd
   exact⟨_,fun b hb=>hb.elim (hS.ilt b) (hS.lt b),h1,fun hk=>by cases hk⟩
 obtain⟨J,hJ1,hJ2,hJ3⟩:=hJ
 refine(hp.2 J w vals hJ1 hJ2).mono ?_
 rintro e w' ⟨ret,x,rfl,rfl,hden,hpres⟩
 obtain⟨s1,s2,s3⟩:=hS.pres hpres
 refine⟨x,rfl,s1,Den.mono ⟨fun _ _ he _=>by simp at he,fun b hb=>?_,fun _ _=>rfl⟩ _ _ hden,s2,s3⟩
 rcases hb with hb|hb
 ·exact .inl (hJ3 hb.1 b hb.2)
 ·exact .inr hb
theorem call_run {o:Oper} {a:Act} {w:World} {f:Operand} {args:Array Operand} {ts:Array TypeId} (hop:o.op=.call {callee:=.value f,args:=args,argTypes:=ts}) {g:FuncId} {as bs:List Value} (hf:a.eval f=.func (.func g) as.toArray bs.toArray) (hp:Plain P g) :
  (execOp a.eval o).run P w=.ok (.enter g (as++(args.toList.map a.eval++bs)).toArray) w:=by
 obtain⟨fn,hfn,hnm,hbody⟩:=hp
 have hb':fn.body.isNone=false:=hbody
 simp only[execOp,hop,resolve,hf,Deferred.ofValue,Sem.run_bind,Sem.run_pure,Result.andThen_ok,invoke,callFunc,run_program,hfn,hnm,hb']
 simp
section
variable {R:Rel} (hR:RelOk R) (hE:a1b E P) {r:Option Nat} {n:Nat} {Q:Exit→Act→World→Prop}
include hR hE
theorem stepOp_sound {T:List V} {H:List O} {o:Oper} {K:KT} {I:Nat→Prop} {η:Eta} {w:World} {a:Act} (hg:Good I η w T H a) (h:stepOp (sys P) E T H o K) :
  o.wpIn (Fw r) n P a w (a1r R I (own η H) w a.defers K) Q:=by
 have hd:∀c,o.op≠.defer c:=by
  intro c hc
  unfold stepOp stepPure at h
  rw[hc] at h
  simp only[a1f,heapOp,hc] at h
  exact(by have h:=a1g h;simp[isGrid,isExt,isFrz,hc] at h)
 unfold stepOp at h
 rcases stepPure_sound hR.toH hE (r:=r) (n:=n) (Q:=Q) hg h hd with h1|h1
 ·exact h1
 ·obtain⟨ht,h2⟩:=a0x trivial h1
  by_cases hgr:isGrid T H o=true
  ·rw[hgr] at h2
   exact gridOp_sound hR.toH hE hg h2 ht
  rw[a3X] at hgr
  rw[hgr] at h2
  simp only[cond_false] at h2
  by_cases hex:isExt T o=true
  ·rw[hex] at h2
   exact extOp_sound hR.toH hE hg h2 ht
  rw[a3X] at hex
  rw[hex] at h2
  simp only[cond_false] at h2
  by_cases hfz:isFrz T o=true
  ·rw[hfz] at h2
   exact frzOp_sound hR.toH hR.trans hE hg h2 ht
  rw[a3X] at hfz
  rw[hfz] at h2
  simp only[cond_false] at h2
  split at h2
  ·rename_i fo args argTypes hop
   unfold callOp at h2
   rw[hop] at h2
   simp only at h2
   split at h2
   ·rename_i g first cap hf
    rw[forceL_eq,a2n,a2n] at h2
    have hfd:=a0l hg.tmp (ht fo (by simp[hop,Op.operands,Call.operands]))
    rw[hf] at hfd
    obtain⟨as,bs,hfv,had,hbd⟩:=hfd
    have hargs:=a3f hg.tmp args.toList (fun x hx=>ht x (by simp[hop,Op.operands,Call.operands];exact .inr (by simpa using hx)))
    have hall:DenL I η w (first++(evs T args.toList++cap)) (as++(args.toList.map a.eval++bs)):=had.append (hargs.append hbd)
    unfold sys Callee at h2
    obtain⟨⟨fn,hfn,hnm,hbody⟩,hcall⟩:=h2
    have hc:=hcall I η w _ hg.sat hall
    refine⟨fun _ _=>trivial,?_⟩
    rw[Oper.semAt_eq _ _ _ hd]
    have hrun:(execOp a.eval o).run P w=.ok (.enter g (as++(args.toList.map a.eval++bs)).toArray) w:=by
     have hb':fn.body.isNone=false:=hbody
     simp only[execOp,hop,resolve,hfv,Deferred.ofValue,Sem.run_bind,Sem.run_pure,Result.andThen_ok,invoke,callFunc,run_program,hfn,hnm,hb']
     simp
    rw[hrun]
    refine⟨fun hsome=>by simp[Fw] at hsome,a3g (hc.mono ?_)⟩
    rintro e w' ⟨I',η',H',ret,v,rfl,hk,hs,hden,hm,hr⟩
    rw[a0n] at hk
    exact⟨Act.put_defers' _ _ _,I',η',_,H',hk,⟨hs,(hg.tmp.mono hm).put hden⟩,hR.step hr⟩
   ·rename_i id hf
    rw[forceL_eq] at h2
    have hfd:=a0l hg.tmp (ht fo (by simp[hop,Op.operands,Call.operands]))
    rw[hf] at hfd
    have hargs:=a3f hg.tmp args.toList (fun x hx=>ht x (by simp[hop,Op.operands,Call.operands];exact .inr (by simpa using hx)))
    unfold sys YCall at h2
    obtain⟨b,c,fn,tmps,assign,body,hη,hinv,hround⟩:=h2 I η w _ hg.sat hargs
    obtain⟨b',c',hη',hfv⟩:=hfd
    rw[hη] at hη'
    cases hη'
    refine⟨fun _ _=>trivial,?_⟩
    rw[Oper.semAt_eq _ _ _ hd]
    have hrun:(execOp a.eval o).run P w=.ok (.round b fn tmps assign body) w:=by
     rw[←hinv]
     have hmap:Array.map a.eval args=(List.map a.eval args.toList).toArray:=by rw[←a3M,a3L]
     simp only[execOp,hop,resolve,hfv,Deferred.ofValue,Sem.run_bind,Sem.run_pure,Result.andThen_ok,hmap]
     simp
    rw[hrun]
    refine⟨fun hsome=>by simp[Fw] at hsome,round_fw (hround.mono ?_)⟩
    rintro e w' ⟨I',η',H',ret,v,rfl,hk,hs,hden,hm,hr⟩
    rw[a0n] at hk
    exact⟨Act.put_defers' _ _ _,I',η',_,H',hk,⟨hs,(hg.tmp.mono hm).put hden⟩,hR.step hr⟩
   ·rename_i D hf
    rw[forceL_eq] at h2
    have hfd:=a0l hg.tmp (ht fo (by simp[hop,Op.operands,Call.operands]))
    rw[hf] at hfd
    have hargs:=a3f hg.tmp args.toList (fun x hx=>ht x (by simp[hop,Op.operands,Call.operands];exact .inr (by simpa using hx)))
    unfold sys SCall at h2
    obtain⟨g,as,bs,hfv,⟨fn,hfn,hnm,hbody⟩,hc⟩:=h2 I η w _ _ hg.sat hfd hargs
    refine⟨fun _ _=>trivial,?_⟩
    rw[Oper.semAt_eq _ _ _ hd]
    have hrun:(execOp a.eval o).run P w=.ok (.enter g (as++(args.toList.map a.eval).toArray++bs)) w:=by
     have hb':fn.body.isNone=false:=hbody
     have hmap:Array.map a.eval args=(List.map a.eval args.toList).toArray:=by rw[←a3M,a3L]
     simp only[execOp,hop,resolve,hfv,Deferred.ofValue,Sem.run_bind,Sem.run_pure,Result.andThen_ok,invoke,callFunc,run_program,hfn,hnm,hb',hmap]
     simp
    rw[hrun]
    refine⟨fun hsome=>by simp[Fw] at hsome,a3g (hc.mono ?_)⟩
    rintro e w' ⟨I',η',H',ret,v,rfl,hk,hs,hden,hm,hr⟩
    rw[a0n] at hk
    exact⟨Act.put_defers' _ _ _,I',η',_,H',hk,⟨hs,(hg.tmp.mono hm).put hden⟩,hR.step hr⟩
   ·exact h2.elim
  ·split at h2
   ·exact mapOp_sound hR hE hg h2 ht
   ·exact a1y hR.toH hE hg h2 ht
  ·exact mapOp_sound hR hE hg h2 ht
  ·exact mapOp_sound hR hE hg h2 ht
  ·exact mapOp_sound hR hE hg h2 ht
  ·exact mapOp_sound hR hE hg h2 ht
  ·exact a1y hR.toH hE hg h2 ht
  ·exact a1y hR.toH hE hg h2 ht
  ·exact heapOp_sound hR.toH hE hg h2 ht
theorem softPure_sound {T:List V} {H:List O} {e:Prop} {o:Oper} {K:KT} {L:Prop} {I:Nat→Prop} {η:Eta} {w:World} {a:Act} (hg:Good I η w T H a) (h:softPure E T H e o K L) (hd:∀c,o.op≠.defer c) :
  ((e→o.wpIn (Fw r) n P a w (a1r R I (own η H) w a.defers K) Q)∧(¬e→a1r R I (own η H) w a.defers K (a.put o.dst undef) w))∨L:=by
 unfold softPure at h
 have key:∀(v:V),conds T e (a2e o.op) (softV e v fun v=>putK T o.dst v fun T'=>K T' H)→(e→(∀x∈a2e o.op,a2m T x)→∃x,(execOp a.eval o).run P w=.ok (.value x) w∧Den I η w v x)→
   ((e→o.wpIn (Fw r) n P a w (a1r R I (own η H) w a.defers K) Q)∧(¬e→a1r R I (own η H) w a.defers K (a.put o.dst undef) w)):=by
  intro v hc hx
  constructor
  ·intro he
   obtain⟨h1,h2⟩:=a0x he hc
   obtain⟨x,e1,e2⟩:=hx he h1
   unfold softV at h2
   split at h2
   ·obtain⟨hq,h2⟩:=h2
    rw[a0n] at h2
    exact a0m hd e1 ⟨Act.put_defers' _ _ _,I,η,_,H,h2,⟨hg.sat,hg.tmp.put ⟨fun _=>e2.1 (hq he),fun hn=>(hn he).elim⟩⟩,hR.step (Step.refl _ _ _)⟩
   ·rw[a0n] at h2
    exact a0m hd e1 ⟨Act.put_defers' _ _ _,I,η,_,H,h2,⟨hg.sat,hg.tmp.put ⟨fun _=>e2,fun hn=>(hn he).elim⟩⟩,hR.step (Step.refl _ _ _)⟩
  ·intro hne
   have h2:=a1g hc
   unfold softV at h2
   split at h2
   ·obtain⟨hq,h2⟩:=h2
    rw[a0n] at h2
    exact⟨Act.put_defers' _ _ _,I,η,_,H,h2,⟨hg.sat,hg.tmp.put ⟨fun he=>(hne he).elim,fun _=>rfl⟩⟩,hR.step (Step.refl _ _ _)⟩
   ·rw[a0n] at h2
    exact⟨Act.put_defers' _ _ _,I,η,_,H,h2,⟨hg.sat,hg.tmp.put ⟨fun he=>(hne he).elim,fun _=>rfl⟩⟩,hR.step (Step.refl _ _ _)⟩
 split at h
 ·exact .inr h
 ·rename_i v hp
  left
  refine key v h (fun he ht=>?_)
  have:=a2a hE hg.sat.obj hg.tmp o ht
  rw[hp] at this
  exact this
 ·rename_i c v hp
  left
  refine key v h.2 (fun he ht=>?_)
  have:=a2a hE hg.sat.obj hg.tmp o ht
  rw[hp] at this
  exact this (h.1 he)
omit hE in
theorem softCall_sound {T:List V} {H:List O} {e:Prop} {o:Oper} {K:KT} {I:Nat→Prop} {η:Eta} {w:World} {a:Act} (hg:Good I η w T H a) (h:softCall (sys P) E T H e o K) :
  (e→o.wpIn (Fw r) n P a w (a1r R I (own η H) w a.defers K) Q)∧(¬e→a1r R I (own η H) w a.defers K (a.put o.dst undef) w):=by
 unfold softCall at h
 split at h
 ·rename_i fo args ts hoc
  have hk:=a1g h
  split at hk
  ·rename_i g first cap hf
   rw[forceL_eq,a2n,a2n] at hk
   obtain⟨v,hp,hk⟩:=hk
   rw[force_eq,a0n] at hk
   refine⟨fun he=>?_,fun he=>⟨Act.put_defers' _ _ _,I,η,_,H,hk,⟨hg.sat,hg.tmp.put ⟨fun hh=>(he hh).elim,fun _=>rfl⟩⟩,hR.step (Step.refl _ _ _)⟩⟩
   obtain⟨ht,_⟩:=a0x he h
   have hd:∀c,o.op≠.defer c:=by rw[hoc];intro c hc;cases hc
   have hfo:fo∈o.op.operands.toList:=by simp[hoc,Op.operands,Call.operands]
   have hfd:=a0l hg.tmp (ht fo hfo)
   rw[hf] at hfd
   obtain⟨as,bs,hfv,had,hbd⟩:=hfd
   have hargs:=a3f hg.tmp args.toList (fun x hx=>ht x (by simp[hoc,Op.operands,Call.operands];exact .inr (by simpa using hx)))
   obtain⟨hpl,hcall⟩:=pcall_run hR hg.sat (fun _ _ h=>h) (hp he) (had.append (hargs.append hbd))
   refine⟨fun _ _=>trivial,?_⟩
   rw[Oper.semAt_eq _ _ _ hd,call_run hoc hfv hpl]
   refine⟨fun hsome=>by simp[Fw] at hsome,a3g (hcall.mono ?_)⟩
   rintro e' w' ⟨x,rfl,s1,s2,s3,s4⟩
   exact⟨Act.put_defers' _ _ _,grow I w w',η,_,H,hk,⟨s1,(hg.tmp.mono s3).put ⟨fun _=>s2,fun hn=>(hn he).elim⟩⟩,s4⟩
  ·exact hk.elim
 ·exact h.elim
def Fin1 (P:Program) (R:Rel) (r:Option Nat) (n:Nat) (Q:Exit→Act→World→Prop) (ops:Array Oper) (I:Nat→Prop) (η:Eta) (w:World) (H:List O) (K:KT) (o:Oper) (a:Act):Prop:=
 if Region.wanted o (yielded ops a.tmps)=true then o.wpIn (Fw r) n P a w (a1r R I (own η H) w a.defers K) Q else a1r R I (own η H) w a.defers K (a.put o.dst undef) w
theorem exec1_sound {ops:Array Oper} {K:KT} {o:Oper} {T:List V} {H:List O} {I:Nat→Prop} {η:Eta} {w:World} {a:Act} (h:a1c (sys P) E ops.toList K [o] T H) (hg:Good I η w T H a):Fin1 P R r n Q ops I η w H K o a:=by
 have run:Region.wanted o (yielded ops a.tmps)=true→o.wpIn (Fw r) n P a w (a1r R I (own η H) w a.defers K) Q→Fin1 P R r n Q ops I η w H K o a:=by
  intro hw hh
  unfold Fin1
  rw[if_pos hw]
  exact hh
 have skip:Region.wanted o (yielded ops a.tmps)=false→a1r R I (own η H) w a.defers K (a.put o.dst undef) w→Fin1 P R r n Q ops I η w H K o a:=by
  intro hw hh
  unfold Fin1
  rw[if_neg (by simp[hw])]
  exact hh
 unfold a1c at h
 have e0:a1c (sys P) E ops.toList K []=K:=rfl
 rw[e0] at h
 split at h
 ·rename_i hgd
  exact run (by simp[Region.wanted,hgd]) (stepOp_sound hR hE hg h)
 ·rename_i j want hgd
  split at h
  ·exact h.elim
  ·rename_i g hgs
   have hy:=yielded_eq (tmps:=a.tmps) hgs
   have hden:=hg.tmp.2 g
   have hwant:∀b,a.tmps.getD g undef=.bool b→Region.wanted o (yielded ops a.tmps)=(b == want):=by
    intro b hb
    simp only[Region.wanted,hgd,hy,hb]
    cases b<;>cases want<;>rfl
   have hnd:∀(L:Prop) (p:Prop),softPure E T H p o (K) L→(∀c,o.op≠.defer c)∨L:=by
    intro L p hs
    by_cases hdf:∃c,o.op=.defer c
    ·obtain⟨c,hc⟩:=hdf
     right
     unfold softPure at hs
     rw[hc] at hs
     exact hs
    ·left;intro c hc;exact hdf ⟨c,hc⟩
   split at h
   ·rename_i hv
    rw[hv] at hden
    exact run (by rw[hwant true hden];rfl) (stepOp_sound hR hE hg h)
   ·rename_i hv
    rw[hv] at hden
    exact run (by rw[hwant false hden];rfl) (stepOp_sound hR hE hg h)
   ·rename_i b hb hn1 hn2
    rw[hb] at hden
    rw[a0n] at h
    refine skip ?_ ⟨Act.put_defers' _ _ _,I,η,_,H,h,⟨hg.sat,hg.tmp.put ⟨[],rfl,rfl⟩⟩,hR.step (Step.refl _ _ _)⟩
    rw[hwant b hden]
    cases b<;>simp_all
   ·rename_i p d hv
    rw[hv] at hden
    have hw1:=hwant _ hden
    have hsplit:((p→setK T g (.kb true) fun T=>stepOp (sys P) E T H o (K))∧
      (¬p→setK T g (.kb false) fun T=>putK T o.dst (.tup []) fun T'=>K T' H))→Fin1 P R r n Q ops I η w H K o a:=by
     rintro⟨h1,h2⟩
     by_cases hp:p
     ·have h1:=h1 hp
      rw[a0p] at h1
      refine run (by rw[hw1];simp[hp]) (stepOp_sound hR hE ⟨hg.sat,hg.tmp.replace (g:=g) (v:=.kb true) ?_⟩ h1)
      rw[show a.tmps.getD g undef=_ from hden];simp[Den,hp]
     ·have h2:=h2 hp
      rw[a0p,a0n] at h2
      refine skip (by rw[hw1];simp[hp]) ⟨Act.put_defers' _ _ _,I,η,_,H,h2,⟨hg.sat,SatT.put (hg.tmp.replace (g:=g) (v:=.kb false) ?_) ⟨[],rfl,rfl⟩⟩,hR.step (Step.refl _ _ _)⟩
      rw[show a.tmps.getD g undef=_ from hden];simp[Den,hp]
    rcases hnd _ _ h with hdd|hdd
    ·rcases softPure_sound hR hE (r:=r) (n:=n) (Q:=Q) hg h hdd with⟨s1,s2⟩|s
     ·by_cases hp:p
      ·exact run (by rw[hw1];simp[hp]) (s1 hp)
      ·exact skip (by rw[hw1];simp[hp]) (s2 hp)
     ·exact hsplit s
    ·exact hsplit hdd
   ·rename_i p d hv
    rw[hv] at hden
    have hw1:=hwant _ hden
    have hsplit:((¬p→setK T g (.kb false) fun T=>stepOp (sys P) E T H o (K))∧
      (p→setK T g (.kb true) fun T=>putK T o.dst (.tup []) fun T'=>K T' H))→Fin1 P R r n Q ops I η w H K o a:=by
     rintro⟨h1,h2⟩
     by_cases hp:p
     ·have h2:=h2 hp
      rw[a0p,a0n] at h2
      refine skip (by rw[hw1];simp[hp]) ⟨Act.put_defers' _ _ _,I,η,_,H,h2,⟨hg.sat,SatT.put (hg.tmp.replace (g:=g) (v:=.kb true) ?_) ⟨[],rfl,rfl⟩⟩,hR.step (Step.refl _ _ _)⟩
      rw[show a.tmps.getD g undef=_ from hden];simp[Den,hp]
     ·have h1:=h1 hp
      rw[a0p] at h1
      refine run (by rw[hw1];simp[hp]) (stepOp_sound hR hE ⟨hg.sat,hg.tmp.replace (g:=g) (v:=.kb false) ?_⟩ h1)
      rw[show a.tmps.getD g undef=_ from hden];simp[Den,hp]
    rcases hnd _ _ h with hdd|hdd
    ·rcases softPure_sound hR hE (r:=r) (n:=n) (Q:=Q) hg h hdd with⟨s1,s2⟩|s
     ·by_cases hp:p
      ·exact skip (by rw[hw1];simp[hp]) (s2 (fun hn=>hn hp))
      ·exact run (by rw[hw1];simp[hp]) (s1 hp)
     ·exact hsplit s
    ·exact hsplit hdd
   ·rename_i q p d hv
    rw[hv] at hden
    have fin:softCall (sys P) E T H (q∧p) o (K)→Fin1 P R r n Q ops I η w H K o a:=by
     intro h
     obtain⟨s1,s2⟩:=softCall_sound hR (r:=r) (n:=n) (Q:=Q) hg h
     by_cases hq:q
     ·have hw1:=hwant _ (hden.1 hq)
      by_cases hp:p
      ·exact run (by rw[hw1];simp[hp]) (s1 ⟨hq,hp⟩)
      ·exact skip (by rw[hw1];simp[hp]) (s2 (fun hn=>hp hn.2))
     ·refine skip ?_ (s2 (fun hn=>hq hn.1))
      rw[hden.2 hq] at hy
      simp only[Region.wanted,hgd,hy]
      rfl
    rcases hnd _ _ h with hdd|hdd
    ·rcases softPure_sound hR hE (r:=r) (n:=n) (Q:=Q) hg h hdd with⟨s1,s2⟩|s
     ·by_cases hq:q
      ·have hw1:=hwant _ (hden.1 hq)
       by_cases hp:p
       ·exact run (by rw[hw1];simp[hp]) (s1 ⟨hq,hp⟩)
       ·exact skip (by rw[hw1];simp[hp]) (s2 (fun hn=>hp hn.2))
      ·refine skip ?_ (s2 (fun hn=>hq hn.1))
       rw[hden.2 hq] at hy
       simp only[Region.wanted,hgd,hy]
       rfl
     ·exact fin s
    ·exact fin hdd
   ·rename_i q p d hv
    rw[hv] at hden
    have fin:softCall (sys P) E T H (q∧¬p) o (K)→Fin1 P R r n Q ops I η w H K o a:=by
     intro h
     obtain⟨s1,s2⟩:=softCall_sound hR (r:=r) (n:=n) (Q:=Q) hg h
     by_cases hq:q
     ·have hw1:=hwant _ (hden.1 hq)
      by_cases hp:p
      ·exact skip (by rw[hw1];simp[hp]) (s2 (fun hn=>hn.2 hp))
      ·exact run (by rw[hw1];simp[hp]) (s1 ⟨hq,hp⟩)
     ·refine skip ?_ (s2 (fun hn=>hq hn.1))
      rw[hden.2 hq] at hy
      simp only[Region.wanted,hgd,hy]
      rfl
    rcases hnd _ _ h with hdd|hdd
    ·rcases softPure_sound hR hE (r:=r) (n:=n) (Q:=Q) hg h hdd with⟨s1,s2⟩|s
     ·by_cases hq:q
      ·have hw1:=hwant _ (hden.1 hq)
       by_cases hp:p
       ·exact skip (by rw[hw1];simp[hp]) (s2 (fun hn=>hn.2 hp))
       ·exact run (by rw[hw1];simp[hp]) (s1 ⟨hq,hp⟩)
      ·refine skip ?_ (s2 (fun hn=>hq hn.1))
       rw[hden.2 hq] at hy
       simp only[Region.wanted,hgd,hy]
       rfl
     ·exact fin s
    ·exact fin hdd
   ·rename_i hv
    rw[hv] at hden
    obtain⟨vs,hvs,hv2⟩:=hden
    have hv2:vs=[]:=hv2
    subst hv2
    rw[a0n] at h
    refine skip ?_ ⟨Act.put_defers' _ _ _,I,η,_,H,h,⟨hg.sat,hg.tmp.put ⟨[],rfl,rfl⟩⟩,hR.step (Step.refl _ _ _)⟩
    rw[hvs] at hy
    simp only[Region.wanted,hgd,hy]
    rfl
   ·exact h.elim
theorem execOps_sound {ops:Array Oper} {K:KT} {I₀:Nat→Prop} {W₀:Own} {w₀:World} {ds:List Deferred} (hQ:∀a w,a1r R I₀ W₀ w₀ ds K a w→Q .normal a w) :
  ∀(rest:List Oper) (T:List V) (H:List O) (I:Nat→Prop) (η:Eta) (w:World) (a:Act),a1c (sys P) E ops.toList K rest T H→Good I η w T H a→a.defers=ds→R I₀ W₀ w₀ I (own η H) w→
   wpListIn (Fw r) n P ops Q rest a w
 |[],T,H,I,η,w,a,h,hg,hds,hr=>wpListIn_nil (hQ a w ⟨hds,I,η,T,H,h,hg,hr⟩)
 |o :: rest,T,H,I,η,w,a,h,hg,hds,hr=>by
  have ih:=execOps_sound (ops:=ops) hQ rest
  have next:∀a' w',a1r R I (own η H) w a.defers (a1c (sys P) E ops.toList K rest) a' w'→wpListIn (Fw r) n P ops Q rest a' w':=by
   rintro a' w' ⟨h1,I',η',T',H',h2,h3,h4⟩
   exact ih T' H' I' η' w' a' h2 h3 (h1.trans hds) (hR.trans hr h4)
  have h:a1c (sys P) E ops.toList (a1c (sys P) E ops.toList K rest) [o] T H:=h
  have h1:=exec1_sound hR hE (r:=r) (n:=n) (Q:=Q) h hg
  unfold Fin1 at h1
  unfold wpListIn
  split
  ·rename_i hw
   rw[if_pos hw] at h1
   exact Oper.wpIn_mono next h1
  ·rename_i hw
   rw[if_neg hw] at h1
   exact⟨fun _ _=>trivial,next _ _ h1⟩
end
end Go.Sx
namespace Go.Sx
open Go
variable {P:Program} {E:Env}
section
variable {I:Nat→Prop} {η η':Eta} {w:World} {ρ:Rn} {F:List O}
theorem a2p {id' id:Nat} (h:isRn ρ id' id=true):rn ρ id'=some id:=by
 unfold isRn at h
 split at h
 ·rename_i j hj;rw[hj,a0f h]
 ·cases h
structure Ren (ρ:Rn) (η η':Eta):Prop where
 to:∀(id' id:Nat) (e:Option Nat×Nat),rn ρ id'=some id→η[id]? = some e→η'[id']? = some e
 nil:∀(id':Nat),rn ρ id'=none→rnLt ρ id'=true→η'[id']? = some (none,0)
mutual
theorem vEnt_sound (hρ:Ren ρ η η') (hF:Objs I η w F) (hFI:∀b,own η F b→I b):∀(x y:V) (K:Prop) (v:Value),vEnt ρ F x y K→Den I η w x v→Den I η' w y v∧K
 |.int k n,y,K,v,h,hd=>by
  cases y<;>simp only[vEnt] at h
  case int=>
   split at h
   ·rename_i hk;subst hk;obtain⟨rfl,h⟩:=h;exact⟨hd,h⟩
   ·exact h.elim
  case any=>exact⟨trivial,h⟩
 |.prop p d,y,K,v,h,hd=>by
  cases y<;>simp only[vEnt] at h
  case prop q e=>
   refine⟨?_,h.2⟩
   rw[show v=_ from hd]
   simp only[Den]
   congr 1
   rw[Bool.eq_iff_iff]
   simp[h.1]
  case any=>exact⟨trivial,h⟩
 |.kb b,y,K,v,h,hd=>by
  cases y<;>simp only[vEnt] at h
  case kb b'=>
   cases b<;>cases b'<;>first|exact⟨hd,h⟩|exact h.elim
  case prop q e=>
   cases b
   ·refine⟨?_,h.2⟩
    rw[show v=_ from hd]
    simp[Den,h.1]
   ·refine⟨?_,h.2⟩
    rw[show v=_ from hd]
    simp[Den,h.1]
  case any=>exact⟨trivial,h⟩
 |.ptr id off,y,K,v,h,hd=>by
  cases y<;>simp only[vEnt] at h
  case ptr id' off'=>
   simp only[cond_eq_ite,a0D] at h
   split at h
   ·rename_i hc
    obtain rfl:=a0f hc.2
    obtain⟨b,c,h1,h2⟩:=hd
    exact⟨⟨b,c,hρ.to _ _ _ (a2p hc.1) h1,h2⟩,h⟩
   ·exact h.elim
  case iptr=>exact(rEnt_sound (J:=I) (keep:=true) hF hFI (fun _ _ hb=>hb) _ _ _ v h hd).imp_left (Den.mono (Mono.ofNil I η' w) _ _)
  case any=>exact⟨trivial,h⟩
 |.eptr _ _ _ _,y,K,v,h,hd=>by
  cases y<;>simp only[vEnt] at h
  case any=>exact⟨trivial,h⟩
 |.iptr cs,y,K,v,h,hd=>by
  cases y<;>simp only[vEnt] at h
  case iptr=>obtain⟨rfl,h⟩:=h;exact⟨hd,h⟩
  case any=>exact⟨trivial,h⟩
 |.sl sz n f,y,K,v,h,hd=>by
  cases y<;>simp only[vEnt] at h
  case sl sz' n' f'=>
   obtain⟨rfl,rfl,hf,h⟩:=h
   refine⟨?_,h⟩
   rcases hd with hd|⟨b,o,cap,h1,h2,h3⟩
   ·exact .inl hd
   ·refine .inr ⟨b,o,cap,h1,h2,h3.1,fun i hi=>?_⟩
    rw[←hf i hi]
    exact h3.2 i hi
  case any=>exact⟨trivial,h⟩
 |.osl id n,y,K,v,h,hd=>by
  cases y<;>simp only[vEnt] at h
  case osl id' n'=>
   simp only[cond_eq_ite] at h
   split at h
   ·rename_i hc
    obtain⟨rfl,h⟩:=h
    obtain⟨e,h1,h2,h3⟩:=hd
    exact⟨⟨e,hρ.to _ _ _ (a2p hc) h1,h2,h3⟩,h⟩
   ·exact h.elim
  case sl=>exact(rEnt_sound (J:=I) (keep:=true) hF hFI (fun _ _ hb=>hb) _ _ _ v h hd).imp_left (Den.mono (Mono.ofNil I η' w) _ _)
  case any=>exact⟨trivial,h⟩
 |.map id,y,K,v,h,hd=>by
  cases y<;>simp only[vEnt] at h
  case map id'=>
   simp only[cond_eq_ite] at h
   split at h
   ·rename_i hc
    obtain⟨b,c,h1,h2⟩:=hd
    exact⟨⟨b,c,hρ.to _ _ _ (a2p hc) h1,h2⟩,h⟩
   ·exact h.elim
  case imap=>exact(rEnt_sound (J:=I) (keep:=true) hF hFI (fun _ _ hb=>hb) _ _ _ v h hd).imp_left (Den.mono (Mono.ofNil I η' w) _ _)
  case any=>exact⟨trivial,h⟩
 |.fn f a b,y,K,v,h,hd=>by
  cases y<;>simp only[vEnt] at h
  case fn f' a' b'=>
   obtain⟨rfl,h⟩:=h
   obtain⟨as,bs,h1,h2,h3⟩:=hd
   obtain⟨g1,g2⟩:=vEntL_sound hρ hF hFI a a' _ as h h2
   obtain⟨g3,g4⟩:=vEntL_sound hρ hF hFI b b' _ bs g2 h3
   exact⟨⟨as,bs,h1,g1,g3⟩,g4⟩
  case sem=>exact(rEnt_sound (J:=I) (keep:=true) hF hFI (fun _ _ hb=>hb) _ _ _ v h hd).imp_left (Den.mono (Mono.ofNil I η' w) _ _)
  case any=>exact⟨trivial,h⟩
 |.agg cs,y,K,v,h,hd=>by
  cases y<;>simp only[vEnt] at h
  case agg cs'=>
   obtain⟨vs,h1,h2,h3⟩:=hd
   obtain⟨g1,g2⟩:=vEntL_sound hρ hF hFI cs cs' _ vs h h3
   exact⟨⟨vs,h1,h2,g1⟩,g2⟩
  case any=>exact⟨trivial,h⟩
 |.tup cs,y,K,v,h,hd=>by
  cases y<;>simp only[vEnt] at h
  case tup cs'=>
   obtain⟨vs,h1,h3⟩:=hd
   obtain⟨g1,g2⟩:=vEntL_sound hρ hF hFI cs cs' _ vs h h3
   exact⟨⟨vs,h1,g1⟩,g2⟩
  case any=>exact⟨trivial,h⟩
 |.lit x,y,K,v,h,hd=>by
  cases y<;>simp only[vEnt] at h
  case sl=>exact(rEnt_sound (J:=I) (keep:=true) hF hFI (fun _ _ hb=>hb) _ _ _ v h hd).imp_left (Den.mono (Mono.ofNil I η' w) _ _)
  case any=>exact⟨trivial,h⟩
  case lit x'=>
   obtain⟨hx,hk⟩:=h
   subst hx
   exact⟨hd,hk⟩
  case x e=>
   split at h
   ·exact⟨⟨none,hd⟩,h⟩
   ·exact h.elim
  case osl id' n'=>
   split at h
   ·split at h
    ·rename_i hr
     simp only[cond_eq_ite] at h
     split at h
     ·rename_i hlt
      obtain⟨h0,hk⟩:=h
      subst h0
      exact⟨⟨(none,0),hρ.nil _ hr hlt,fun _=>⟨rfl,rfl⟩,hd⟩,hk⟩
     ·exact h.elim
    ·exact h.elim
   ·exact h.elim
 |.ite p u,y,K,v,h,hd=>by
  cases y<;>simp only[vEnt] at h
  case ite q u'=>
   split at h
   ·simp only[cond_eq_ite,a0D] at h
    split at h
    ·rename_i hc
     obtain⟨rfl,h⟩:=h
     refine⟨⟨fun hp=>?_,hd.2⟩,h⟩
     obtain rfl:=a0f hc.2
     obtain⟨b,c,h1,h2⟩:=hd.1 hp
     exact⟨b,c,hρ.to _ _ _ (a2p hc.1) h1,h2⟩
    ·exact h.elim
   ·obtain⟨rfl,rfl,hfo,h⟩:=h
    refine⟨⟨fun hp=>Den.mono (Mono.ofNil I η' w) _ _ (fo_nil _ v hfo (hd.1 hp)),hd.2⟩,h⟩
  case any=>exact⟨trivial,h⟩
 |.sem D,y,K,v,h,hd=>by
  cases y<;>simp only[vEnt] at h
  case sem D'=>obtain⟨rfl,h⟩:=h;exact⟨hd,h⟩
  case any=>exact⟨trivial,h⟩
 |.win id sz off n,y,K,v,h,hd=>by
  cases y<;>simp only[vEnt] at h
  case win id' sz' off' n'=>
   simp only[cond_eq_ite] at h
   split at h
   ·rename_i hc
    obtain⟨rfl,rfl,rfl,h⟩:=h
    have hex:off=0→∃e,η'[id']? = some e∧(e.1=none→n=0∧e.2=0)∧v=slVal e n:=fun h0=>by
     obtain⟨e,h1,h2⟩:=hd.1 h0
     exact⟨e,hρ.to _ _ _ (a2p hc) h1,h2⟩
    rcases hd.2 with hd|⟨b,c,cap,h1,h2⟩
    ·exact⟨⟨hex,.inl hd⟩,h⟩
    ·exact⟨⟨hex,.inr ⟨b,c,cap,hρ.to _ _ _ (a2p hc) h1,h2⟩⟩,h⟩
   ·exact h.elim
  case sl=>exact(rEnt_sound (J:=I) (keep:=true) hF hFI (fun _ _ hb=>hb) _ _ _ v h hd).imp_left (Den.mono (Mono.ofNil I η' w) _ _)
  case any=>exact⟨trivial,h⟩
 |.gsl id i n e,y,K,v,h,hd=>by
  cases y<;>simp only[vEnt] at h
  case gsl=>
   simp only[cond_eq_ite] at h
   split at h
   ·rename_i hc
    obtain⟨_,rfl,rfl,h⟩:=h
    obtain⟨⟨e0,h1,h2⟩,h3⟩:=hd
    exact⟨⟨⟨e0,hρ.to _ _ _ (a2p hc) h1,h2⟩,h3⟩,h⟩
   ·exact h.elim
  case any=>exact⟨trivial,h⟩
 |.gptr id i j off sz e,y,K,v,h,hd=>by
  cases y<;>simp only[vEnt] at h
  case gptr=>
   simp only[cond_eq_ite] at h
   split at h
   ·rename_i hc
    obtain⟨_,rfl,rfl,rfl,rfl,h⟩:=h
    obtain⟨⟨e0,h1,h2⟩,h3⟩:=hd
    exact⟨⟨⟨e0,hρ.to _ _ _ (a2p hc) h1,h2⟩,h3⟩,h⟩
   ·exact h.elim
  case any=>exact⟨trivial,h⟩
 |.x e,y,K,v,h,hd=>by
  cases y<;>simp only[vEnt] at h
  case sl=>exact(rEnt_sound (J:=I) (keep:=true) hF hFI (fun _ _ hb=>hb) _ _ _ v h hd).imp_left (Den.mono (Mono.ofNil I η' w) _ _)
  case x e'=>
   cases e<;>cases e'<;>first|exact h.elim|exact⟨hd,h⟩|skip
   ·simp only[cond_eq_ite] at h
    split at h
    ·rename_i hc
     obtain⟨rfl,rfl,rfl,rfl,h⟩:=h
     obtain⟨b,c,h1,h2⟩:=hd
     exact⟨⟨b,c,hρ.to _ _ _ (a2p hc) h1,h2⟩,h⟩
    ·exact h.elim
  case any=>exact⟨trivial,h⟩
 |.yld id,y,K,v,h,hd=>by
  cases y<;>simp only[vEnt] at h
  case yld id'=>
   simp only[cond_eq_ite] at h
   split at h
   ·rename_i hc
    obtain⟨b,c,h1,h2⟩:=hd
    exact⟨⟨b,c,hρ.to _ _ _ (a2p hc) h1,h2⟩,h⟩
   ·exact h.elim
  case any=>exact⟨trivial,h⟩
 |.imap ks ka va dom val n,y,K,v,h,hd=>by
  cases y<;>simp only[vEnt] at h
  case imap=>obtain⟨rfl,rfl,rfl,rfl,rfl,rfl,h⟩:=h;exact⟨hd,h⟩
  case any=>exact⟨trivial,h⟩
 |.any,y,K,v,h,hd=>by
  cases y<;>simp only[vEnt] at h
  case any=>exact⟨trivial,h⟩
termination_by x=>SizeOf.sizeOf x
theorem vEntL_sound (hρ:Ren ρ η η') (hF:Objs I η w F) (hFI:∀b,own η F b→I b):∀(l m:List V) (K:Prop) (vs:List Value),vEntL ρ F l m K→DenL I η w l vs→DenL I η' w m vs∧K
 |[],m,K,vs,h,hd=>by
  cases m<;>simp only[vEntL] at h
  exact⟨hd,h⟩
 |x :: l,m,K,vs,h,hd=>by
  cases m with
  |nil=>simp only[vEntL] at h
  |cons y m=>
   simp only[vEntL] at h
   obtain⟨v,r,rfl,h1,h2⟩:=hd
   obtain⟨g1,g2⟩:=vEnt_sound hρ hF hFI x y _ v h h1
   obtain⟨g3,g4⟩:=vEntL_sound hρ hF hFI l m _ r g2 h2
   exact⟨⟨v,r,rfl,g1,g3⟩,g4⟩
termination_by l=>SizeOf.sizeOf l
end
theorem isGone_live {o:O} (h:o.live):o.isGone=false:=by cases o<;>first|rfl|exact h.elim
theorem noSome_spec {j:Nat}:∀{l:List (Option Nat)} {H:List O},noSome j l H=true→∀(k:Nat) (o:O),l[k]? = some (some j)→H[k]? = some o→¬o.live
 |[],_,_,k,_,h,_=>by simp at h
 |some i :: l,[],h,_,_,_,_=>by simp[noSome] at h
 |none :: l,[],h,_,_,_,_=>by simp[noSome] at h
 |some i :: l,x :: H,h,k,o,hk,ho=>by
  simp only[noSome,a0D,a3W,a3P] at h
  cases k with
  |zero=>
   simp at hk ho
   subst hk ho
   intro hl
   rcases h.1 with h1|h1
   ·rw[isGone_live hl] at h1;cases h1
   ·simp at h1
  |succ k=>exact noSome_spec h.2 k o (by simpa using hk) (by simpa using ho)
 |none :: l,x :: H,h,k,o,hk,ho=>by
  cases k with
  |zero=>simp at hk
  |succ k=>simp only[noSome] at h;exact noSome_spec h k o (by simpa using hk) (by simpa using ho)
theorem distinct_spec:∀{l:List (Option Nat)} {H:List O},distinct l H=true→∀(i k j:Nat) (o o':O),l[i]? = some (some j)→l[k]? = some (some j)→H[i]? = some o→H[k]? = some o'→o.live→o'.live→i=k
 |[],_,_,i,_,_,_,_,h,_,_,_,_,_=>by simp at h
 |some a :: l,[],h,_,_,_,_,_,_,_,_,_,_,_=>by simp[distinct] at h
 |none :: l,[],h,_,_,_,_,_,_,_,_,_,_,_=>by simp[distinct] at h
 |some a :: l,x :: H,h,i,k,j,o,o',hi,hk,ho,ho',hl,hl'=>by
  simp only[distinct,a0D,a3W] at h
  cases i with
  |zero=>
   simp at hi ho
   subst hi ho
   cases k with
   |zero=>rfl
   |succ k=>
    rcases h.1 with h1|h1
    ·rw[isGone_live hl] at h1;cases h1
    ·exact(noSome_spec h1 k o' (by simpa using hk) (by simpa using ho') hl').elim
  |succ i=>
   cases k with
   |zero=>
    simp at hk ho'
    subst hk ho'
    rcases h.1 with h1|h1
    ·rw[isGone_live hl'] at h1;cases h1
    ·exact(noSome_spec h1 i o (by simpa using hi) (by simpa using ho) hl).elim
   |succ k=>rw[distinct_spec h.2 i k j o o' (by simpa using hi) (by simpa using hk) (by simpa using ho) (by simpa using ho') hl hl']
 |none :: l,x :: H,h,i,k,j,o,o',hi,hk,ho,ho',hl,hl'=>by
  cases i with
  |zero=>simp at hi
  |succ i=>
   cases k with
   |zero=>simp at hk
   |succ k=>simp only[distinct] at h;rw[distinct_spec h i k j o o' (by simpa using hi) (by simpa using hk) (by simpa using ho) (by simpa using ho') hl hl']
theorem fixed_spec:∀(B i:Nat) (l:List (Option Nat)),fixed B i l=true→∀k,k<B→l[k]? = some (some (i+k))
 |0,_,_,_,k,hk=>by omega
 |B+1,i,[],h,_,_=>by simp[fixed] at h
 |B+1,i,none :: l,h,_,_=>by simp[fixed] at h
 |B+1,i,some j :: l,h,k,hk=>by
  simp only[fixed,a0D] at h
  cases k with
  |zero=>simp[a0f h.1]
  |succ k=>
   have:=fixed_spec B (i+1) l h.2 k (by omega)
   simp only[List.getElem?_cons_succ]
   rw[this]
   congr 2
   omega
theorem nzK_spec {nz nz':Bool} {n:Nat} {K:Prop} (h:nzK nz nz' n K):((nz=true∧n=0)↔(nz'=true∧n=0))∧K:=by
 cases nz<;>cases nz'<;>simp only[nzK] at h
 ·exact⟨a2W,h⟩
 ·exact⟨⟨fun g=>by omega,fun g=>by omega⟩,h.2⟩
 ·exact⟨⟨fun g=>by omega,fun g=>by omega⟩,h.2⟩
 ·exact⟨a2W,h⟩
theorem oEnt_sound (hρ:Ren ρ η η') (hF:Objs I η w F) (hFI:∀b,own η F b→I b) {o o':O} {K:Prop} (h:oEnt ρ F o o' K) (e:Option Nat×Nat) (ho:SatO I η w e o):(SatO I η' w e o')∧K∧(∀b,o'.has e b→o.has e b):=by
 cases o' with
 |gone=>cases o<;>simp only[oEnt] at h<;>exact⟨trivial,h,fun b hl=>(O.has_live hl).elim⟩
 |cells ty' vs'=>
  cases o<;>simp only[oEnt] at h
  rename_i ty vs
  simp only[cond_eq_ite] at h
  split at h
  ·rename_i hc
   obtain rfl:=a0f hc
   obtain⟨b,c,rfl,xs,h1,h2,h3⟩:=ho
   obtain⟨g1,g2⟩:=vEntL_sound hρ hF hFI vs vs' _ xs h h3
   exact⟨⟨b,c,rfl,xs,h1,h2,g1⟩,g2,fun b hb=>hb.elim (fun g=>.inl ⟨trivial,g.2⟩) (fun g=>g.elim)⟩
  ·exact h.elim
 |row ty' sz' n' f' nz'=>
  cases o<;>simp only[oEnt] at h
  rename_i ty sz n f nz
  simp only[cond_eq_ite,a0D] at h
  split at h
  ·rename_i hc
   obtain⟨hc1,hc2⟩:=hc
   obtain rfl:=a0f hc1
   obtain rfl:=a0f hc2
   obtain⟨rfl,hf,h⟩:=h
   obtain⟨xs,h1,h2,h3,h4⟩:=ho
   obtain⟨h5,h⟩:=nzK_spec h
   exact⟨⟨xs,h1,h2,h3.trans h5,fun i hi=>by rw[←hf i hi];exact h4 i hi⟩,h,fun b hb=>hb.elim (fun g=>.inl ⟨trivial,g.2⟩) (fun g=>g.elim)⟩
  ·exact h.elim
 |map ks' ka' va' dom' val' n' g'=>
  cases o<;>simp only[oEnt] at h
  rename_i ks ka va dom val n g
  obtain⟨rfl,rfl,rfl,rfl,hall,rfl,h⟩:=h
  obtain⟨b,c,rfl,es,h1,h2⟩:=ho
  exact⟨⟨b,c,rfl,es,h1,h2.turn (fun k hk=>(a1p hall k hk).1) (fun k vs hkl hkd hD=>by rw[←(a1p hall k hkl).2 hkd];exact hD)⟩,h,fun b hb=>hb.elim (fun g=>.inl ⟨trivial,g.2⟩) (fun g=>g.elim)⟩
 |mapx ks' ka' va' dom' val'=>
  cases o<;>simp only[oEnt] at h
  rename_i ks ka va dom val n g
  obtain⟨rfl,rfl,rfl,hall,h⟩:=h
  obtain⟨b,c,rfl,es,h1,h2⟩:=ho
  exact⟨⟨n,g,b,c,rfl,es,h1,h2.turn (fun k hk=>(a1p hall k hk).1) (fun k vs hkl hkd hD=>by rw[←(a1p hall k hkl).2 hkd];exact hD)⟩,h,fun b hb=>hb.elim (fun g=>.inl ⟨trivial,g.2⟩) (fun g=>g.elim)⟩
 |iter mid' g' dom' done'=>
  cases o<;>simp only[oEnt] at h
  rename_i mid g dom done
  simp only[cond_eq_ite] at h
  split at h
  ·rename_i hc
   obtain⟨rfl,rfl,rfl,h⟩:=h
   obtain⟨b,c,mb,c',rfl,h1,h2⟩:=ho
   exact⟨⟨b,c,mb,c',rfl,hρ.to _ _ _ (a2p hc) h1,h2⟩,h,fun b hb=>hb.elim (fun g=>.inl ⟨trivial,g.2⟩) (fun g=>g.elim)⟩
  ·exact h.elim
 |loop T' ps' a' b' st'=>
  cases o<;>simp only[oEnt] at h
  rename_i T ps a b st
  obtain⟨rfl,rfl,rfl,rfl,h⟩:=h
  obtain⟨b',c,fn,tmps,D,rfl,h1,h2⟩:=ho
  obtain⟨g1,g2⟩:=vEntL_sound hρ hF hFI T T' _ _ h h2
  exact⟨⟨b',c,fn,tmps,D,rfl,h1,g1⟩,g2,fun b hb=>hb.elim (fun g=>.inl ⟨trivial,g.2⟩) (fun g=>g.elim)⟩
 |grid ty' ety' esz' n' m' f' β' hole' nz'=>
  cases o<;>simp only[oEnt] at h
  case row ty sz n f nz=>
   simp only[cond_eq_ite,a0D] at h
   split at h
   ·rename_i hc
    obtain⟨⟨hc1,hc2⟩,hc3⟩:=hc
    obtain rfl:=a0f hc1
    obtain rfl:=a0f hc2
    have hc3:nz=nz':=by simpa using hc3
    subst hc3
    obtain⟨rfl,rfl,hf,h⟩:=h
    obtain⟨xs,h1,h2,h3,h4⟩:=ho
    refine⟨⟨⟨xs,h1,h2,h3,fun i hi _=>?_⟩,fun i hi _=>?_,fun i i' b hi _ _ _ hb _=>?_,fun i b hi _ hb=>?_⟩,h,fun b hb=>?_⟩
    ·have:=h4 i hi
     rw[(hf i hi).1] at this
     obtain⟨v,r,e1,e2,_⟩:=this
     have e2:v=.slice none 0 0:=e2
     rw[(hf i hi).2.1,(hf i hi).2.2]
     have:((xs.drop (i*1)).take 1)[0]? = some v:=by rw[e1];rfl
     rw[a1C,a0R] at this
     simp only[Nat.mul_one,Nat.zero_lt_one,if_true,a2O] at this
     rw[this,e2]
     rfl
    ·rw[(hf i hi).2.1,(hf i hi).2.2]
     exact⟨fun _=>⟨rfl,rfl⟩,[],⟨by simp,.inl ⟨rfl,rfl⟩⟩,by simp,fun j hj=>by omega⟩
    ·rw[(hf i hi).2.2] at hb;cases hb
    ·rw[(hf i hi).2.2] at hb;cases hb
    ·rcases hb with g|⟨i,hi,_,hb⟩
     ·exact .inl ⟨trivial,g.2⟩
     ·rw[(hf i hi).2.2] at hb;cases hb
   ·exact h.elim
  case grid ty ety esz n m f β hole nz=>
   simp only[cond_eq_ite,a0D] at h
   split at h
   ·rename_i hc
    obtain⟨⟨⟨hc1,hc2⟩,hc3⟩,hc4⟩:=hc
    obtain rfl:=a0f hc1
    obtain rfl:=a0f hc2
    obtain rfl:=a0f hc3
    have hc4:nz=nz':=by simpa using hc4
    subst hc4
    obtain⟨rfl,rfl,rfl,hf,h⟩:=h
    obtain⟨⟨xs,h1,h2,h3,h4⟩,h5,h6,h7⟩:=ho
    refine⟨⟨⟨xs,h1,h2,h3,fun i hi hh=>?_⟩,fun i hi hh=>?_,fun i i' b hi hi' hh hh' hb hb'=>?_,fun i b hi hh hb=>?_⟩,h,fun b hb=>?_⟩
    ·rw[←(hf i hi).1,←(hf i hi).2.1];exact h4 i hi hh
    ·obtain⟨g0,ys,g1,g2,g3⟩:=h5 i hi hh
     rw[←(hf i hi).1,←(hf i hi).2.1]
     exact⟨g0,ys,g1,g2,fun j hj=>by rw[←(hf i hi).2.2 j hj];exact g3 j hj⟩
    ·rw[←(hf i hi).2.1] at hb
     rw[←(hf i' hi').2.1] at hb'
     exact h6 i i' b hi hi' hh hh' hb hb'
    ·rw[←(hf i hi).2.1] at hb
     exact h7 i b hi hh hb
    ·rcases hb with g|⟨i,hi,hh,hb⟩
     ·exact .inl ⟨trivial,g.2⟩
     ·rw[←(hf i hi).2.1] at hb
      exact .inr ⟨i,hi,hh,hb⟩
   ·exact h.elim
theorem hEnt_sound (hρ:Ren ρ η η') (hF:Objs I η w F) (hFI:∀b,own η F b→I b) {H:List O} (hlen:η.length=H.length) (hobj:Objs I η w H):∀(r:List (Option Nat)) (l:List O) (K:Prop),hEnt ρ F H r l K→r.length=l.length∧K∧
  ∀(k:Nat) (o':O),l[k]? = some o'→(∀(id:Nat),r[k]? = some (some id)→(∀e b,o'.has e b→(η[id]? = some e∨η[id]? = none)→η[id]? = some e∧∃o,H[id]? = some o∧o.has e b)∧(∀e,η[id]? = some e→SatO I η' w e o')∧(H[id]? = none→o'=.gone))∧(r[k]? = some none→SatO I η' w (none,0) o'∧∀b,¬o'.has (none,0) b)
 |[],[],K,h=>⟨rfl,h,fun k o' hk=>by simp at hk⟩
 |[],_ :: _,K,h=>by simp only[hEnt] at h
 |some id :: r,[],K,h=>by simp only[hEnt] at h
 |none :: r,[],K,h=>by simp only[hEnt] at h
 |some id :: r,o' :: l,K,h=>by
  simp only[hEnt] at h
  have hk:hEnt ρ F H r l K:=by
   cases hid:η[id]? with
   |some e=>
    have:id<H.length:=by rw[←hlen];exact(a0B.1 hid).1
    have hH:H[id]? = some (get .gone H id):=by rw[a0z];simp[this]
    exact(oEnt_sound hρ hF hFI h e (hobj id e _ hid hH)).2.1
   |none=>
    have:¬id<H.length:=by rw[←hlen];intro hl;rw[a0C hl] at hid;cases hid
    have hg:get .gone H id=.gone:=by rw[a0z];simp[a0V (a2U this)]
    rw[hg] at h
    cases o'<;>simp only[oEnt] at h
    exact h
  obtain⟨h1,h2,h3⟩:=hEnt_sound hρ hF hFI hlen hobj r l K hk
  refine⟨by simp[h1],h2,fun k o'' hk'=>?_⟩
  cases k with
  |succ k=>simpa using h3 k o'' (by simpa using hk')
  |zero=>
   simp at hk'
   subst hk'
   refine⟨fun id' hid'=>?_,fun hid'=>by simp at hid'⟩
   simp at hid'
   subst hid'
   refine⟨fun e b hl he=>?_,fun e he=>?_,fun hid=>?_⟩
   ·cases hid:H[id]? with
    |some o=>
     have hlt:id<η.length:=by rw[hlen];exact(a0B.1 hid).1
     have hgo:get .gone H id=o:=by rw[a0z,hid];rfl
     rw[hgo] at h
     have he:η[id]? = some e:=he.resolve_right (by simp[hlt])
     exact⟨he,o,rfl,(oEnt_sound hρ hF hFI h e (hobj id _ o he hid)).2.2 b hl⟩
    |none=>
     have hg:get .gone H id=.gone:=by rw[a0z,hid];rfl
     rw[hg] at h
     cases o'<;>simp only[oEnt] at h
     exact(O.has_live hl).elim
   ·have hlt:id<H.length:=by rw[←hlen];exact(a0B.1 he).1
    have hH:H[id]? = some (get .gone H id):=by rw[a0z];simp[hlt]
    exact(oEnt_sound hρ hF hFI h e (hobj id e _ he hH)).1
   ·have hg:get .gone H id=.gone:=by rw[a0z,hid];rfl
    rw[hg] at h
    cases o'<;>simp only[oEnt] at h
    rfl
 |none :: r,o' :: l,K,h=>by
  simp only[hEnt] at h
  have hk:hEnt ρ F H r l K∧SatO I η' w (none,0) o'∧∀b,¬o'.has (none,0) b:=by
   cases o'<;>simp only[oNew] at h
   ·obtain⟨rfl,rfl,h⟩:=h
    refine⟨h,⟨[],⟨by simp,.inl ⟨rfl,rfl⟩⟩,by simp,by simp,fun i hi=>by omega⟩,fun b hb=>?_⟩
    rcases hb with⟨_,hb⟩|hb
    ·cases hb
    ·exact hb
   ·exact⟨h,trivial,fun b hb=>(O.has_live hb).elim⟩
   ·obtain⟨rfl,rfl,rfl,h⟩:=h
    refine⟨h,⟨⟨[],⟨by simp,.inl ⟨rfl,rfl⟩⟩,by simp,by simp,fun i hi=>by omega⟩,fun i hi=>by omega,fun i i' b hi=>by omega,fun i b hi=>by omega⟩,fun b hb=>?_⟩
    rcases hb with⟨_,hb⟩|⟨i,hi,_⟩
    ·cases hb
    ·omega
  obtain⟨h1,h2,h3⟩:=hEnt_sound hρ hF hFI hlen hobj r l K hk.1
  refine⟨by simp[h1],h2,fun k o'' hk'=>?_⟩
  cases k with
  |succ k=>simpa using h3 k o'' (by simpa using hk')
  |zero=>
   simp at hk'
   subst hk'
   exact⟨fun id' hid'=>by simp at hid',fun _=>hk.2⟩
def a1s (η:Eta) (ρ:List (Option Nat)):Eta:=ρ.map fun
 |some id=>(η[id]?).getD (none,0)
 |none=>(none,0)
theorem ren_renEta (η:Eta) (ρ:List (Option Nat)):Ren (some ρ) η (a1s η ρ):=by
 constructor
 ·intro id' id e h1 h2
  simp only[rn] at h1
  rw[a0z] at h1
  have:ρ[id']? = some (some id):=by
   cases hx:ρ[id']? with
   |none=>rw[hx] at h1;simp at h1
   |some y=>rw[hx] at h1;simp at h1;rw[h1]
  simp[a1s,this,h2]
 ·intro id' h1 h2
  simp only[rnLt] at h2
  have h2:=a0P h2
  rw[a1j] at h2
  have h2:id'<ρ.length:=h2
  simp only[rn] at h1
  rw[a0z] at h1
  have:ρ[id']? = some none:=by
   rw[a0C h2] at h1 ⊢
   simp at h1
   rw[h1]
  simp[a1s,this]
theorem denL_of:∀(T:List V) (l:List Value),T.length=l.length→(∀i,Den I η w (get .any T i) ((l[i]?).getD undef))→DenL I η w T l
 |[],l,hl,_=>by have:l=[]:=a1R hl.symm;subst this;rfl
 |x :: T,[],hl,_=>by simp at hl
 |x :: T,v :: l,hl,h=>⟨v,l,rfl,by simpa [get] using h 0,denL_of T l (by simpa using hl) (fun i=>by simpa [get] using h (i+1))⟩
theorem SatT.list {T:List V} {tmps:Array Value} (h:SatT I η w T tmps):DenL I η w T tmps.toList:=by
 refine denL_of T tmps.toList (by simpa using h.1) (fun i=>?_)
 have:=h.2 i
 rw[a1W] at this
 simpa using this
theorem SatT.ofList {T:List V} {tmps:Array Value} (h:DenL I η w T tmps.toList):SatT I η w T tmps:=by
 refine⟨by have:=h.length;simpa using this.symm,fun i=>?_⟩
 rw[a0z]
 cases hi:T[i]? with
 |none=>simp[Den]
 |some c=>
  obtain⟨v,h1,h2⟩:=h.getElem? i c hi
  have:tmps.getD i undef=v:=by
   rw[a1W,←a3T,h1];rfl
  rw[this]
  exact h2
theorem goneAt_get:∀(l:List Nat) (H:List O) (id:Nat) (o:O),(goneAt l H)[id]? = some o→o.live→id∉l∧H[id]? = some o
 |[],_,_,_,h,_=>⟨by simp,h⟩
 |i :: l,H,id,o,h,hl=>by
  obtain⟨h1,h2⟩:=goneAt_get l _ id o h hl
  rw[a0v,a0G] at h2
  by_cases hi:i=id
  ·rw[if_pos hi] at h2
   split at h2
   ·cases h2;exact hl.elim
   ·cases h2
  ·rw[if_neg hi] at h2
   exact⟨by simp[h1,Ne.symm hi],h2⟩
theorem namesOf_mem {id:Nat}:∀{l:List (Option Nat)} {H:List O} {k:Nat} {o:O},l[k]? = some (some id)→H[k]? = some o→o.live→id∈namesOf l H
 |[],_,_,_,h,_,_=>by simp at h
 |_ :: _,[],_,_,_,h,_=>by simp at h
 |some i :: l,x :: H,k,o,h,ho,hl=>by
  cases k with
  |zero=>
   simp at h ho
   subst h ho
   simp[namesOf,isGone_live hl]
  |succ k=>
   have:=namesOf_mem (l:=l) (H:=H) (k:=k) (by simpa using h) (by simpa using ho) hl
   simp only[namesOf]
   cases x.isGone<;>simp[this]
 |none :: l,x :: H,k,o,h,ho,hl=>by
  cases k with
  |zero=>simp at h
  |succ k=>
   simp only[namesOf]
   exact namesOf_mem (l:=l) (H:=H) (k:=k) (by simpa using h) (by simpa using ho) hl
theorem Ent_sound {B:Nat} {T T':List V} {H H':List O} {a:Act} (h:Ent B ρ T H T' H') (hg:Good I η w T H a):∃I' η',Good I' η' w T' H' a∧StepB B I (own η H) w I' (own η' H') w:=by
 cases ρ with
 |none=>
  simp only[Ent] at h
  have hρ:Ren none η η:=⟨fun id' id e h1 h2=>by simp only[rn,a1H] at h1;subst h1;exact h2,fun id' h1=>by simp[rn] at h1⟩
  obtain⟨hT,rfl⟩:=vEntL_sound (F:=[]) hρ (fun id e o _ ho=>by simp at ho) (fun b ⟨id,c,o,_,ho,_⟩=>by simp at ho) T T' _ _ h hg.tmp.list
  exact⟨I,η,⟨hg.sat,SatT.ofList hT⟩,(Step.refl _ _ _).toB⟩
 |some ρ=>
 simp only[Ent,cond_eq_ite,a0D] at h
 split at h
 ·rename_i hdis
  obtain⟨hfix,hdis⟩:=hdis
  have hfix:=fixed_spec _ _ _ hfix
  have hρ:=ren_renEta η ρ
  let F:=goneAt (namesOf ρ H') H
  let J:Nat→Prop:=fun b=>I b∨own η F b
  have hFo:∀b,own η F b→own η H b:=by
   rintro b ⟨id,c,o,g1,g2,g3⟩
   exact⟨id,c,o,g1,(goneAt_get _ _ _ _ g2 (O.has_live g3)).2,g3⟩
  have mJ:Mono I η w J η w:=⟨fun _ _ he _=>he,fun _ hb=>.inl hb,fun _ _=>rfl⟩
  have hobj:Objs J η w H:=fun id e o he ho=>(hg.sat.obj id e o he ho).mono mJ (fun _ _=>rfl)
  have hF:Objs J η w F:=fun id e o he ho=>by
   by_cases hl:o.live
   ·exact hobj id e o he (goneAt_get _ _ _ _ ho hl).2
   ·cases o<;>first|exact(hl trivial).elim|trivial
  have hFI:∀b,own η F b→J b:=fun b hb=>.inr hb
  obtain⟨hT,hH⟩:=vEntL_sound hρ hF hFI T T' _ _ h (DenL.mono mJ _ _ hg.tmp.list)
  obtain⟨h1,_,h3⟩:=hEnt_sound hρ hF hFI hg.sat.len hobj ρ H' _ hH
  have hlen:(a1s η ρ).length=H'.length:=by simp[a1s,h1]
  -- what stands behind an entry of the new state
  have back:∀(id' b:Nat) (e:Option Nat×Nat) (o':O),(a1s η ρ)[id']? = some e→H'[id']? = some o'→o'.has e b→∃id o,ρ[id']? = some (some id)∧η[id]? = some e∧H[id]? = some o∧o.has e b:=by
   intro id' b e o' hb ho' hh
   simp only[a1s,a1O,Option.map_eq_some_iff] at hb
   obtain⟨x,hx,hb⟩:=hb
   cases x with
   |none=>
    simp at hb
    subst hb
    exact(((h3 id' o' ho').2 hx).2 b hh).elim
   |some id=>
    simp only at hb
    have he:η[id]? = some e∨η[id]? = none:=by
     cases he:η[id]? with
     |none=>exact .inr rfl
     |some e'=>rw[he] at hb;simp at hb;rw[hb];exact .inl rfl
    obtain⟨k0,o,k1,k2⟩:=((h3 id' o' ho').1 id hx).1 e b hh he
    exact⟨id,o,hx,k0,k1,k2⟩
  have hown:∀b,own (a1s η ρ) H' b→own η H b:=by
   rintro b ⟨id',e,o',g1,g2,g3⟩
   obtain⟨id,o,_,k2,k3,k4⟩:=back id' b e o' g1 g2 g3
   exact⟨id,e,o,k2,k3,k4⟩
  have hnotF:∀b,own (a1s η ρ) H' b→¬own η F b:=by
   rintro b ⟨id',e,o',g1,g2,g3⟩ ⟨id2,e2,o2,q1,q2,q3⟩
   obtain⟨id,o,k1,k2,k3,k4⟩:=back id' b e o' g1 g2 g3
   obtain⟨q4,q5⟩:=goneAt_get _ _ _ _ q2 (O.has_live q3)
   have:=hg.sat.apart id id2 b e e2 o o2 k2 q1 k3 q5 k4 q3
   subst this
   exact q4 (namesOf_mem k1 g2 (O.has_live g3))
  refine⟨J,a1s η ρ,⟨⟨hlen,?_,?_,fun b hb hJ=>hJ.elim (hg.sat.notI b (hown b hb)) (hnotF b hb),fun b hb=>hg.sat.lt b (hown b hb),fun b hb=>hb.elim (hg.sat.ilt b) (fun h=>hg.sat.lt b (hFo b h))⟩,SatT.ofList hT⟩,
   ⟨rfl,rfl,rfl,a0K _,fun _ _ _=>rfl,fun _ hb=>.inl hb,fun _ hb=>hb.elim .inl (fun h=>.inr (.inl (hFo _ h))),fun b hb=>.inl (hown b hb),fun id e hB he _=>by
    have:=hfix id hB
    rw[a3B] at this
    have he:η[id]? = some e:=he
    show(a1s η ρ)[id]? = some e
    simp[a1s,this,he]⟩⟩
  ·intro id' e o' g1 g2
   obtain⟨k1,k2⟩:=h3 id' o' g2
   simp only[a1s,a1O,Option.map_eq_some_iff] at g1
   obtain⟨x,hx,g1⟩:=g1
   cases x with
   |none=>simp at g1;subst g1;exact(k2 hx).1
   |some id=>
    simp only at g1
    cases he:η[id]? with
    |some e'=>
     rw[he] at g1
     simp at g1
     subst g1
     exact(k1 id hx).2.1 e' he
    |none=>
     rw[he] at g1
     simp at g1
     subst g1
     have hHn:H[id]? = none:=by rw[List.getElem?_eq_none_iff,←hg.sat.len,←List.getElem?_eq_none_iff];exact he
     rw[(k1 id hx).2.2 hHn]
     trivial
  ·intro j j' b c c' o o' g1 g2 g3 g4 l1 l2
   obtain⟨id,o1,k1,k2,m1,m2⟩:=back j b c o g1 g3 l1
   obtain⟨id2,o2,k3,k4,m3,m4⟩:=back j' b c' o' g2 g4 l2
   have:=hg.sat.apart id id2 b c c' o1 o2 k2 k4 m1 m3 m2 m4
   subst this
   exact distinct_spec hdis j j' id o o' k1 k3 g3 g4 (O.has_live l1) (O.has_live l2)
 ·exact h.elim
end
end Go.Sx
namespace Go.Sx
open Go
variable {P:Program} {E:Env}
/-! ### a reserved id is filled -/
theorem Sat.fill {I:Nat→Prop} {η:Eta} {w:World} {H:List O} (h:Sat I η w H) {id:Nat} (hη:η[id]? = some (none,1)) (hH:H[id]? = some .gone) (ob:Obj) (o:O) (c:Nat)
  (ho:Mono I η w I (η.set id (some w.heap.size,c)) (w.alloc ob)→SatO I (η.set id (some w.heap.size,c)) (w.alloc ob) (some w.heap.size,c) o) (hin:∀b,¬o.inner b:=by exact fun _ h=>h) :
  Sat I (η.set id (some w.heap.size,c)) (w.alloc ob) (H.set id o)∧Mono I η w I (η.set id (some w.heap.size,c)) (w.alloc ob)∧
   Step I (own η H) w I (own (η.set id (some w.heap.size,c)) (H.set id o)) (w.alloc ob):=by
 have hblk:∀b,b<w.heap.size→(w.alloc ob).heap[b]? = w.heap[b]?:=by
  intro b hb
  rw[World.alloc_heap,a3E]
  have:b≠w.heap.size:=by omega
  simp[this]
 have hidη:=(a0B.1 hη).1
 have hidH:=(a0B.1 hH).1
 have m:Mono I η w I (η.set id (some w.heap.size,c)) (w.alloc ob):=
  ⟨fun j e he hn=>by
   rw[a0G]
   by_cases hj:id=j
   ·subst hj;rw[hη] at he;exact(hn (a1Z he).symm).elim
   ·rw[if_neg hj];exact he,fun _ hb=>hb,fun b hb=>hblk b (h.ilt b hb)⟩
 have split:∀(j:Nat) (ee:Option Nat×Nat) (oo:O),(η.set id (some w.heap.size,c))[j]? = some ee→(H.set id o)[j]? = some oo→(j≠id∧η[j]? = some ee∧H[j]? = some oo)∨(j=id∧ee=(some w.heap.size,c)∧oo=o):=by
  intro j ee oo h1 h2
  rw[a0G] at h1 h2
  by_cases hj:id=j
  ·subst hj
   rw[if_pos rfl,if_pos hidη] at h1
   rw[if_pos rfl,if_pos hidH] at h2
   exact .inr ⟨rfl,(a1Z h1).symm,(a1Z h2).symm⟩
  ·rw[if_neg hj] at h1 h2
   exact .inl ⟨fun e=>hj e.symm,h1,h2⟩
 have hnew:∀b,o.has (some w.heap.size,c) b→b=w.heap.size:=by
  rintro b (⟨_,g⟩|g)
  ·exact(a1Z g).symm
  ·exact(hin b g).elim
 have hown:∀b,own (η.set id (some w.heap.size,c)) (H.set id o) b→own η H b∨b=w.heap.size:=by
  rintro b ⟨j,c',o',h1,h2,h3⟩
  rcases split j _ o' h1 h2 with⟨_,g1,g2⟩|⟨_,rfl,rfl⟩
  ·exact .inl ⟨j,c',o',g1,g2,h3⟩
  ·exact .inr (hnew b h3)
 refine⟨⟨by simp[h.len],?_,?_,?_,?_,?_⟩,m,⟨rfl,rfl,rfl,by simp,fun b hb _=>hblk b hb,fun _ hb=>hb,fun _ hb=>.inl hb,?_,m.eta⟩⟩
 ·intro j e o' he ho'
  rcases split j e o' he ho' with⟨_,g1,g2⟩|⟨rfl,rfl,rfl⟩
  ·refine(h.obj j e o' g1 g2).mono m ?_
   intro b hb
   exact hblk b (h.lt b ⟨j,_,o',g1,g2,hb⟩)
  ·exact ho m
 ·intro j j' b c1 c2 o1 o2 h1 h2 h3 h4 l1 l2
  rcases split j _ o1 h1 h3 with⟨g0,g1,g2⟩|⟨rfl,rfl,rfl⟩<;>rcases split j' _ o2 h2 h4 with⟨k0,k1,k2⟩|⟨rfl,rfl,rfl⟩
  ·exact h.apart j j' b c1 c2 o1 o2 g1 k1 g2 k2 l1 l2
  ·exfalso
   have:=h.lt b ⟨j,c1,o1,g1,g2,l1⟩
   have:=hnew b l2
   omega
  ·exfalso
   have:=h.lt b ⟨j',c2,o2,k1,k2,l2⟩
   have:=hnew b l1
   omega
  ·rfl
 ·intro b hb hI
  rcases hown b hb with h1|rfl
  ·exact h.notI b h1 hI
  ·have:=h.ilt _ hI;omega
 ·intro b hb
  simp only[World.size_alloc]
  rcases hown b hb with h1|rfl
  ·have:=h.lt b h1;omega
  ·omega
 ·intro b hb
  simp only[World.size_alloc]
  have:=h.ilt b hb;omega
 ·intro b hb
  rcases hown b hb with h1|rfl
  ·exact .inl h1
  ·exact .inr (a0K _)
theorem Sat.reserve {I:Nat→Prop} {η:Eta} {w:World} {H:List O} (h:Sat I η w H) (k:Nat) :
  Sat I (η++List.replicate k (none,1)) w (H++List.replicate k .gone)∧Mono I η w I (η++List.replicate k (none,1)) w∧(∀b,own (η++List.replicate k (none,1)) (H++List.replicate k .gone) b↔own η H b):=by
 have m:Mono I η w I (η++List.replicate k (none,1)) w:=⟨fun id e he _=>by rw[a0F (a0B.1 he).1];exact he,fun _ hb=>hb,fun _ _=>rfl⟩
 have split:∀(j:Nat) (oo:O),(H++List.replicate k .gone)[j]? = some oo→oo.live→j<H.length∧H[j]? = some oo:=by
  intro j oo h2 hl
  by_cases hj:j<H.length
  ·rw[a0F hj] at h2;exact⟨hj,h2⟩
  ·rw[a0S (by omega),List.getElem?_replicate] at h2
   split at h2
   ·cases h2;exact hl.elim
   ·cases h2
 have hown:∀b,own (η++List.replicate k (none,1)) (H++List.replicate k .gone) b↔own η H b:=by
  intro b
  constructor
  ·rintro⟨j,c',o',h1,h2,h3⟩
   obtain⟨hj,g⟩:=split j o' h2 (O.has_live h3)
   rw[a0F (by rw[h.len];exact hj)] at h1
   exact⟨j,c',o',h1,g,h3⟩
  ·rintro⟨j,c',o',h1,h2,h3⟩
   refine⟨j,c',o',?_,?_,h3⟩
   ·rw[a0F (a0B.1 h1).1];exact h1
   ·rw[a0F (a0B.1 h2).1];exact h2
 refine⟨⟨by simp[h.len],?_,?_,fun b hb=>h.notI b ((hown b).1 hb),fun b hb=>h.lt b ((hown b).1 hb),h.ilt⟩,m,hown⟩
 ·intro j e o' he ho'
  by_cases hl:o'.live
  ·obtain⟨hj,g⟩:=split j o' ho' hl
   rw[a0F (by rw[h.len];exact hj)] at he
   exact(h.obj j e o' he g).mono m (fun _ _=>rfl)
  ·cases o'<;>first|exact(hl trivial).elim|trivial
 ·intro j j' b c1 c2 o1 o2 h1 h2 h3 h4 l1 l2
  obtain⟨hj,g⟩:=split j o1 h3 (O.has_live l1)
  obtain⟨hj',g'⟩:=split j' o2 h4 (O.has_live l2)
  rw[a0F (by rw[h.len];exact hj)] at h1
  rw[a0F (by rw[h.len];exact hj')] at h2
  exact h.apart j j' b c1 c2 o1 o2 h1 h2 g g' l1 l2
theorem Good.drew {I:Nat→Prop} {η:Eta} {w:World} {T:List V} {H:List O} {a:Act} (h:Good I η w T H a):Good I η {w with drawn:=w.drawn+1} T H a∧Step I (own η H) w I (own η H) {w with drawn:=w.drawn+1}:=by
 have m:Mono I η w I η {w with drawn:=w.drawn+1}:=⟨fun _ _ he _=>he,fun _ hb=>hb,fun _ _=>rfl⟩
 refine⟨⟨⟨h.sat.len,fun id e o he ho=>(h.sat.obj id e o he ho).mono m (fun _ _=>rfl),h.sat.apart,h.sat.notI,h.sat.lt,h.sat.ilt⟩,h.tmp.mono m⟩,⟨rfl,rfl,rfl,a0K _,fun _ _ _=>rfl,fun _ hb=>hb,fun _ hb=>.inl hb,fun _ hb=>.inl hb,fun _ _ h _=>h⟩⟩
/-! ### what an operation of the first phase does,wherever it comes -/
def OpFact (P:Program) (R:Rel) (ops:Array Oper) (H₀:List O) (o:Oper) (T:List V) (id:Nat) (v:V) (ob:Option O):Prop:=
 ∀(r:Option Nat) (n:Nat) (Q:Exit→Act→World→Prop) (I:Nat→Prop) (η:Eta) (w:World) (a:Act) (T':List V) (H:List O),(∀x∈looks ops.toList o,get .any T' x=get .any T x)→(∀(j:Nat) (o':O),H₀[j]? = some o'→H[j]? = some o')→Good I η w T' H a→
  (ob.isSome=true→η[id]? = some (none,1)∧H[id]? = some .gone)→
  let K:Act→World→Prop:=fun a' w'=>a'.defers=a.defers∧∃I' η',Good I' η' w' (match o.dst with|some d=>set T' d v|none=>T') (match ob with|some b=>H.set id b|none=>H) a'∧
   (∀(j:Nat),j≠id→η'[j]? = η[j]?)∧(ob=none→η'=η)∧R I (own η H) w I' (own η' (match ob with|some b=>H.set id b|none=>H)) w'
  if Region.wanted o (yielded ops a.tmps) then o.wpIn (Fw r) n P a w K Q else K (a.put o.dst undef) w
theorem looks_operand {ops:List Oper} {o:Oper} {T T':List V} (h:∀x∈looks ops o,get .any T' x=get .any T x):∀x∈o.op.operands.toList,ev0 T' x=ev0 T x:=by
 have key:∀(l:List Operand),(∀t∈looks.tmpsOf l,get .any T' t=get .any T t)→∀x∈l,ev0 T' x=ev0 T x:=by
  intro l
  induction l with
  |nil=>intro _ x hx;cases hx
  |cons y l ih=>
   intro hl x hx
   rcases a0Z.1 hx with rfl|hx
   ·cases x with
    |tmp t=>exact hl t (by simp[looks.tmpsOf])
    |_=>rfl
   ·refine ih (fun t ht=>hl t ?_) x hx
    cases y<;>simp[looks.tmpsOf,ht]
 refine key _ (fun t ht=>h t ?_)
 unfold looks
 rw[a2n]
 exact a0U.2 (.inl ht)
theorem looks_guard {ops:List Oper} {o:Oper} {T T':List V} (h:∀x∈looks ops o,get .any T' x=get .any T x):guardV ops T' o=guardV ops T o:=by
 unfold guardV
 cases hg:o.guard with
 |none=>rfl
 |some jw=>
  obtain⟨j,want⟩:=jw
  simp only
  cases hd:guardDst ops j with
  |none=>rfl
  |some g=>
   have:get .any T' g=get .any T g:=h g (by
    unfold looks
    rw[a2n,hg]
    simp[hd])
   simp only[this]
theorem evs_congr {T T':List V}:∀{l:List Operand},(∀x∈l,ev0 T' x=ev0 T x)→evs T' l=evs T l
 |[],_=>rfl
 |x :: l,h=>by
  simp only[evs,ev]
  rw[h x (by simp),evs_congr (fun y hy=>h y (by simp[hy]))]
theorem fillV_congr {T T':List V} {s:TypeId}:∀{l:List (Nat×Operand)} {cs:List V},(∀p∈l,ev0 T' p.2=ev0 T p.2)→fillV E s T' cs l=fillV E s T cs l
 |[],_,_=>rfl
 |(i,x) :: l,cs,h=>by
  have hx:ev T' x=ev T x:=by simp only[ev];rw[h (i,x) (by simp)]
  simp only[fillV,hx]
  split
  ·congr 1
   exact fillV_congr (fun p hp=>h p (by simp[hp]))
  ·rfl
theorem fillA_congr {T T':List V} {sz:Nat}:∀{l:List (Nat×Operand)} {cs:List V},(∀p∈l,ev0 T' p.2=ev0 T p.2)→fillA sz T' cs l=fillA sz T cs l
 |[],_,_=>rfl
 |(i,x) :: l,cs,h=>by
  have hx:ev T' x=ev T x:=by simp only[ev];rw[h (i,x) (by simp)]
  simp only[fillA,hx]
  split
  ·congr 1
   exact fillA_congr (fun p hp=>h p (by simp[hp]))
  ·rfl
theorem rowsOf_congr {T T':List V} {sz:Nat}:∀{l:List (Nat×Operand)} {k:Nat},(∀p∈l,ev0 T' p.2=ev0 T p.2)→rowsOf sz T' k l=rowsOf sz T k l
 |[],_,_=>rfl
 |(i,x) :: l,k,h=>by
  have hx:ev T' x=ev T x:=by simp only[ev];rw[h (i,x) (by simp)]
  simp only[rowsOf,hx]
  rw[rowsOf_congr (fun p hp=>h p (by simp[hp]))]
theorem pureOp_congr {T T':List V} {H:List O} {o:Op} (h:∀x∈o.operands.toList,ev0 T' x=ev0 T x):a1f E T' H o=a1f E T H o:=by
 have he:∀x,x∈o.operands.toList→ev T' x=ev T x:=fun x hx=>by simp only[ev];rw[h x hx]
 cases o<;>simp only[a1f]
 case move x=>rw[h x (by simp[Op.operands])]
 case assign x=>rw[h x (by simp[Op.operands])]
 case pick c a b=>rw[he c (by simp[Op.operands]),h a (by simp[Op.operands]),h b (by simp[Op.operands])]
 case load t a=>rw[he a (by simp[Op.operands])]
 case fieldAddr s x f=>rw[he x (by simp[Op.operands])]
 case field s x f=>rw[he x (by simp[Op.operands])]
 case indexAddr t x i=>rw[he x (by simp[Op.operands]),he i (by simp[Op.operands])]
 case binOp op t x y t'=>rw[he x (by simp[Op.operands]),he y (by simp[Op.operands])]
 case unOp op t x=>rw[he x (by simp[Op.operands])]
 case extract x i=>rw[he x (by simp[Op.operands])]
 case lookup t x i c=>rw[he x (by simp[Op.operands]),he i (by simp[Op.operands])]
 case entry x=>rw[he x (by simp[Op.operands])]
 case makeFunc fn first cap=>
  rw[evs_congr (l:=first.toList) (fun x hx=>h x (by simp[Op.operands];exact .inl (by simpa using hx))),evs_congr (l:=cap.toList) (fun x hx=>h x (by simp[Op.operands];exact .inr (by simpa using hx)))]
 case build t parts=>
  have hf:∀z,fillV E t T' z parts.toList=fillV E t T z parts.toList:=fun z=>fillV_congr (fun p hp=>h p.2 (by simp[Op.operands];exact⟨p.1,by simpa using hp⟩))
  have ha:∀sz z,fillA sz T' z parts.toList=fillA sz T z parts.toList:=fun sz z=>fillA_congr (fun p hp=>h p.2 (by simp[Op.operands];exact⟨p.1,by simpa using hp⟩))
  split
  ·simp only[ha]
  ·simp only[hf]
  ·rfl
 case nilCheck x=>rw[he x (by simp[Op.operands])]
 case convert s d x=>rw[he x (by simp[Op.operands])]
 case index t x i=>rw[he x (by simp[Op.operands]),he i (by simp[Op.operands])]
 case slice t x lo hi mx=>
  have hb:∀(q:Option Operand) (d:Int),(∀y,q=some y→ev T' y=ev T y)→boundV T' d q=boundV T d q:=by
   intro q d hq
   cases q with
   |none=>rfl
   |some y=>simp only[boundV];rw[hq y rfl]
  have hlo:=fun d=>hb lo d (fun y hy=>he y (by simp[Op.operands,hy]))
  have hhi:=fun d=>hb hi d (fun y hy=>he y (by simp[Op.operands,hy]))
  have hx:=he x (by simp[Op.operands])
  cases mx with
  |some m=>
   cases hi with
   |none=>rfl
   |some y=>
    have hy:=he y (by simp[Op.operands])
    have hm:=he m (by simp[Op.operands])
    simp only[hx,hlo,hy,hm]
  |none=>simp only[hx,hlo,hhi]
 case call c=>
  obtain⟨callee,args,argTypes⟩:=c
  cases callee with
  |builtin b=>
   have hev:=evs_congr (T:=T) (T':=T') (l:=args.toList) (fun x hx=>h x (by simp[Op.operands,Call.operands];simpa using hx))
   by_cases hl:b=.len∧(∃x,args=⟨[x]⟩)∧∃t,argTypes=⟨[t]⟩
   ·obtain⟨rfl,⟨x,rfl⟩,t,rfl⟩:=hl
    simp only
    rw[he x (by simp[Op.operands,Call.operands])]
   ·have key:∀T,a1f E T H (.call {callee:=.builtin b,args,argTypes})=builtinV E b argTypes.toList (evs T args.toList):=by
     intro T
     unfold a1f
     split<;>first|rfl|(rename_i heq;cases heq;exact(hl ⟨rfl,⟨_,rfl⟩,_,rfl⟩).elim)|(rename_i heq;cases heq;rfl)|(rename_i heq;cases heq)|skip
     rename_i hno _ _
     exact(hno b args argTypes rfl).elim
    have k1:=key T
    have k2:=key T'
    simp only[a1f] at k1 k2
    rw[k1,k2,hev]
  |_=>rfl
theorem newOp_congr {T T':List V} {id:Nat} {o:Op} {K:V→O→Prop} (h:∀x∈o.operands.toList,ev0 T' x=ev0 T x):newOp E T' id o K=newOp E T id o K:=by
 have he:∀x,x∈o.operands.toList→ev T' x=ev T x:=fun x hx=>by simp only[ev];rw[h x hx]
 cases o<;>simp only[newOp]
 case box t x=>rw[he x (by simp[Op.operands])]
 case makeSlice t l c=>rw[he l (by simp[Op.operands]),he c (by simp[Op.operands])]
 case buildSlice t n parts=>
  have hr:∀sz,rowsOf sz T' 0 parts.toList=rowsOf sz T 0 parts.toList:=fun sz=>rowsOf_congr (fun p hp=>h p.2 (by simp[Op.operands];exact⟨p.1,by simpa using hp⟩))
  simp only[hr]
def NewRun (P:Program) (I:Nat→Prop) (η:Eta) (w:World) (s:Sem Next) (id:Nat) (v:V) (ob:O):Prop:=
 ∃x c real,s.run P w=.ok (.value x) (w.alloc real)∧(∀b,¬ob.inner b)∧∀η₁,Mono I η w I η₁ (w.alloc real)→η₁[id]? = some (some w.heap.size,c)→SatO I η₁ (w.alloc real) (some w.heap.size,c) ob∧Den I η₁ (w.alloc real) v x
theorem newRun_row {I:Nat→Prop} {η:Eta} {w:World} {s:Sem Next} {id:Nat} (ty sz k cap:Nat) (hkc:k≤cap) (hcap:cap≤maxLen) (f:Nat→List V) (cells:List Value)
  (hrun:s.run P w=.ok (.value (.slice (some ⟨w.heap.size,0,none⟩) k cap)) (w.alloc (.cells cells.toArray ty))) (hl:cells.length=cap*sz) (h1:∀u∈cells,u.oneCell'=true)
  (hrow:∀i,i<k→DenL I [] w (f i) ((cells.drop (i*sz)).take sz)):NewRun P I η w s id (.osl id k) (.row ty sz k f false):=by
 refine⟨_,cap,_,hrun,fun _ h=>h,fun η₁ m hη=>⟨?_,⟨(some w.heap.size,cap),hη,fun h=>by simp at h,rfl⟩⟩⟩
 have hkm:k*sz≤cap*sz:=a0H _ hkc
 refine⟨cells.take (k*sz),⟨by rw[List.length_take,hl];omega,.inr ⟨w.heap.size,cap,cells.toArray,rfl,Nat.zero_le _,by rw[World.alloc_heap];simp,hkc,hcap,by simpa using hl,by simp⟩⟩,fun u hu=>h1 u (List.mem_of_mem_take hu),by simp,fun i hi=>?_⟩
 have hlt:(i+1)*sz≤k*sz:=a0H _ hi
 rw[a0W] at hlt
 have e1:((cells.take (k*sz)).drop (i*sz)).take sz=(cells.drop (i*sz)).take sz:=by
  rw[a3I,a2F]
  congr 1
  omega
 rw[e1]
 exact DenL.mono m.nil _ _ (hrow i hi)
theorem newRun_cells {I:Nat→Prop} {η:Eta} {w:World} {s:Sem Next} {id:Nat} (t:TypeId) (zs:List V) (vs:List Value) (hrun:s.run P w=.ok (.value (.pointer (some ⟨w.heap.size,0,none⟩))) (w.alloc (.cells vs.toArray t)))
  (hden:DenL I η w zs vs) (h1:∀u∈vs,u.oneCell'=true):NewRun P I η w s id (.ptr id 0) (.cells t zs):=by
 refine⟨_,0,_,hrun,fun _ h=>h,fun η₁ m hη=>⟨⟨_,_,rfl,vs,by rw[World.alloc_heap];simp,h1,DenL.mono m _ _ hden⟩,⟨_,_,hη,rfl⟩⟩⟩
theorem newOp_sound (hE:a1b E P) {I:Nat→Prop} {η:Eta} {w:World} {T:List V} {a:Act} (hT:SatT I η w T a.tmps) {id:Nat} {o:Oper} {K:V→O→Prop} (h:newOp E T id o.op K) (ht:∀x∈o.op.operands.toList,a2m T x) :
  ∃v ob,K v ob∧NewRun P I η w (execOp a.eval o) id v ob:=by
 unfold newOp at h
 split at h
 ·rename_i t x hop
  split at h
  ·rename_i z hz
   rw[forceL_eq] at h
   have hx:=a0l hT (ht x (by simp[hop,Op.operands]))
   obtain⟨vs,g1,g2,g3⟩:=a2g hz hx
   refine⟨_,_,h,newRun_cells t z vs ?_ g3 g2⟩
   simp[execOp,hop,Instr.box,newVar,newRow,newObj,g1,Sem.run]
  ·exact h.elim
 ·rename_i t hop
  split at h
  ·rename_i z hk hz
   rw[forceL_eq] at h
   obtain⟨i,d,hi,hu,hs,_,_,hz',_⟩:=hE.info hk
   rw[hz'] at hz
   obtain⟨zv,hzv,rfl,hz1,_⟩:=a1d hz
   refine⟨_,_,h,newRun_cells t _ zv.cells.toList ?_ (a2c I η w _) hz1⟩
   simp[execOp,hop,Instr.alloc,zeroValue,typeInfo,hi,hzv,newVar,newRow,newObj,Sem.run]
  ·exact h.elim
 ·rename_i t k parts hop
  split at h
  ·rename_i e he
   obtain⟨hu,i,hinfo,hs,hby,hke,hzz⟩:=a0q hE he
   split at h
   ·rename_i z rows hz hrows
    rw[hzz] at hz
    obtain⟨zv,hzv,_,hz1,hzs⟩:=a1d hz
    rw[←hs] at *
    simp only[cond_eq_ite,a0D] at h
    split at h
    ·rename_i hc
     obtain⟨⟨hc1,hc2⟩,hc3⟩:=hc
     rw[a1j] at hc1
     have hc1:=a0f hc1
     have hc2:=a0P hc2
     have hc3:=a0P hc3
     obtain⟨cells,hrun,hlen,g4,g6⟩:=built_run (P:=P) hT hop hu hinfo hzv hz1 hzs (fun p hp=>ht p.2 (by simp[hop,Op.operands];exact⟨p.1,by simpa using hp⟩)) hrows hc1 hc2 hc3
     have hkm:k≤maxLen:=by
      have:k*1≤k*i.size:=Nat.mul_le_mul_left _ hc2
      simp only[maxLen]
      omega
     rw[natK_eq,forceLL_eq] at h
     match rows,h,hc1,g6 with
     |[c],h,hc1,g6=>
      refine⟨_,_,h,newRun_row e i.size k k (a0K _) hkm (fun _=>c) cells hrun hlen g4 (fun q hq=>?_)⟩
      have hk1:k=1:=by simpa using hc1.symm
      have:q=0:=by omega
      subst this
      simpa using g6 0 c rfl
     |[],h,hc1,g6=>
      exact⟨_,_,h,newRun_row e i.size k k (a0K _) hkm (fun q=>get [] [] q) cells hrun hlen g4 (fun q hq=>by simp at hc1;omega)⟩
     |r1 :: r2 :: rs,h,hc1,g6=>
      refine⟨_,_,h,newRun_row e i.size k k (a0K _) hkm (fun q=>get [] (r1 :: r2 :: rs) q) cells hrun hlen g4 (fun q hq=>?_)⟩
      have hq':q<(r1 :: r2 :: rs).length:=by omega
      have:=g6 q (r1 :: r2 :: rs)[q] (by rw[a0C hq'])
      rw[a0z,a0C hq']
      simpa using this
    ·exact h.elim
   ·exact h.elim
  ·exact h.elim
 ·rename_i t l c hop
  have hl:=a0l hT (ht l (by simp[hop,Op.operands]))
  have hc:=a0l hT (ht c (by simp[hop,Op.operands]))
  split at h
  ·rename_i e kl lv kc cv he hlv hcv
   rw[hlv] at hl
   rw[hcv] at hc
   have hl:a.eval l=.int kl lv:=hl
   have hc:a.eval c=.int kc cv:=hc
   obtain⟨hu,i,hinfo,hs,hby,hke,hzz⟩:=a0q hE he
   split at h
   ·rename_i z hz
    rw[hzz] at hz
    obtain⟨zv,hzv,rfl,hz1,hzs⟩:=a1d hz
    simp only[cond_eq_ite] at h
    split at h
    ·rename_i hfo
     simp only[a0D] at hfo
     have hb1:=a0P hfo.2
     obtain⟨h0,hlc,hc2,h⟩:=h
     rw[natK_eq,forceL_eq] at h
     rw[←hs] at *
     rw[←hby] at *
     obtain⟨cells,hrun,hlen,g4,g6⟩:=made_run (P:=P) (I:=I) (w:=w) hu hinfo hzv hz1 hzs kl kc h0 hlc hc2 hb1
     refine⟨_,_,h,newRun_row e i.size lv.toNat cv.toNat (by omega) (by simp only[maxLen];omega) (fun _=>zv.cells.toList.map ofZ) cells ?_ hlen g4 g6⟩
     simp[execOp,hop,hl,hc,hrun]
    ·exact h.elim
   ·exact h.elim
  ·exact h.elim
 ·exact h.elim
theorem newOp_ex {T:List V} {id:Nat} {o:Op} {K:V→O→Prop} (h:newOp E T id o K):∃v ob,K v ob∧newOp E T id o (fun v' ob'=>v'=v∧ob'=ob):=by
 cases o<;>simp only[newOp] at h ⊢
 case box t x=>
  split at h
  ·rw[forceL_eq] at h;exact⟨_,_,h,by rw[forceL_eq];exact⟨rfl,rfl⟩⟩
  ·exact h.elim
 case alloc t=>
  split at h
  ·rw[forceL_eq] at h;exact⟨_,_,h,by rw[forceL_eq];exact⟨rfl,rfl⟩⟩
  ·exact h.elim
 case buildSlice t n parts=>
  split at h
  ·split at h
   ·rename_i rows _ _
    simp only[cond_eq_ite,natK_eq,forceLL_eq] at h ⊢
    split at h
    ·rename_i hc
     rcases rows with _|⟨c,_|⟨c2,r⟩⟩
     ·exact⟨_,_,h,by rw[if_pos hc];exact⟨rfl,rfl⟩⟩
     ·exact⟨_,_,h,by rw[if_pos hc];exact⟨rfl,rfl⟩⟩
     ·exact⟨_,_,h,by rw[if_pos hc];exact⟨rfl,rfl⟩⟩
    ·exact h.elim
   ·exact h.elim
  ·exact h.elim
 case makeSlice t l c=>
  split at h
  ·split at h
   ·simp only[cond_eq_ite,natK_eq,forceL_eq] at h ⊢
    split at h
    ·rename_i hc
     obtain⟨h0,h1,h2,h⟩:=h
     exact⟨_,_,h,by rw[if_pos hc];exact⟨h0,h1,h2,rfl,rfl⟩⟩
    ·exact h.elim
   ·exact h.elim
  ·exact h.elim
theorem a1x {T:List V} {e:Prop} {K K':Prop} (hk:K→K'):∀{l:List Operand},conds T e l K→conds T e l K'
 |[],h=>hk h
 |x :: l,h=>by
  unfold conds at h ⊢
  cases hi:(ev0 T x).isIte with
  |none=>rw[hi] at h;exact a1x hk h
  |some q=>rw[hi] at h;exact⟨h.1,a1x hk h.2⟩
theorem drawOp_ex {S:Sys} {ops:List Oper} {H:List O} {T:List V} {id:Nat} {o:Oper} {K:V→Option O→Prop} (h:drawOp S E ops H T id o K):∃v ob,K v ob∧drawOp S E ops H T id o (fun v' ob'=>v'=v∧ob'=ob):=by
 unfold drawOp at h ⊢
 split at h
 ·exact h.elim
 ·exact⟨_,_,h,rfl,rfl⟩
 ·split at h
  ·rename_i v hv
   have hk:=a1g h
   rw[force_eq] at hk
   exact⟨_,_,hk,a1x (fun _=>by rw[force_eq];exact⟨rfl,rfl⟩) h⟩
  ·rename_i c v hv
   have hk:=a1g h.2
   rw[force_eq] at hk
   exact⟨_,_,hk,h.1,a1x (fun _=>by rw[force_eq];exact⟨rfl,rfl⟩) h.2⟩
  ·have hk:=a1g h
   split at hk
   ·split at hk
    ·rw[forceL_eq] at hk
     rcases hk with⟨v,hp,hk⟩|⟨v,ob,hp,hk⟩
     ·rw[force_eq] at hk
      exact⟨_,_,hk,a1x (fun _=>by rw[forceL_eq];exact .inl ⟨v,hp,by rw[force_eq];exact⟨rfl,rfl⟩⟩) h⟩
     ·rw[force_eq] at hk
      exact⟨_,_,hk,a1x (fun _=>by rw[forceL_eq];exact .inr ⟨v,ob,hp,by rw[force_eq];exact⟨rfl,rfl⟩⟩) h⟩
    ·exact hk.elim
   ·obtain⟨v,ob,h1,h2⟩:=newOp_ex hk
    refine⟨v,some ob,h1,a1x (fun _=>?_) h⟩
    obtain⟨v',ob',⟨rfl,rfl⟩,h4⟩:=newOp_ex h2
    have:(fun(v'':V) (ob'':O)=>v''=v'∧ob''=ob')=(fun(v'':V) (ob'':O)=>v''=v'∧some ob''=some ob'):=by
     funext a b;simp
    rw[this] at h4
    exact h4
 ·rename_i e he
  split at h
  ·rename_i v hv
   have hk:=a1g h
   unfold softV at hk
   split at hk
   ·rename_i q u
    obtain⟨hq,hk⟩:=hk
    rw[force_eq] at hk
    exact⟨_,_,hk,a1x (fun _=>⟨hq,by simp[force_eq]⟩) h⟩
   ·rename_i hne
    rw[force_eq] at hk
    refine⟨_,_,hk,a1x (fun _=>?_) h⟩
    unfold softV
    split
    ·exact(hne _ _ rfl).elim
    ·simp[force_eq]
  ·rename_i c v hv
   have hk:=a1g h.2
   unfold softV at hk
   split at hk
   ·rename_i q u
    obtain⟨hq,hk⟩:=hk
    rw[force_eq] at hk
    exact⟨_,_,hk,h.1,a1x (fun _=>⟨hq,by simp[force_eq]⟩) h.2⟩
   ·rename_i hne
    rw[force_eq] at hk
    refine⟨_,_,hk,h.1,a1x (fun _=>?_) h.2⟩
    unfold softV
    split
    ·exact(hne _ _ rfl).elim
    ·simp[force_eq]
  ·have hk:=a1g h
   split at hk
   ·split at hk
    ·rw[forceL_eq] at hk
     obtain⟨v,hp,hk⟩:=hk
     rw[force_eq] at hk
     exact⟨_,_,hk,a1x (fun _=>by rw[forceL_eq];exact⟨v,hp,by rw[force_eq];exact⟨rfl,rfl⟩⟩) h⟩
    ·exact hk.elim
   ·exact hk.elim
theorem guardV_spec {I:Nat→Prop} {η:Eta} {w:World} {ops:Array Oper} {T:List V} {a:Act} {o:Oper} (hT:SatT I η w T a.tmps) :
  (guardV ops.toList T o=.run→Region.wanted o (yielded ops a.tmps)=true)∧(guardV ops.toList T o=.skip→Region.wanted o (yielded ops a.tmps)=false)∧(∀e,guardV ops.toList T o=.soft e→(Region.wanted o (yielded ops a.tmps)=true↔e)):=by
 unfold guardV
 cases hg:o.guard with
 |none=>simp[Region.wanted,hg]
 |some jw=>
  obtain⟨j,want⟩:=jw
  simp only
  cases hd:guardDst ops.toList j with
  |none=>simp
  |some g=>
   simp only
   have hy:=yielded_eq (tmps:=a.tmps) hd
   have hden:=hT.2 g
   have hwant:∀b,a.tmps.getD g undef=.bool b→Region.wanted o (yielded ops a.tmps)=(b == want):=by
    intro b hb
    simp only[Region.wanted,hg,hy,hb]
    cases b<;>cases want<;>rfl
   have hnone:a.tmps.getD g undef=undef→Region.wanted o (yielded ops a.tmps)=false:=by
    intro hb
    rw[hb] at hy
    simp only[Region.wanted,hg,hy]
    rfl
   cases hv:get .any T g<;>rw[hv] at hden<;>simp only
   case kb b=>
    have:=hwant b hden
    cases b<;>cases want<;>simp[this]
   case prop p d=>
    have:=hwant _ hden
    cases want<;>simp[this]
   case ite q v=>
    cases v<;>simp only
    case prop p d=>
     by_cases hq:q
     ·have:=hwant _ (hden.1 hq)
      cases want<;>simp[this,hq]
     ·have:=hnone (hden.2 hq)
      cases want<;>simp[this,hq]
    case kb b=>
     by_cases hq:q
     ·have:=hwant _ (hden.1 hq)
      cases b<;>cases want<;>simp[this,hq]
     ·have:=hnone (hden.2 hq)
      cases b<;>cases want<;>simp[this,hq]
    all_goals simp
   all_goals simp
theorem drawOp_fact {R:Rel} (hR:RelOk R) (hE:a1b E P) {ops:Array Oper} {H₀:List O} {T:List V} {id:Nat} {o:Oper} {v:V} {ob:Option O} (h:drawOp (sys P) E ops.toList H₀ T id o (fun v' ob'=>v'=v∧ob'=ob)):OpFact P R ops H₀ o T id v ob:=by
 intro r n Q I η w a T' H hag hpre hg hres K
 obtain⟨hw1,hw2,hw3⟩:=guardV_spec (ops:=ops) (o:=o) hg.tmp
 rw[looks_guard hag] at hw1 hw2 hw3
 have hop:=looks_operand hag
 have hthere:∀x∈o.op.operands.toList,a2m T x→a2m T' x:=by
  intro x hx hh
  unfold a2m at hh ⊢
  rw[hop x hx]
  exact hh
 have hcond:∀x∈a2e o.op,x∈o.op.operands.toList:=by
  intro x hx
  revert hx
  cases o.op<;>simp only[a2e,Op.operands]<;>intro hx<;>first|(simp at hx;done)|(simp at hx;subst hx;simp)|exact hx
 have hobjs:Objs I η w H₀:=fun j e o he ho=>hg.sat.obj j e o he (hpre j o ho)
 have hpc:a1f E T' H₀ o.op=a1f E T H₀ o.op:=pureOp_congr hop
 have kval:∀(u:V) (x:Value),Den I η w u x→v=u→ob=none→K (a.put o.dst x) w:=by
  rintro u x hd rfl rfl
  refine⟨Act.put_defers' _ _ _,I,η,⟨hg.sat,hg.tmp.put hd⟩,fun _ _=>rfl,fun _=>rfl,hR.step (Step.refl _ _ _)⟩
 have kcall:∀(e:Prop) (fo:Operand) (args:Array Operand) (ts:Array TypeId) (g:FuncId) (first cap:List V) (u:V),o.op=.call {callee:=.value fo,args:=args,argTypes:=ts}→ev T fo=.fn (.func g) first cap→e→
   (∀x∈o.op.operands.toList,a2m T x)→(e→PCall P g (first++(evs T args.toList++cap)) H₀ u)→(v=u∨v=.ite e u)→ob=none→o.wpIn (Fw r) n P a w K Q:=by
  rintro e fo args ts g first cap u hoc hf he ht hp hv rfl
  have hd:∀c,o.op≠.defer c:=by rw[hoc];intro c hc;cases hc
  have hfo:fo∈o.op.operands.toList:=by simp[hoc,Op.operands,Call.operands]
  have hfd:=a0l hg.tmp (hthere fo hfo (ht fo hfo))
  have hevf:ev T' fo=ev T fo:=by simp only[ev];rw[hop fo hfo]
  rw[hevf,hf] at hfd
  obtain⟨as,bs,hfv,had,hbd⟩:=hfd
  have hin:∀x∈args.toList,x∈o.op.operands.toList:=fun x hx=>by simp[hoc,Op.operands,Call.operands];exact .inr (by simpa using hx)
  have hargs:=a3f hg.tmp args.toList (fun x hx=>hthere x (hin x hx) (ht x (hin x hx)))
  rw[evs_congr (fun x hx=>hop x (hin x hx))] at hargs
  obtain⟨hpl,hcall⟩:=pcall_run hR hg.sat hpre (hp he) (had.append (hargs.append hbd))
  refine⟨fun _ _=>trivial,?_⟩
  rw[Oper.semAt_eq _ _ _ hd,call_run hoc hfv hpl]
  refine⟨fun hsome=>by simp[Fw] at hsome,a3g (hcall.mono ?_)⟩
  rintro e' w' ⟨x,rfl,s1,s2,s3,s4⟩
  refine⟨Act.put_defers' _ _ _,grow I w w',η,⟨s1,(hg.tmp.mono s3).put ?_⟩,fun _ _=>rfl,fun _=>rfl,s4⟩
  rcases hv with rfl|rfl
  ·exact s2
  ·exact⟨fun _=>s2,fun hn=>(hn he).elim⟩
 have ncall:∀(fo:Operand) (args:Array Operand) (ts:Array TypeId) (g:FuncId) (first cap:List V) (u:V) (b:O),o.op=.call {callee:=.value fo,args:=args,argTypes:=ts}→ev T fo=.fn (.func g) first cap→
   (∀x∈o.op.operands.toList,a2m T x)→NCall P g (first++(evs T args.toList++cap)) u b→v=shV id u→ob=some (shO id b)→o.wpIn (Fw r) n P a w K Q:=by
  rintro fo args ts g first cap u b hoc hf ht hp rfl rfl
  have hd:∀c,o.op≠.defer c:=by rw[hoc];intro c hc;cases hc
  have hfo:fo∈o.op.operands.toList:=by simp[hoc,Op.operands,Call.operands]
  have hfd:=a0l hg.tmp (hthere fo hfo (ht fo hfo))
  have hevf:ev T' fo=ev T fo:=by simp only[ev];rw[hop fo hfo]
  rw[hevf,hf] at hfd
  obtain⟨as,bs,hfv,had,hbd⟩:=hfd
  have hin:∀x∈args.toList,x∈o.op.operands.toList:=fun x hx=>by simp[hoc,Op.operands,Call.operands];exact .inr (by simpa using hx)
  have hargs:=a3f hg.tmp args.toList (fun x hx=>hthere x (hin x hx) (ht x (hin x hx)))
  rw[evs_congr (fun x hx=>hop x (hin x hx))] at hargs
  unfold NCall at hp
  obtain⟨hfo',hpl,hcall⟩:=hp
  refine⟨fun _ _=>trivial,?_⟩
  rw[Oper.semAt_eq _ _ _ hd,call_run hoc hfv hpl]
  refine⟨fun hsome=>by simp[Fw] at hsome,a3g ((hcall I w _ hg.sat.ilt (fo_nil_list _ _ hfo' (had.append (hargs.append hbd)))).mono ?_)⟩
  rintro e' w' ⟨I',η',H',ret,x,rfl,⟨rfl,rfl⟩,hS',hden,hst⟩
  obtain⟨hη,hH⟩:=hres rfl
  obtain⟨e,rfl⟩:=a1K.1 (show η'.length=1 from hS'.len)
  obtain⟨s0,s1,s2,s3⟩:=hg.sat.fillNew hη hH hS' hst
  refine⟨Act.put_defers' _ _ _,I',_,⟨s1,(hg.tmp.mono s2).put (Den.shift s0 _ _ hden)⟩,fun j hj=>?_,fun hn=>by simp at hn,hR.step s3⟩
  rw[a0G,if_neg (fun e=>hj e.symm)]
 unfold drawOp at h
 split at h
 ·exact h.elim
 ·rename_i hgv
  obtain⟨h1,h2⟩:=h
  rw[if_neg (by simp[hw2 hgv])]
  exact kval .any _ trivial h1.symm h2.symm
 ·rename_i hgv
  rw[if_pos (hw1 hgv)]
  split at h
  ·rename_i u hpu
   obtain⟨ht,hk⟩:=a0x trivial h
   rw[force_eq] at hk
   have:=a2a (P:=P) hE hobjs hg.tmp o (fun x hx=>hthere x (hcond x hx) (ht x hx))
   rw[hpc,hpu] at this
   obtain⟨x,e1,e2⟩:=this
   exact a0m (by intro c hc;rw[hc] at hpu;simp[a1f] at hpu) e1 (kval u x e2 hk.1.symm hk.2.symm)
  ·rename_i c u hpu
   obtain⟨ht,hk⟩:=a0x trivial h.2
   rw[force_eq] at hk
   have:=a2a (P:=P) hE hobjs hg.tmp o (fun x hx=>hthere x (hcond x hx) (ht x hx))
   rw[hpc,hpu] at this
   obtain⟨x,e1,e2⟩:=this h.1
   exact a0m (by intro c hc;rw[hc] at hpu;simp[a1f] at hpu) e1 (kval u x e2 hk.1.symm hk.2.symm)
  ·obtain⟨ht,hk⟩:=a0x trivial h
   split at hk
   ·rename_i fo args ts hoc
    split at hk
    ·rename_i g first cap hf
     rw[forceL_eq,a2n,a2n] at hk
     rcases hk with⟨u,hp,hk⟩|⟨u,b,hp,hk⟩
     ·rw[force_eq] at hk
      exact kcall True fo args ts g first cap u hoc hf trivial ht (fun _=>hp) (.inl hk.1.symm) hk.2.symm
     ·rw[force_eq] at hk
      exact ncall fo args ts g first cap u b hoc hf ht hp hk.1.symm hk.2.symm
    ·exact hk.elim
   ·obtain⟨u,b,⟨hk1,hk2⟩,hrun⟩:=newOp_sound (P:=P) (I:=I) (η:=η) (w:=w) hE hg.tmp (id:=id) (o:=o) (by rw[newOp_congr hop];exact hk) (fun x hx=>hthere x hx (ht x hx))
    subst hk1
    subst hk2
    obtain⟨x,c,real,hr,hinn,hfin⟩:=hrun
    obtain⟨hη,hH⟩:=hres rfl
    have hidη:=(a0B.1 hη).1
    obtain⟨s1,s2,s3⟩:=hg.sat.fill hη hH real b c (fun m=>(hfin _ m (by simp[hidη])).1) hinn
    have hden:=(hfin _ s2 (by simp[hidη])).2
    refine a0m ?_ hr ⟨Act.put_defers' _ _ _,I,_,⟨s1,(hg.tmp.mono s2).put hden⟩,fun j hj=>?_,fun hn=>by simp at hn,hR.step s3⟩
    ·intro c' hc'
     rw[hc'] at hk
     simp[newOp] at hk
    ·rw[a0G,if_neg (fun e=>hj e.symm)]
 ·rename_i e hgv
  have hwe:=hw3 e hgv
  have soft:∀(u:V),conds T e (a2e o.op) (softV e u fun v1=>force v1 fun v2=>v2=v∧none=ob)→(e→(∀x∈a2e o.op,a2m T x)→∃x,(execOp a.eval o).run P w=.ok (.value x) w∧Den I η w u x)→(∀c,o.op≠.defer c)→
    if Region.wanted o (yielded ops a.tmps)=true then o.wpIn (Fw r) n P a w K Q else K (a.put o.dst undef) w:=by
   intro u hc hrun hd
   by_cases he:e
   ·rw[if_pos (hwe.2 he)]
    obtain⟨ht,hk⟩:=a0x he hc
    obtain⟨x,e1,e2⟩:=hrun he ht
    unfold softV at hk
    split at hk
    ·rename_i q u'
     simp only[force_eq] at hk
     exact a0m hd e1 (kval (.ite e u') x ⟨fun _=>e2.1 (hk.1 he),fun hn=>(hn he).elim⟩ hk.2.1.symm hk.2.2.symm)
    ·simp only[force_eq] at hk
     exact a0m hd e1 (kval (.ite e u) x ⟨fun _=>e2,fun hn=>(hn he).elim⟩ hk.1.symm hk.2.symm)
   ·rw[if_neg (by simpa [hwe] using he)]
    have hk:=a1g hc
    unfold softV at hk
    split at hk
    ·rename_i q u'
     simp only[force_eq] at hk
     exact kval (.ite e u') undef ⟨fun hh=>(he hh).elim,fun _=>rfl⟩ hk.2.1.symm hk.2.2.symm
    ·simp only[force_eq] at hk
     exact kval (.ite e u) undef ⟨fun hh=>(he hh).elim,fun _=>rfl⟩ hk.1.symm hk.2.symm
  split at h
  ·rename_i u hpu
   refine soft u h (fun he ht=>?_) (by intro c hc;rw[hc] at hpu;simp[a1f] at hpu)
   have:=a2a (P:=P) hE hobjs hg.tmp o (fun x hx=>hthere x (hcond x hx) (ht x hx))
   rw[hpc,hpu] at this
   exact this
  ·rename_i c u hpu
   refine soft u h.2 (fun he ht=>?_) (by intro c hc;rw[hc] at hpu;simp[a1f] at hpu)
   have:=a2a (P:=P) hE hobjs hg.tmp o (fun x hx=>hthere x (hcond x hx) (ht x hx))
   rw[hpc,hpu] at this
   exact this (h.1 he)
  ·have hk:=a1g h
   split at hk
   ·rename_i fo args ts hoc
    split at hk
    ·rename_i g first cap hf
     rw[forceL_eq,a2n,a2n] at hk
     obtain⟨u,hp,hk⟩:=hk
     rw[force_eq] at hk
     by_cases he:e
     ·rw[if_pos (hwe.2 he)]
      obtain⟨ht,_⟩:=a0x he h
      exact kcall e fo args ts g first cap u hoc hf he ht hp (.inr hk.1.symm) hk.2.symm
     ·rw[if_neg (by simpa [hwe] using he)]
      exact kval (.ite e u) undef ⟨fun hh=>(he hh).elim,fun _=>rfl⟩ hk.1.symm hk.2.symm
    ·exact hk.elim
   ·exact hk.elim
end Go.Sx
namespace Go.Sx
open Go
variable {P:Program} {E:Env}
theorem appK_eq {α:Type}:∀(l H:List α) (K:List α→Prop),appK H l K=K (H++l)
 |[],H,K=>by simp[appK]
 |o :: l,H,K=>by simp only[appK];rw[a1i,appK_eq l];simp
theorem drawOp_ext {S:Sys} {ops:List Oper} {H:List O} {T:List V} {id:Nat} {o:Oper} {v:V} {ob:Option O} (h:drawOp S E ops H T id o (fun v' ob'=>v'=v∧ob'=ob)) {x:Operand} {i:Nat} (hop:o.op=.extract x i):ob=none:=by
 unfold drawOp at h
 split at h
 ·exact h.elim
 ·exact h.2.symm
 ·split at h
  ·have hk:=a1g h
   rw[force_eq] at hk
   exact hk.2.symm
  ·have hk:=a1g h.2
   rw[force_eq] at hk
   exact hk.2.symm
  ·have hk:=a1g h
   rw[hop] at hk
   exact(show False from hk).elim
 ·split at h
  ·have hk:=a1g h
   unfold softV at hk
   split at hk
   ·simp only[force_eq] at hk;exact hk.2.2.symm
   ·simp only[force_eq] at hk;exact hk.2.symm
  ·have hk:=a1g h.2
   unfold softV at hk
   split at hk
   ·simp only[force_eq] at hk;exact hk.2.2.symm
   ·simp only[force_eq] at hk;exact hk.2.symm
  ·have hk:=a1g h
   rw[hop] at hk
   exact(show False from hk).elim
def isMk:Op→Bool
 |.makeSlice _ _ _=>true
 |.buildSlice _ _ _=>true
 |.alloc _=>true
 |_=>false
def OfId (v:V) (id:Nat):Prop:=(∃n,v=.osl id n)∨v=.ptr id 0
theorem OfId.inj {v:V} {i j:Nat} (h:OfId v i) (k:OfId v j):i=j:=by
 rcases h with⟨n,h⟩|h<;>rcases k with⟨m,k⟩|k<;>rw[h] at k<;>cases k<;>rfl
def LateFact (o:Oper) (id:Nat) (v:V) (ob:Option O):Prop:=
 lateKind o.op=true→(isMk o.op=false→ob=none)∧(isMk o.op=true→(∃b,OfId v id∧ob=some b)∨(v=.any∧ob=none))
theorem drawOp_late {S:Sys} {ops:List Oper} {H:List O} {T:List V} {id:Nat} {o:Oper} {v:V} {ob:Option O} (h:drawOp S E ops H T id o (fun v' ob'=>v'=v∧ob'=ob)):LateFact o id v ob:=by
 intro hk
 unfold drawOp at h
 split at h
 ·exact h.elim
 ·exact⟨fun _=>h.2.symm,fun _=>.inr ⟨h.1.symm,h.2.symm⟩⟩
 rotate_left
 ·have mk:∀hm:isMk o.op=true,∃e c,a1f E T H o.op=.bad∧conds T e c False:=by
   intro hm
   split at h
   ·rename_i u hu
    unfold isMk at hm
    split at hm
    ·rename_i hop;rw[hop] at hu;simp[a1f] at hu
    ·rename_i hop;rw[hop] at hu;simp[a1f] at hu
    ·rename_i hop;rw[hop] at hu;simp[a1f] at hu
    ·cases hm
   ·rename_i c u hu
    unfold isMk at hm
    split at hm
    ·rename_i hop;rw[hop] at hu;simp[a1f] at hu
    ·rename_i hop;rw[hop] at hu;simp[a1f] at hu
    ·rename_i hop;rw[hop] at hu;simp[a1f] at hu
    ·cases hm
   ·rename_i hu
    unfold isMk at hm
    split at hm
    ·rename_i hop;rw[hop] at h hu;exact⟨_,_,by rw[hop];exact hu,h⟩
    ·rename_i hop;rw[hop] at h hu;exact⟨_,_,by rw[hop];exact hu,h⟩
    ·rename_i hop;rw[hop] at h hu;exact⟨_,_,by rw[hop];exact hu,h⟩
    ·cases hm
  refine⟨fun _=>?_,fun hm=>?_⟩
  ·split at h
   ·have hk2:=a1g h
    unfold softV at hk2
    split at hk2
    ·simp only[force_eq] at hk2;exact hk2.2.2.symm
    ·simp only[force_eq] at hk2;exact hk2.2.symm
   ·have hk2:=a1g h.2
    unfold softV at hk2
    split at hk2
    ·simp only[force_eq] at hk2;exact hk2.2.2.symm
    ·simp only[force_eq] at hk2;exact hk2.2.symm
   ·have hk2:=a1g h
    cases hop:o.op<;>rw[hop] at hk hk2<;>simp only[lateKind,a2N] at hk<;>exact hk2.elim
  ·obtain⟨e,c,_,hc⟩:=mk hm
   exact(a1g hc).elim
 split at h
 ·rename_i u hu
  have hk2:=a1g h
  rw[force_eq] at hk2
  refine⟨fun _=>hk2.2.symm,fun hm=>?_⟩
  unfold isMk at hm
  split at hm
  ·rename_i hop;rw[hop] at hu;simp[a1f] at hu
  ·rename_i hop;rw[hop] at hu;simp[a1f] at hu
  ·rename_i hop;rw[hop] at hu;simp[a1f] at hu
  ·cases hm
 ·rename_i c u hu
  have hk2:=a1g h.2
  rw[force_eq] at hk2
  refine⟨fun _=>hk2.2.symm,fun hm=>?_⟩
  unfold isMk at hm
  split at hm
  ·rename_i hop;rw[hop] at hu;simp[a1f] at hu
  ·rename_i hop;rw[hop] at hu;simp[a1f] at hu
  ·rename_i hop;rw[hop] at hu;simp[a1f] at hu
  ·cases hm
 ·have hk2:=a1g h
  cases hop:o.op<;>rw[hop] at hk hk2<;>simp only[lateKind,a2N] at hk<;>simp only[newOp] at hk2
  case makeSlice t l c=>
   refine⟨fun hm=>by simp[isMk] at hm,fun _=>?_⟩
   split at hk2
   ·split at hk2
    ·simp only[cond_eq_ite] at hk2
     split at hk2
     ·obtain⟨_,_,_,hk2⟩:=hk2
      rw[natK_eq,forceL_eq] at hk2
      exact .inl ⟨_,.inl ⟨_,hk2.1.symm⟩,hk2.2.symm⟩
     ·exact hk2.elim
    ·exact hk2.elim
   ·exact hk2.elim
  case buildSlice t k ps=>
   refine⟨fun hm=>by simp[isMk] at hm,fun _=>?_⟩
   split at hk2
   ·split at hk2
    ·simp only[cond_eq_ite] at hk2
     split at hk2
     ·rw[natK_eq,forceLL_eq] at hk2
      split at hk2
      ·exact .inl ⟨_,.inl ⟨_,hk2.1.symm⟩,hk2.2.symm⟩
      ·exact .inl ⟨_,.inl ⟨_,hk2.1.symm⟩,hk2.2.symm⟩
     ·exact hk2.elim
    ·exact hk2.elim
   ·exact hk2.elim
  case alloc t=>
   refine⟨fun hm=>by simp[isMk] at hm,fun _=>?_⟩
   split at hk2
   ·rw[forceL_eq] at hk2
    exact .inl ⟨_,.inr hk2.1.symm,hk2.2.symm⟩
   ·exact hk2.elim
theorem get_set0 {T:List V} {d:Nat} {v:V} {x:Nat}:get .any (set T d v) x=if x=d∧d<T.length then v else get .any T x:=by
 rw[a0v,a0z,a0z,a0G]
 by_cases h:d=x
 ·subst h
  by_cases hl:d<T.length
  ·simp[hl]
  ·simp[hl]
 ·have h2:¬x=d:=fun g=>h g.symm
  simp[h,h2]
theorem OpFact.weak {R:Rel} {ops:Array Oper} {H₀:List O} {o:Oper} {T:List V} {id:Nat} {v v':V} {ob:Option O} (hv:∀I η w x,Den I η w v x→Den I η w v' x) (h:OpFact P R ops H₀ o T id v ob):OpFact P R ops H₀ o T id v' ob:=by
 intro r n Q I η w a T' H hT hH hg hob
 have h1:=h r n Q I η w a T' H hT hH hg hob
 have key:∀(X:List O) (a':Act) (w':World),(a'.defers=a.defers∧∃I' η',Good I' η' w' (match o.dst with|some d=>set T' d v|none=>T') X a'∧
   (∀(j:Nat),j≠id→η'[j]? = η[j]?)∧(ob=none→η'=η)∧R I (own η H) w I' (own η' X) w')→
   (a'.defers=a.defers∧∃I' η',Good I' η' w' (match o.dst with|some d=>set T' d v'|none=>T') X a'∧
   (∀(j:Nat),j≠id→η'[j]? = η[j]?)∧(ob=none→η'=η)∧R I (own η H) w I' (own η' X) w'):=by
  rintro X a' w' ⟨g1,I',η',g2,g3⟩
  refine⟨g1,I',η',⟨g2.sat,?_⟩,g3⟩
  have ht:=g2.tmp
  cases hd:o.dst with
  |none=>rw[hd] at ht;exact ht
  |some d=>
   rw[hd] at ht
   dsimp only at ht ⊢
   refine⟨?_,fun i=>?_⟩
   ·have:=ht.1
    rw[a0v,a2H] at this ⊢
    exact this
   ·have:=ht.2 i
    rw[get_set0] at this ⊢
    split
    ·rename_i hc
     rw[if_pos hc] at this
     exact hv _ _ _ _ this
    ·rename_i hc
     rw[if_neg hc] at this
     exact this
 dsimp only at h1 ⊢
 split
 ·rename_i hw
  rw[if_pos hw] at h1
  exact Oper.wpIn_mono (key _) h1
 ·rename_i hw
  rw[if_neg hw] at h1
  exact key _ _ _ h1
theorem splitV_ex {ops:List Oper} {d:Nat} {v:V} {K:V→Prop} (h:splitV ops d v K):∃v',K v'∧(v'=v∨∃p e,v=.prop p e∧(∀I η w x,Den I η w v x→Den I η w v' x)):=by
 unfold splitV at h
 split at h
 ·rename_i p e
  cases hb:needsB ops d with
  |false=>rw[hb] at h;exact⟨_,h,.inl rfl⟩
  |true=>
   rw[hb] at h
   simp only[cond_true] at h
   by_cases hp:p
   ·refine⟨_,h.1 hp,.inr ⟨p,e,rfl,fun I η w x hx=>?_⟩⟩
    simpa [Den,hp] using hx
   ·refine⟨_,h.2 hp,.inr ⟨p,e,rfl,fun I η w x hx=>?_⟩⟩
    simpa [Den,hp] using hx
 ·exact⟨_,h,.inl rfl⟩
theorem LateFact.weak {o:Oper} {id:Nat} {p:Prop} {e:Decidable p} {v':V} {ob:Option O} (h:LateFact o id (.prop p e) ob):LateFact o id v' ob:=by
 intro hk
 obtain⟨h1,h2⟩:=h hk
 refine⟨h1,fun hm=>?_⟩
 rcases h2 hm with⟨b,(⟨n,g⟩|g),_⟩|⟨g,_⟩<;>cases g
theorem drawOps_tr {R:Rel} (hR:RelOk R) (hE:a1b E P) {ops:Array Oper} {H:List O} {K:List V→List O→Prop}:∀(rest:List Oper) (id:Nat) (T:List V) (L:List O),drawOps (sys P) E ops.toList H K rest id T L→id=H.length+L.length→
  ∃(Ts:Nat→List V) (Ls:Nat→List O) (val:Nat→V) (ob:Nat→Option O),Ts 0=T∧Ls 0=L∧K (Ts rest.length) (Ls rest.length)∧
   ∀i o,rest[i]? = some o→∃d,o.dst=some d∧OpFact P R ops H o (Ts i) (H.length+(Ls i).length) (val i) (ob i)∧Ts (i+1)=set (Ts i) d (val i)∧Ls (i+1)=Ls i++(ob i).toList∧(∀x k,o.op=.extract x k→ob i=none)∧LateFact o (H.length+(Ls i).length) (val i) (ob i)
 |[],id,T,L,h,_=>⟨fun _=>T,fun _=>L,fun _=>.any,fun _=>none,rfl,rfl,h,fun i o hi=>by simp at hi⟩
 |o :: rest,id,T,L,h,hid=>by
  unfold drawOps at h
  obtain⟨v,ob,h1,h2⟩:=drawOp_ex h
  have hf:=drawOp_fact hR hE h2
  cases hd:o.dst with
  |none=>rw[hd] at h1;exact h1.elim
  |some d=>
   rw[hd] at h1
   obtain⟨v',h1,hv'⟩:=splitV_ex h1
   simp only[a0p] at h1
   have hf':OpFact P R ops H o T id v' ob:=by
    rcases hv' with rfl|⟨p,e,rfl,hw⟩
    ·exact hf
    ·exact hf.weak hw
   have hl':LateFact o id v' ob:=by
    rcases hv' with rfl|⟨p,e,rfl,hw⟩
    ·exact drawOp_late h2
    ·exact(drawOp_late h2).weak
   have fin:∀(id':Nat) (L':List O),drawOps (sys P) E ops.toList H K rest id' (set T d v') L'→id'=H.length+L'.length→L'=L++ob.toList→∃(Ts:Nat→List V) (Ls:Nat→List O) (val:Nat→V) (ob:Nat→Option O),Ts 0=T∧Ls 0=L∧K (Ts (o :: rest).length) (Ls (o :: rest).length)∧
     ∀i o',(o :: rest)[i]? = some o'→∃d,o'.dst=some d∧OpFact P R ops H o' (Ts i) (H.length+(Ls i).length) (val i) (ob i)∧Ts (i+1)=set (Ts i) d (val i)∧Ls (i+1)=Ls i++(ob i).toList∧(∀x k,o'.op=.extract x k→ob i=none)∧LateFact o' (H.length+(Ls i).length) (val i) (ob i):=by
    intro id' L' h' hid' hL
    obtain⟨Ts,Ls,val,obs,t0,l0,hk,hs⟩:=drawOps_tr hR hE rest id' (set T d v') L' h' hid'
    refine⟨fun|0=>T|i+1=>Ts i,fun|0=>L|i+1=>Ls i,fun|0=>v'|i+1=>val i,fun|0=>ob|i+1=>obs i,rfl,rfl,hk,?_⟩
    intro i o' hi
    cases i with
    |zero=>
     simp at hi
     subst hi
     exact⟨d,hd,by rw[←hid];exact hf',t0,l0.trans hL,fun x k hx=>drawOp_ext h2 hx,by rw[←hid];exact hl'⟩
    |succ i=>exact hs i o' (by simpa using hi)
   cases ob with
   |none=>exact fin id L h1 hid (by simp)
   |some b=>
    simp only[a1i] at h1
    exact fin (id+1) (L++[b]) h1 (by simp;omega) (by simp)
structure DTail (ops:Array Oper) (p:Nat) (zs:List Nat):Prop where
 back:∀(i:Nat) (o:Oper),ops[i]? = some o→∀e∈o.after,Region.binds .any e=true→e.on<i
 tail:∀j,j<ops.size→p≤j→∀i,i<j→i∈a1m ops.toList (j+1) j∨i∈zs
 le:p≤ops.size
 zlt:∀z∈zs,z<p
structure DOk (ops:Array Oper) (p:Nat) (zs:List Nat):Prop extends DTail ops p zs where
 apart:∀(i j:Nat) (o o':Oper),i<p→j<p→ops[i]? = some o→ops[j]? = some o'→i≠j→o.dst≠o'.dst
 look:∀(i j:Nat) (o o':Oper),i<p→j<p→ops[i]? = some o→ops[j]? = some o'→∀t∈looks ops.toList o,o'.dst=some t→j<i∧∃e∈o.after,Region.binds .any e=true∧e.on=j
def ZOk (ops:Array Oper) (zs:List Nat):Prop:=∀z∈zs,∀o,ops[z]? = some o→o.guard=none∧∃x i,o.op=.extract x i
theorem lazyOk_spec {ops:Array Oper} {p:Nat} {zs:List Nat} (h:lazyOk ops.toList zs p=true):ZOk ops zs:=by
 unfold lazyOk at h
 simp only[a0D,a2G] at h
 intro z hz o ho
 have h7:=(h z hz).2
 have ho1:ops.toList[z]? = some o:=by simpa using ho
 rw[ho1] at h7
 simp only[isLazy,a0D,Option.isNone_iff_eq_none] at h7
 refine⟨h7.1,?_⟩
 have h8:=h7.2
 cases hop:o.op<;>rw[hop] at h8<;>first|exact⟨_,_,rfl⟩|cases h8
theorem DOk.mk' {ops:Array Oper} {p:Nat} {zs:List Nat} (back:∀(i:Nat) (o:Oper),ops[i]? = some o→∀e∈o.after,Region.binds .any e=true→e.on<i)
  (apart:∀(i j:Nat) (o o':Oper),i<p→j<p→ops[i]? = some o→ops[j]? = some o'→i≠j→o.dst≠o'.dst)
  (look:∀(i j:Nat) (o o':Oper),i<p→j<p→ops[i]? = some o→ops[j]? = some o'→∀t∈looks ops.toList o,o'.dst=some t→j<i∧∃e∈o.after,Region.binds .any e=true∧e.on=j)
  (tail:∀j,j<ops.size→p≤j→∀i,i<j→i∈a1m ops.toList (j+1) j∨i∈zs) (le:p≤ops.size) (zlt:∀z∈zs,z<p):DOk ops p zs:=⟨⟨back,tail,le,zlt⟩,apart,look⟩
theorem drawOk_spec {ops:Array Oper} {p:Nat} {zs:List Nat} (h:drawOkZ ops.toList p zs=true):DOk ops p zs:=by
 unfold drawOkZ at h
 simp only[a0D,a2G,a1F] at h
 obtain⟨⟨⟨⟨⟨h1,h2⟩,h3⟩,h4⟩,_⟩,h6⟩:=h
 refine DOk.mk' ?_ ?_ ?_ ?_ ?_ ?_
 ·intro i o hi e he hb
  have hlt:i<ops.toList.length:=by simpa using (Array.getElem?_eq_some_iff.1 hi).1
  have:=h1 i hlt
  have hi':ops.toList[i]? = some o:=by simpa using hi
  rw[hi'] at this
  simp only[a2G] at this
  have:=this e (by simpa using he)
  simpa [hb] using this
 ·intro i j o o' hi hj ho ho' hne
  have:=h2 i hi
  have ho1:ops.toList[i]? = some o:=by simpa using ho
  have ho2:ops.toList[j]? = some o':=by simpa using ho'
  rw[ho1] at this
  simp only[a2G,a1F] at this
  have:=this j hj
  rw[ho2] at this
  simp only[a0D,a3W] at this
  rcases this.1 with hh|hh
  ·exact(hne (a0f hh)).elim
  ·intro heq;rw[heq] at hh;simp at hh
 ·intro i j o o' hi hj ho ho' t ht hd
  have:=h2 i hi
  have ho1:ops.toList[i]? = some o:=by simpa using ho
  have ho2:ops.toList[j]? = some o':=by simpa using ho'
  rw[ho1] at this
  simp only[a2G,a1F] at this
  have:=this j hj
  rw[ho2] at this
  simp only[a0D,a3W,a2G] at this
  have:=this.2 t ht
  rw[hd] at this
  simp only[beq_self_eq_true,Bool.not_true,a2N,false_or,decide_eq_true_eq] at this
  refine⟨this.1,?_⟩
  have hh:=this.2
  unfold hasEdge at hh
  simp only[List.any_eq_true,a0D] at hh
  obtain⟨e,he,hb,hon⟩:=hh
  exact⟨e,by simpa using he,hb,a0f hon⟩
 ·intro j hj hp i hi
  have:=h3 j (by simpa using hj)
  simp only[a3W,decide_eq_true_eq,a2G,a1F] at this
  rcases this with hh|hh
  ·omega
  ·simpa using hh i hi
 ·simpa using Nat.le_of_ble_eq_true h4
 ·intro z hz
  simpa using h6 z hz
def Down (ops:Array Oper) (l:Array Bool):Prop:=∀(i:Nat) (o:Oper),ops[i]? = some o→l.getD i false=true→∀e∈o.after,Region.binds .any e=true→l.getD e.on false=true
theorem a2q {ops:Array Oper} {l:Array Bool} (hd:Down ops l):∀(n j:Nat) (o:Oper),ops[j]? = some o→(∀e∈o.after,Region.binds .any e=true→l.getD e.on false=true)→∀i∈a1m ops.toList n j,l.getD i false=true
 |0,j,o,ho,he,i,hi=>by simp[a1m] at hi
 |n+1,j,o,ho,he,i,hi=>by
  unfold a1m at hi
  have ho1:ops.toList[j]? = some o:=by simpa using ho
  rw[ho1] at hi
  simp only[List.mem_flatMap,a3J,a0Z] at hi
  obtain⟨e,⟨he1,he2⟩,hi⟩:=hi
  have hl:=he e (by simpa using he1) he2
  rcases hi with rfl|hi
  ·exact hl
  ·cases hoe:ops[e.on]? with
   |none=>
    cases n with
    |zero=>simp[a1m] at hi
    |succ n=>
     unfold a1m at hi
     have:ops.toList[e.on]? = none:=by simpa using hoe
     rw[this] at hi
     simp at hi
   |some o'=>exact a2q hd n e.on o' hoe (hd e.on o' hoe hl) i hi
theorem count_set {l:Array Bool} {i m:Nat} (h:l.getD i true=false) (hc:l.count false=m+1):(l.setIfInBounds i true).count false=m:=by
 have hlt:i<l.size:=by
  rcases a1N i l.size with h'|h'
  ·exact h'
  ·simp[Array.getElem?_eq_none h'] at h
 have hi:l[i]=false:=by simpa [hlt] using h
 rw[Array.setIfInBounds,dif_pos hlt,Array.count_set]
 simp[hi,hc]
theorem count_zero {l:Array Bool} (hc:l.count false=0) (i:Nat) (hi:i<l.size):l.getD i false=true:=by
 rw[Array.count_eq_zero] at hc
 have:l[i]≠false:=fun h=>hc (by rw[←h];exact Array.getElem_mem hi)
 simpa [hi] using this
theorem getD_tf {l:Array Bool} {i:Nat} (hi:i<l.size):(l.getD i true=false↔¬l.getD i false=true):=by
 simp[hi]
theorem a1e {l:Array Bool} {i j:Nat} (hi:i<l.size):(l.setIfInBounds i true).getD j false=true↔j=i∨l.getD j false=true:=by
 by_cases h:i=j
 ·subst h;simp[hi]
 ·rw[getD_set_ne false h]
  constructor
  ·exact .inr
  ·rintro(rfl|h');exact(h rfl).elim;exact h'
theorem least_ready {ops:Array Oper} {p:Nat} {zs:List Nat} (hok:DTail ops p zs) {l:Array Bool} (hs:l.size=ops.size):∀(i:Nat),i<ops.size→¬l.getD i false=true→Region.ready .any ops l≠[]:=by
 intro i
 induction i using Nat.strongRecOn with
 |_ i ih=>
  intro hi hn
  by_cases hall:∀j,j<i→l.getD j false=true
  ·have:i∈Region.ready .any ops l:=by
    rw[mem_ready]
    refine⟨(getD_tf (by omega)).2 hn,ops[i],by simp[hi],fun e he hb=>?_⟩
    exact hall _ (hok.back i ops[i] (by simp[hi]) e he hb)
   intro hnil
   rw[hnil] at this
   simp at this
  ·simp only[Classical.not_forall] at hall
   obtain⟨j,hj,hnj⟩:=hall
   exact ih j hj (by omega) hnj
def Clear (zo:List Oper) (T:List V):Prop:=∀o∈zo,∀d,o.dst=some d→get .any T d=.any
theorem a2j {T:List V} {d:Nat} {v:V} {x:Nat}:get .any (set T d v) x=if x=d∧d<T.length then v else get .any T x:=by
 rw[a0v,a0z,a0z,a0G]
 by_cases h:d=x
 ·subst h
  by_cases hl:d<T.length
  ·simp[hl]
  ·simp[hl]
 ·have:¬x=d:=fun e=>h e.symm
  simp[h,this]
theorem set_any {T:List V} {d:Nat} (h:get .any T d=.any):set T d .any=T:=by
 rw[a0v]
 apply a2L (by simp)
 intro x h1 h2
 rw[List.getElem_set]
 split
 ·rename_i hx
  subst hx
  rw[a0z,a0C h2] at h
  exact h.symm
 ·rfl
theorem clrK_spec:∀{zo:List Oper} {T:List V} {K:List V→Prop},clrK zo T K→∃T',K T'∧T'.length=T.length∧Clear zo T'∧(∀x,get .any T' x=.any∨get .any T' x=get .any T x)∧(∀x,get .any T x=.any→get .any T' x=.any)
 |[],T,K,h=>⟨T,h,rfl,fun o ho=>by simp at ho,fun _=>.inr rfl,fun _ hx=>hx⟩
 |o :: zo,T,K,h=>by
  unfold clrK at h
  rw[a0n] at h
  obtain⟨T',h1,h2,h3,h4,h5⟩:=clrK_spec h
  cases hd:o.dst with
  |none=>
   simp only[hd] at h2 h4 h5
   refine⟨T',h1,h2,fun o' ho' d hd'=>?_,h4,h5⟩
   rcases a0Z.1 ho' with rfl|ho'
   ·rw[hd] at hd';cases hd'
   ·exact h3 o' ho' d hd'
  |some d=>
   simp only[hd] at h2 h4 h5
   have ha:get .any (set T d .any) d=.any:=by
    rw[a2j]
    split
    ·rfl
    ·rename_i hn
     rw[a0z,a0V (by omega)]
     rfl
   refine⟨T',h1,h2.trans (by rw[a0v];simp),fun o' ho' d' hd'=>?_,fun x=>?_,fun x hx=>h5 x ?_⟩
   ·rcases a0Z.1 ho' with rfl|ho'
    ·rw[hd] at hd'
     cases hd'
     exact h5 d ha
    ·exact h3 o' ho' d' hd'
   ·by_cases hx:x=d
    ·subst hx;exact .inl (h5 x ha)
    ·rcases h4 x with g|g
     ·exact .inl g
     ·refine .inr (g.trans ?_)
      rw[a2j,if_neg (fun hh=>hx hh.1)]
   ·rw[a2j]
    split
    ·rfl
    ·exact hx
theorem SatT.loose {I:Nat→Prop} {η:Eta} {w:World} {T T':List V} {tmps:Array Value} (h:SatT I η w T tmps) (hl:T'.length=T.length) (hx:∀x,get .any T' x=.any∨get .any T' x=get .any T x):SatT I η w T' tmps:=by
 refine⟨by rw[hl];exact h.1,fun i=>?_⟩
 rcases hx i with g|g
 ·rw[g];trivial
 ·rw[g];exact h.2 i
theorem zOk_k {T:List V} {H:List O} {K:Prop}:∀{zo:List Oper},zOk E T H K zo→K
 |[],h=>h
 |o :: zo,h=>by
  unfold zOk at h
  split at h
  ·exact zOk_k (a1g h)
  ·exact h.elim
theorem zOk_mem {T:List V} {H:List O} {K:Prop}:∀{zo:List Oper},zOk E T H K zo→∀o∈zo,∃v,a1f E T H o.op=.ok v∧∀x∈a2e o.op,a2m T x
 |[],_,o,ho=>by simp at ho
 |o' :: zo,h,o,ho=>by
  unfold zOk at h
  split at h
  ·rename_i v hv
   obtain⟨h1,h2⟩:=a0x trivial h
   rcases a0Z.1 ho with rfl|ho
   ·exact⟨v,hv,h1⟩
   ·exact zOk_mem h2 o ho
  ·exact h.elim
theorem execOpsZ_nil {S:Sys} {ops:List Oper} {K:KT}:∀(rest:List Oper),execOpsZ S E ops [] K rest=a1c S E ops K rest
 |[]=>rfl
 |o :: rest=>by
  have ih:=execOpsZ_nil (S:=S) (ops:=ops) (K:=K) rest
  funext T H
  have:execOpsZ S E ops [] K (o :: rest) T H=a1c S E ops (fun T' H'=>execOpsZ S E ops [] K rest T' H') [o] T H:=rfl
  rw[this,ih]
  rfl
section
variable {r:Option Nat} {n:Nat} {Q:Exit→Act→World→Prop}
theorem tail_sound {R:Rel} (hR:RelOk R) (hE:a1b E P) {ops:Array Oper} {p:Nat} {zs:List Nat} {zo:List Oper} (hok:DTail ops p zs) (hzz:ZOk ops zs) (hzo:∀z∈zs,∀o,ops[z]? = some o→o∈zo) {K:KT} {I₀:Nat→Prop} {W₀:Own} {w₀:World} {ds:List Deferred} (hQ:∀a w,a1r R I₀ W₀ w₀ ds K a w→Q .normal a w) :
  ∀(m k:Nat) (l:Array Bool) (T:List V) (H:List O) (I:Nat→Prop) (η:Eta) (a:Act) (w:World),p≤k→k≤ops.size→l.size=ops.size→l.count false=m→Down ops l→(∀j,j<ops.size→j∉zs→(l.getD j false=true↔j<k))→
   execOpsZ (sys P) E ops.toList zo K (ops.toList.drop k) T H→Clear zo T→Good I η w T H a→a.defers=ds→R I₀ W₀ w₀ I (own η H) w→wpAnyIn (Fw r) n P .any ops Q m l a w
 |0,k,l,T,H,I,η,a,w,hp,hk,hs,hc,hdn,hl,h,hcl,hg,hds,hr=>by
  have hkn:k=ops.size:=by
   rcases a1N k ops.size with h1|h1
   ·have:=(hl k h1 (fun hz=>by have:=hok.zlt k hz;omega)).1 (count_zero hc k (by omega));omega
   ·omega
  subst hkn
  have:ops.toList.drop ops.size=[]:=by simp
  rw[this] at h
  refine⟨?_,hQ a w ⟨hds,I,η,T,H,zOk_k h,hg,hr⟩⟩
  apply a2P.2
  intro j hj
  rw[mem_ready] at hj
  obtain⟨h0,o,ho,_⟩:=hj
  have hlt:=(a0L.1 ho).1
  exact(getD_tf (by omega)).1 h0 (count_zero hc j (by omega))
 |m+1,k,l,T,H,I,η,a,w,hp,hk,hs,hc,hdn,hl,h,hcl,hg,hds,hr=>by
  constructor
  ·intro hnil
   have:∃i,i<ops.size∧¬l.getD i false=true:=by
    have hm:false∈l:=by
     apply a0Q
     intro hm
     rw[←Array.count_eq_zero] at hm
     omega
    obtain⟨i,hi,he⟩:=Array.mem_iff_getElem.1 hm
    exact⟨i,by omega,by simp[hi,he]⟩
   obtain⟨i,hi,hn⟩:=this
   exact(least_ready hok hs i hi hn hnil).elim
  ·intro i hi
   rw[mem_ready] at hi
   obtain⟨h0,o,ho,hall⟩:=hi
   have hlt:=(a0L.1 ho).1
   have hdn':Down ops (l.setIfInBounds i true):=by
    intro j o2 ho2 hj e he hb
    rw[a1e (by omega)] at hj ⊢
    rcases hj with rfl|hj
    ·rw[ho] at ho2;cases ho2
     exact .inr (hall e he hb)
    ·exact .inr (hdn j o2 ho2 hj e he hb)
   unfold wpOpIn
   simp only[ho]
   by_cases hz:i∈zs
   ·obtain⟨hgd,x,ix,hop⟩:=hzz i hz o ho
    have hw:Region.wanted o (yielded ops a.tmps)=true:=by simp[Region.wanted,hgd]
    rw[if_pos hw]
    have hzk:∃K',zOk E T H K' zo:=by
     cases hrest:ops.toList.drop k with
     |nil=>rw[hrest] at h;exact⟨_,h⟩
     |cons o' rest=>rw[hrest] at h;exact⟨_,h⟩
    obtain⟨K',hzk⟩:=hzk
    obtain⟨v,hv,hth⟩:=zOk_mem hzk o (hzo i hz o ho)
    have hps:=a2a (P:=P) hE hg.sat.obj hg.tmp o hth
    rw[hv] at hps
    obtain⟨y,e1,_⟩:=hps
    refine a0m (by intro c hcd;rw[hop] at hcd;cases hcd) e1 ?_
    refine tail_sound hR hE hok hzz hzo hQ m k (l.setIfInBounds i true) T H I η _ w hp hk (by simpa using hs) (count_set h0 hc) hdn' (fun j hj hjz=>?_) h hcl ⟨hg.sat,?_⟩ ((Act.put_defers' _ _ _).trans hds) hr
    ·rw[a1e (by omega),hl j hj hjz]
     constructor
     ·rintro(rfl|hh)
      ·exact(hjz hz).elim
      ·exact hh
     ·exact .inr
    ·have:=hg.tmp.put (dst:=o.dst) (v:=.any) (x:=y) trivial
     cases hd:o.dst with
     |none=>rw[hd] at this;exact this
     |some d=>
      rw[hd] at this
      simp only[set_any (hcl o (hzo i hz o ho) d hd)] at this
      exact this
   ·have hki:k≤i:=by
     rcases a1N i k with h1|h1
     ·exact((getD_tf (by omega)).1 h0 ((hl i hlt hz).2 h1)).elim
     ·exact h1
    have hik:i=k:=by
     rcases a1N k i with h1|h1
     ·have hkz:k∉zs:=fun hh=>by have:=hok.zlt k hh;omega
      have:=a2q hdn (i+1) i o ho hall k ((hok.tail i hlt (by omega) k h1).resolve_right hkz)
      have:=(hl k (by omega) hkz).1 this
      omega
     ·omega
    subst hik
    have hdrop:ops.toList.drop i=o :: ops.toList.drop (i+1):=by
     have hil:i<ops.toList.length:=by simpa using hlt
     rw[a2A hil]
     congr 1
     have:ops.toList[i]? = some o:=by simpa using ho
     rw[a0C hil] at this
     exact a1Z this
    rw[hdrop] at h
    have h1:=exec1_sound hR hE (r:=r) (n:=n) (Q:=Q) (zOk_k h) hg
    have next:∀a' w',a1r R I (own η H) w a.defers (fun T' H'=>clrK zo T' fun T''=>execOpsZ (sys P) E ops.toList zo K (ops.toList.drop (i+1)) T'' H') a' w'→wpAnyIn (Fw r) n P .any ops Q m (l.setIfInBounds i true) a' w':=by
     rintro a' w' ⟨g1,I',η',T',H',g2,g3,g4⟩
     obtain⟨T2,t1,t2,t3,t4,_⟩:=clrK_spec g2
     refine tail_sound hR hE hok hzz hzo hQ m (i+1) (l.setIfInBounds i true) T2 H' I' η' a' w' (by omega) (by omega) (by simpa using hs) (count_set h0 hc) hdn' (fun j hj hjz=>?_) t1 t3 ⟨g3.sat,g3.tmp.loose t2 t4⟩ (g1.trans hds) (hR.trans hr g4)
     rw[a1e (by omega),hl j hj hjz]
     omega
    unfold Fin1 at h1
    split
    ·rename_i hw
     rw[if_pos hw] at h1
     exact Oper.wpIn_mono next h1
    ·rename_i hw
     rw[if_neg hw] at h1
     exact⟨fun _ _=>trivial,next _ _ h1⟩
end
/-! ### what the state is when a set of the first phase has been carried out -/
section
variable {p:Nat} {dst:Nat→Nat} {val:Nat→V} {ob:Nat→Option O} {idn:Nat→Nat}
structure IsT (p:Nat) (dst:Nat→Nat) (val:Nat→V) (T₀:List V) (S:Nat→Prop) (T:List V):Prop where
 len:T.length=T₀.length
 on:∀i,i<p→S i→dst i<T₀.length→get .any T (dst i)=val i
 off:∀x,(∀i,i<p→S i→dst i≠x)→get .any T x=get .any T₀ x
theorem IsT.zero {T₀:List V} {S:Nat→Prop} (h:∀i,i<p→¬S i):IsT p dst val T₀ S T₀:=⟨rfl,fun i hi hs=>(h i hi hs).elim,fun _ _=>rfl⟩
theorem IsT.add {T₀ T:List V} {S S':Nat→Prop} (h:IsT p dst val T₀ S T) {i:Nat} (hi:i<p) (hap:∀j,j<p→j≠i→dst j≠dst i) (hS:∀j,S' j↔j=i∨S j):IsT p dst val T₀ S' (set T (dst i) (val i)):=by
 refine⟨by rw[a0v];simpa using h.len,?_,?_⟩
 ·intro j hj hs hl
  rw[a2j]
  by_cases hji:j=i
  ·subst hji;rw[if_pos ⟨rfl,by rw[h.len];exact hl⟩]
  ·rw[if_neg (fun hh=>hap j hj hji hh.1)]
   exact h.on j hj (((hS j).1 hs).resolve_left hji) hl
 ·intro x hx
  rw[a2j,if_neg (fun hh=>hx i hi ((hS i).2 (.inl rfl)) hh.1.symm)]
  exact h.off x (fun j hj hs=>hx j hj ((hS j).2 (.inr hs)))
theorem IsT.same {T₀ T T':List V} {S S':Nat→Prop} (h:IsT p dst val T₀ S T) (h':IsT p dst val T₀ S' T') {x:Nat} (hS:∀i,i<p→dst i=x→(S i↔S' i)):get .any T x=get .any T' x:=by
 by_cases hx:∃i,i<p∧S i∧dst i=x
 ·obtain⟨i,hi,hs,rfl⟩:=hx
  by_cases hl:dst i<T₀.length
  ·rw[h.on i hi hs hl,h'.on i hi ((hS i hi rfl).1 hs) hl]
  ·rw[a0z,a0z,a0V (by rw[h.len];omega),a0V (by rw[h'.len];omega)]
 ·have hx1:∀i,i<p→S i→dst i≠x:=fun i hi hs he=>hx ⟨i,hi,hs,he⟩
  rw[h.off x hx1,h'.off x (fun i hi hs he=>hx ⟨i,hi,(hS i hi he).2 hs,he⟩)]
structure IsH (p:Nat) (ob:Nat→Option O) (idn:Nat→Nat) (H₀:List O) (N:Nat) (S:Nat→Prop) (H:List O):Prop where
 len:H.length=H₀.length+N
 old:∀j,j<H₀.length→H[j]? = H₀[j]?
 on:∀i b,i<p→ob i=some b→S i→H[idn i]? = some b
 off:∀i b,i<p→ob i=some b→¬S i→H[idn i]? = some .gone
theorem IsH.eq {H₀ H H':List O} {N:Nat} {S S':Nat→Prop} (hcov:∀j,H₀.length≤j→j<H₀.length+N→∃i b,i<p∧ob i=some b∧idn i=j)
  (h:IsH p ob idn H₀ N S H) (h':IsH p ob idn H₀ N S' H') (hS:∀i b,i<p→ob i=some b→S i) (hS':∀i,i<p→S' i):H=H':=by
 apply a2L (by rw[h.len,h'.len])
 intro j h1 h2
 have:H[j]? = H'[j]?:=by
  rcases a1N j H₀.length with hj|hj
  ·rw[h.old j hj,h'.old j hj]
  ·obtain⟨i,b,hi,hb,rfl⟩:=hcov j hj (by rw[←h.len];exact h1)
   rw[h.on i b hi hb (hS i b hi hb),h'.on i b hi hb (hS' i hi)]
 rw[a0C h1,a0C h2] at this
 exact a1Z this
end
end Go.Sx
namespace Go.Sx
open Go
variable {P : Program} {E : Env}
structure Tr (P : Program) (R : Rel) (ops : Array Oper) (p : Nat) (H : List O) (T : List V) (Ts : Nat → List V) (Ls : Nat → List O) (val : Nat → V) (ob : Nat → Option O) (dst : Nat → Nat) : Prop where
  dsts : ∀ i, i < p → ∃ o, ops[i]? = some o ∧ o.dst = some (dst i) ∧ OpFact P R ops H o (Ts i) (H.length + (Ls i).length) (val i) (ob i) ∧ Ts (i + 1) = set (Ts i) (dst i) (val i) ∧ Ls (i + 1) = Ls i ++ (ob i).toList ∧ (∀ x k, o.op = .extract x k → ob i = none) ∧ LateFact o (H.length + (Ls i).length) (val i) (ob i)
  ap : ∀ i j, i < p → j < p → j ≠ i → dst j ≠ dst i
  isT : ∀ k, k ≤ p → IsT p dst val T (fun i => i < k) (Ts k)
  idlt : ∀ i b, i < p → ob i = some b → ∀ k, i < k → k ≤ p → (Ls i).length < (Ls k).length
  idinj : ∀ i j b b', i < p → j < p → ob i = some b → ob j = some b' → H.length + (Ls i).length = H.length + (Ls j).length → i = j
  cov : ∀ j, H.length ≤ j → j < H.length + (Ls p).length → ∃ i b, i < p ∧ ob i = some b ∧ H.length + (Ls i).length = j
  full : IsH p ob (fun i => H.length + (Ls i).length) H (Ls p).length (fun _ => True) (H ++ Ls p)
theorem draw_phase {R : Rel} (hR : RelOk R) (hE : a1b E P) {r : Option Nat} {n : Nat} {ops : Array Oper} {K0 : List V → List O → Prop} {T : List V} {H : List O} {I : Nat → Prop} {η : Eta} {w : World} {a : Act} {Q : Exit → Act → World → Prop}
    {p : Nat} {zs : List Nat} (hok : DOk ops p zs)
    (h : drawOps (sys P) E ops.toList H K0 (take p ops.toList) H.length T [])
    (hg : Good I η w T H a)
    (hfin : ∀ (Ts : Nat → List V) (Ls : Nat → List O) (val : Nat → V) (ob : Nat → Option O) (dst : Nat → Nat), Tr P R ops p H T Ts Ls val ob dst → K0 (Ts p) (Ls p) →
      ∀ (m : Nat) (l : Array Bool) (a' : Act) (w' : World) (I' : Nat → Prop) (η' : Eta) (T' : List V) (H' : List O), l.size = ops.size → l.count false = m → Down ops l → (∀ j, p ≤ j → j < ops.size → ¬ l.getD j false = true) → a'.defers = a.defers →
      (∀ i, i < p → i ∉ zs → l.getD i false = true) → Good I' η' w' T' H' a' → R I (own η H) w I' (own η' H') w' → IsT p dst val T (fun i => l.getD i false = true) T' → IsH p ob (fun i => H.length + (Ls i).length) H (Ls p).length (fun i => l.getD i false = true) H' →
      (∀ i b, i < p → ob i = some b → ¬ l.getD i false = true → η'[H.length + (Ls i).length]? = some (none, 1)) → wpAnyIn (Fw r) n P .any ops Q m l a' w') : wpAnyIn (Fw r) n P .any ops Q ops.size (Array.replicate ops.size false) a { w with drawn := w.drawn + 1 } := by
  obtain ⟨Ts, Ls, val, ob, t0, l0, hK, hstep⟩ := drawOps_tr hR hE _ _ T [] h (by simp)
  have hplen : (take p ops.toList).length = p := by rw [take_eq, a0J]; have := hok.le; simp; omega
  rw [hplen] at hK
  have hstep' : ∀ i, i < p → ∃ o d, ops[i]? = some o ∧ o.dst = some d ∧ OpFact P R ops H o (Ts i) (H.length + (Ls i).length) (val i) (ob i) ∧ Ts (i + 1) = set (Ts i) d (val i) ∧ Ls (i + 1) = Ls i ++ (ob i).toList ∧ (∀ x k, o.op = .extract x k → ob i = none) ∧ LateFact o (H.length + (Ls i).length) (val i) (ob i) := by
    intro i hi
    have hlt : i < ops.size := by have := hok.le; omega
    obtain ⟨d, h1, h2, h3, h4, h5⟩ := hstep i ops[i] (by rw [take_eq, a1C, if_pos hi]; simp [hlt])
    exact ⟨ops[i], d, by simp [hlt], h1, h2, h3, h4, h5⟩
  clear hstep h
  -- the destinations
  let dst : Nat → Nat := fun i => ((ops[i]?).bind (·.dst)).getD 0
  have hdst : ∀ i, i < p → ∃ o, ops[i]? = some o ∧ o.dst = some (dst i) ∧ OpFact P R ops H o (Ts i) (H.length + (Ls i).length) (val i) (ob i) ∧ Ts (i + 1) = set (Ts i) (dst i) (val i) ∧ Ls (i + 1) = Ls i ++ (ob i).toList ∧ (∀ x k, o.op = .extract x k → ob i = none) ∧ LateFact o (H.length + (Ls i).length) (val i) (ob i) := by
    intro i hi
    obtain ⟨o, d, h1, h2, h3, h4, h5, h6⟩ := hstep' i hi
    have : dst i = d := by simp only [dst, h1]; simp [h2]
    exact ⟨o, h1, by rw [this]; exact h2, h3, by rw [this]; exact h4, h5, h6⟩
  clear hstep'
  have hap : ∀ i j, i < p → j < p → j ≠ i → dst j ≠ dst i := by
    intro i j hi hj hne he
    obtain ⟨o, h1, h2, _⟩ := hdst i hi
    obtain ⟨o', g1, g2, _⟩ := hdst j hj
    exact hok.apart j i o' o hj hi g1 h1 hne (by rw [h2, g2, he])
  have hTs : ∀ k, k ≤ p → IsT p dst val T (fun i => i < k) (Ts k) := by
    intro k
    induction k with
    | zero => intro _; rw [t0]; exact IsT.zero (fun i _ hi => by omega)
    | succ k ih =>
      intro hk
      obtain ⟨o, h1, h2, _, h4, _⟩ := hdst k (by omega)
      rw [h4]
      exact (ih (by omega)).add (by omega) (fun j hj hne => hap k j (by omega) hj hne) (fun j => by omega)
  let idn : Nat → Nat := fun i => H.length + (Ls i).length
  let N := (Ls p).length
  have hpre : ∀ i k, i ≤ k → k ≤ p → ∃ L, Ls k = Ls i ++ L := by
    intro i k
    induction k with
    | zero => intro hik _; have : i = 0 := by omega
              subst this; exact ⟨[], by simp⟩
    | succ k ih =>
      intro hik hk
      rcases a1N k i with h1 | h1
      · have : i = k + 1 := by omega
        subst this; exact ⟨[], by simp⟩
      · obtain ⟨L, hL⟩ := ih h1 (by omega)
        obtain ⟨o, _, _, _, _, h5, _⟩ := hdst k (by omega)
        exact ⟨L ++ (ob k).toList, by rw [h5, hL]; simp⟩
  have hidlt : ∀ i b, i < p → ob i = some b → ∀ k, i < k → k ≤ p → (Ls i).length < (Ls k).length := by
    intro i b hi hb k hik hk
    obtain ⟨L, hL⟩ := hpre (i + 1) k (by omega) hk
    obtain ⟨o, _, _, _, _, h5, _⟩ := hdst i hi
    rw [hL, h5, hb]
    simp
  have hidinj : ∀ i j b b', i < p → j < p → ob i = some b → ob j = some b' → idn i = idn j → i = j := by
    intro i j b b' hi hj hb hb' he
    simp only [idn] at he
    rcases a3G i j with h1 | h1 | h1
    · have := hidlt i b hi hb j h1 (by omega); omega
    · exact h1
    · have := hidlt j b' hj hb' i h1 (by omega); omega
  have hcov : ∀ k, k ≤ p → ∀ j, j < (Ls k).length → ∃ i b, i < k ∧ ob i = some b ∧ (Ls i).length = j := by
    intro k
    induction k with
    | zero => intro _ j hj; rw [l0] at hj; simp at hj
    | succ k ih =>
      intro hk j hj
      obtain ⟨o, _, _, _, _, h5, _⟩ := hdst k (by omega)
      rw [h5] at hj
      rcases a1N j (Ls k).length with h1 | h1
      · obtain ⟨i, b, hi, hb, he⟩ := ih (by omega) j h1
        exact ⟨i, b, by omega, hb, he⟩
      · cases hb : ob k with
        | none => rw [hb] at hj; simp at hj; omega
        | some b => rw [hb] at hj; simp at hj; exact ⟨k, b, by omega, hb, by omega⟩
  have hcov' : ∀ j, H.length ≤ j → j < H.length + N → ∃ i b, i < p ∧ ob i = some b ∧ idn i = j := by
    intro j h1 h2
    obtain ⟨i, b, hi, hb, he⟩ := hcov p (a0K _) (j - H.length) (by simp only [N] at h2; omega)
    exact ⟨i, b, hi, hb, by simp only [idn]; omega⟩
  have hfull : IsH p ob idn H N (fun _ => True) (H ++ Ls p) := by
    refine ⟨by simp [N], fun j hj => a0F hj, ?_, fun i b _ _ hn => (hn trivial).elim⟩
    intro i b hi hb _
    obtain ⟨L, hL⟩ := hpre (i + 1) p (by omega) (a0K _)
    obtain ⟨o, _, _, _, _, h5, _⟩ := hdst i hi
    rw [hL, h5, hb]
    simp only [idn]
    rw [a0S (by omega)]
    simp
  have fin := hfin Ts Ls val ob dst ⟨hdst, hap, hTs, hidlt, hidinj, hcov', hfull⟩ hK
  -- the phase
  have phase : ∀ (m : Nat) (l : Array Bool) (a' : Act) (w' : World), l.size = ops.size → l.count false = m → Down ops l → (∀ j, p ≤ j → j < ops.size → ¬ l.getD j false = true) → a'.defers = a.defers →
      (∃ I' η' T' H', Good I' η' w' T' H' a' ∧ R I (own η H) w I' (own η' H') w' ∧ IsT p dst val T (fun i => l.getD i false = true) T' ∧ IsH p ob idn H N (fun i => l.getD i false = true) H' ∧ (∀ i b, i < p → ob i = some b → ¬ l.getD i false = true → η'[idn i]? = some (none, 1))) →
      wpAnyIn (Fw r) n P .any ops Q m l a' w' := by
    intro m
    induction m with
    | zero =>
      rintro l a' w' hs hc hdn htl hds ⟨I', η', T', H', hg', hr', hT, hH, hη⟩
      exact fin 0 l a' w' I' η' T' H' hs hc hdn htl hds (fun i hi _ => count_zero hc i (by have := hok.le; omega)) hg' hr' hT hH hη
    | succ m ih =>
      rintro l a' w' hs hc hdn htl hds ⟨I', η', T', H', hg', hr', hT, hH, hη⟩
      by_cases hall : ∀ i, i < p → i ∉ zs → l.getD i false = true
      · exact fin (m + 1) l a' w' I' η' T' H' hs hc hdn htl hds hall hg' hr' hT hH hη
      · constructor
        · intro hnil
          simp only [Classical.not_forall] at hall
          obtain ⟨j, hj, _, hnj⟩ := hall
          exact (least_ready hok.toDTail hs j (by have := hok.le; omega) hnj hnil).elim
        · intro i hi
          rw [mem_ready] at hi
          obtain ⟨h0, o, ho, hbefore⟩ := hi
          have hlt := (a0L.1 ho).1
          have hnl : ¬ l.getD i false = true := (getD_tf (by omega)).1 h0
          have hip : i < p := by
            rcases a1N i p with h1 | h1
            · exact h1
            · exfalso
              apply hall
              intro j hj hjz
              exact a2q hdn (i + 1) i o ho hbefore j ((hok.tail i hlt h1 j (by omega)).resolve_right hjz)
          obtain ⟨o', ho', hd, hfact, _, _, _, _⟩ := hdst i hip
          rw [ho] at ho'
          cases ho'
          have hag : ∀ x ∈ looks ops.toList o, get .any T' x = get .any (Ts i) x := by
            intro x hx
            refine hT.same (hTs i (by omega)) ?_
            intro j hj hjx
            obtain ⟨o2, k1, k2, _⟩ := hdst j hj
            obtain ⟨hji, e, he, hb, hon⟩ := hok.look i j o o2 hip hj ho k1 x hx (by rw [k2, hjx])
            exact ⟨fun _ => hji, fun _ => by rw [← hon]; exact hbefore e he hb⟩
          have hold : ∀ (j : Nat) (oo : O), H[j]? = some oo → H'[j]? = some oo := by
            intro j oo hj
            rw [hH.old j (a0B.1 hj).1]; exact hj
          have := hfact r n Q I' η' w' a' T' H' hag hold hg' (fun hs => by
            cases hb : ob i with
            | none => rw [hb] at hs; cases hs
            | some b => exact ⟨hη i b hip hb hnl, hH.off i b hip hb hnl⟩)
          have next : ∀ (a'' : Act) (w'' : World), (a''.defers = a'.defers ∧ ∃ I'' η'', Good I'' η'' w'' (match o.dst with | some d => set T' d (val i) | none => T') (match ob i with | some b => H'.set (H.length + (Ls i).length) b | none => H') a'' ∧
              (∀ (j : Nat), j ≠ H.length + (Ls i).length → η''[j]? = η'[j]?) ∧ (ob i = none → η'' = η') ∧ R I' (own η' H') w' I'' (own η'' (match ob i with | some b => H'.set (H.length + (Ls i).length) b | none => H')) w'') → wpAnyIn (Fw r) n P .any ops Q m (l.setIfInBounds i true) a'' w'' := by
            rintro a'' w'' ⟨hds', I'', η'', hg'', hη1, hη2, hr''⟩
            refine ih (l.setIfInBounds i true) a'' w'' (by simpa using hs) (count_set h0 hc) ?_ ?_ (hds'.trans hds) ⟨I'', η'', _, _, hg'', hR.trans hr' hr'', ?_, ?_, ?_⟩
            · intro j o2 ho2 hj e he hb
              rw [a1e (by omega)] at hj ⊢
              rcases hj with rfl | hj
              · rw [ho] at ho2; cases ho2
                exact .inr (hbefore e he hb)
              · exact .inr (hdn j o2 ho2 hj e he hb)
            · intro j h1 h2 h3
              rw [a1e (by omega)] at h3
              rcases h3 with rfl | h3
              · omega
              · exact htl j h1 h2 h3
            · rw [hd]
              exact hT.add hip (fun j hj hne => hap i j hip hj hne) (fun j => a1e (by omega))
            · cases hb : ob i with
              | none =>
                refine ⟨hH.len, hH.old, ?_, ?_⟩
                · intro j b hj hbj hsj
                  rw [a1e (by omega)] at hsj
                  rcases hsj with rfl | hsj
                  · rw [hb] at hbj; cases hbj
                  · exact hH.on j b hj hbj hsj
                · intro j b hj hbj hsj
                  rw [a1e (by omega)] at hsj
                  exact hH.off j b hj hbj (fun hh => hsj (.inr hh))
              | some b =>
                refine ⟨by simpa using hH.len, ?_, ?_, ?_⟩
                · intro j hj
                  rw [a0G, if_neg (by omega)]
                  exact hH.old j hj
                · intro j b' hj hbj hsj
                  rw [a1e (by omega)] at hsj
                  rw [a0G]
                  by_cases hji : j = i
                  · subst hji
                    rw [hb] at hbj; cases hbj
                    have hlen : H.length + (Ls j).length < H'.length := by
                      rw [hH.len]; have := hidlt j b hj hb p hj (a0K _); simp only [N]; omega
                    rw [if_pos rfl, if_pos hlen]
                  · rw [if_neg (fun he => hji (hidinj i j b b' hip hj hb hbj he).symm)]
                    exact hH.on j b' hj hbj (hsj.resolve_left hji)
                · intro j b' hj hbj hsj
                  rw [a1e (by omega)] at hsj
                  have hji : j ≠ i := fun he => hsj (.inl he)
                  rw [a0G, if_neg (fun he => hji (hidinj i j b b' hip hj hb hbj he).symm)]
                  exact hH.off j b' hj hbj (fun hh => hsj (.inr hh))
            · intro j b' hj hbj hsj
              rw [a1e (by omega)] at hsj
              have hji : j ≠ i := fun he => hsj (.inl he)
              cases hb : ob i with
              | none => rw [hη2 hb]; exact hη j b' hj hbj (fun hh => hsj (.inr hh))
              | some b => rw [hη1 _ (fun he => hji (hidinj i j b b' hip hj hb hbj he.symm).symm)]; exact hη j b' hj hbj (fun hh => hsj (.inr hh))
          unfold wpOpIn
          simp only [ho]
          split
          · rename_i hw
            rw [if_pos hw] at this
            exact Oper.wpIn_mono next this
          · rename_i hw
            rw [if_neg hw] at this
            exact ⟨fun _ _ => trivial, next _ _ this⟩
  -- the start
  obtain ⟨hg1, hs1⟩ := hg.drew
  obtain ⟨r1, r2, r3⟩ := hg1.sat.reserve N
  have hfalse : ∀ i, ¬ (Array.replicate ops.size false).getD i false = true := by
    intro i
    by_cases hi : i < ops.size
    · simp [hi]
    · simp [hi]
  refine phase ops.size (Array.replicate ops.size false) a _ (by simp) (by simp) ?_ (fun j _ _ => hfalse j) rfl ⟨I, _, T, _, ⟨r1, hg1.tmp.mono r2⟩, ?_, IsT.zero (fun i _ => hfalse i), ?_, ?_⟩
  · intro i o _ hi
    exact (hfalse i hi).elim
  · refine hR.trans (hR.step hs1) (hR.step ?_)
    exact ⟨rfl, rfl, rfl, a0K _, fun _ _ _ => rfl, fun _ hb => hb, fun _ hb => .inl hb, fun b hb => .inl ((r3 b).1 hb), r2.eta⟩
  · refine ⟨by simp, fun j hj => a0F hj, fun i b _ _ hi => (hfalse i hi).elim, ?_⟩
    intro i b hi hb _
    have := hidlt i b hi hb p hi (a0K _)
    rw [a0S (by simp only [idn]; omega)]
    simp only [idn, N]
    rw [List.getElem?_replicate, if_pos (by omega)]
  · intro i b hi hb _
    have := hidlt i b hi hb p hi (a0K _)
    rw [a0S (by simp only [idn]; rw [hg.sat.len]; omega)]
    simp only [idn, N]
    rw [hg.sat.len, List.getElem?_replicate, if_pos (by omega)]
theorem draw_soundZ {R : Rel} (hR : RelOk R) (hE : a1b E P) {r : Option Nat} {n : Nat} {ops : Array Oper} {K : KT} {T : List V} {H : List O} {I : Nat → Prop} {η : Eta} {w : World} {a : Act} {Q : Exit → Act → World → Prop}
    {p : Nat} {zs : List Nat} {zo : List Oper} (hok : DOk ops p zs) (hzz : ZOk ops zs) (hzo : ∀ z ∈ zs, ∀ o, ops[z]? = some o → o ∈ zo)
    (h : drawOps (sys P) E ops.toList H (fun T' L => appK H L fun H' => openK H' fun H' => clrK zo T' fun T' => execOpsZ (sys P) E ops.toList zo K (drop p ops.toList) T' H') (take p ops.toList) H.length T [])
    (hg : Good I η w T H a) (hQ : ∀ a' w', a1r R I (own η H) w a.defers K a' w' → Q .normal a' w') : wpAnyIn (Fw r) n P .any ops Q ops.size (Array.replicate ops.size false) a { w with drawn := w.drawn + 1 } := by
  refine draw_phase hR hE hok h hg ?_
  intro Ts Ls val ob dst tr hK
  rw [appK_eq, a2f] at hK
  have hdst := tr.dsts
  have hTs := tr.isT
  have hcov' := tr.cov
  have hfull := tr.full
  have hzob : ∀ i, i < p → i ∈ zs → ob i = none := by
    intro i hi hz
    obtain ⟨o, h1, _, _, _, _, h6, _⟩ := hdst i hi
    obtain ⟨_, x, k, hop⟩ := hzz i hz o h1
    exact h6 x k hop
  intro m l a' w' I' η' T' H' hs hc hdn htl hds hall hg' hr' hT hH _
  have e2 : H' = H ++ Ls p := hH.eq hcov' hfull (fun i b hi hb => hall i hi (fun hz => by rw [hzob i hi hz] at hb; cases hb)) (fun _ _ => trivial)
  rw [e2] at hg' hr'
  obtain ⟨H2, hK2, hS2, how⟩ := openK_sound hg'.sat hK
  have heq : own η' H2 = own η' (H ++ Ls p) := by
    unfold own
    congr 1
    funext b
    exact propext (how b)
  obtain ⟨T2, k1, k2, k3, k4, _⟩ := clrK_spec hK2
  refine tail_sound hR hE hok.toDTail hzz hzo hQ m p l T2 H2 I' η' a' w' (a0K _) hok.le hs hc hdn (fun j hj hjz => ⟨fun hh => ?_, fun hh => hall j hh hjz⟩) k1 k3 ⟨hS2, hg'.tmp.loose (k2.trans ((hTs p (a0K _)).len.trans hT.len.symm)) (fun x => ?_)⟩ hds (by rw [heq]; exact hr')
  · rcases a1N j p with h1 | h1
    · exact h1
    · exact (htl j h1 hj hh).elim
  · by_cases hx : ∃ o ∈ zo, o.dst = some x
    · obtain ⟨o, ho, hd⟩ := hx
      exact .inl (k3 o ho x hd)
    · rcases k4 x with g | g
      · exact .inl g
      · refine .inr (g.trans ((hTs p (a0K _)).same hT (fun i hi hix => ⟨fun _ => hall i hi (fun hz => ?_), fun _ => hi⟩)))
        obtain ⟨o, h1, h2, _⟩ := hdst i hi
        exact hx ⟨o, hzo i hz o h1, by rw [h2, hix]⟩
end Go.Sx
set_option maxRecDepth 100000
namespace Go.Sx
open Go
structure PermOk (ops ops':Array Oper) (pos:Nat→Nat):Prop where
 size:ops'.size=ops.size
 get:∀(i:Nat) (o:Oper),ops[i]? = some o→ops'[pos i]? = some (renOp pos o)
 inj:∀i j,i<ops.size→pos i=pos j→i=j
 onto:∀k,k<ops.size→∃i,i<ops.size∧pos i=k
 edge:∀(i:Nat) (o:Oper),ops[i]? = some o→∀e∈o.after,e.on<ops.size
 grd:∀(i:Nat) (o:Oper),ops[i]? = some o→∀g∈o.guard,g.1<ops.size
theorem PermOk.lt {ops ops':Array Oper} {pos:Nat→Nat} (h:PermOk ops ops' pos) {i:Nat} (hi:i<ops.size):pos i<ops.size:=by
 have:=h.get i ops[i] (by simp[hi])
 rw[←h.size]
 exact(a0L.1 this).1
theorem PermOk.wanted {ops ops':Array Oper} {pos:Nat→Nat} (h:PermOk ops ops' pos) {i:Nat} {o:Oper} (ho:ops[i]? = some o) (tmps:Array Value) :
  Region.wanted (renOp pos o) (yielded ops' tmps)=Region.wanted o (yielded ops tmps):=by
 have hg:=h.grd i o ho
 unfold Region.wanted renOp
 cases hgo:o.guard with
 |none=>rfl
 |some g=>
  obtain⟨j,b⟩:=g
  have hj:j<ops.size:=hg (j,b) (by rw[hgo];rfl)
  have hy:yielded ops' tmps (pos j)=yielded ops tmps j:=by
   unfold yielded
   rw[h.get j ops[j] (by simp[hj])]
   have:ops[j]? = some ops[j]:=by simp[hj]
   rw[this]
   rfl
  simp only[a3U]
  rw[hy]
theorem PermOk.wpOpIn {F:Fence} {n:Nat} {P:Program} {ops ops':Array Oper} {pos:Nat→Nat} (h:PermOk ops ops' pos) {i:Nat} (hi:i<ops.size) {K:Act→World→Prop} {Q:Exit→Act→World→Prop} {a:Act} {w:World}
  (hw:Go.wpOpIn F n P ops' Q (pos i) K a w):Go.wpOpIn F n P ops Q i K a w:=by
 have ho:ops[i]? = some ops[i]:=by simp[hi]
 unfold Go.wpOpIn at hw ⊢
 rw[h.get i _ ho] at hw
 rw[ho]
 simp only[h.wanted ho] at hw ⊢
 exact hw
theorem PermOk.wpAnyIn {F:Fence} {n:Nat} {P:Program} {ops ops':Array Oper} {pos:Nat→Nat} (h:PermOk ops ops' pos) {Q:Exit→Act→World→Prop} :
  ∀(fuel:Nat) (l l':Array Bool) (a:Act) (w:World),l.size=ops.size→l'.size=ops.size→(∀i,i<ops.size→l[i]? = l'[pos i]?)→wpAnyIn F n P .any ops' Q fuel l' a w→wpAnyIn F n P .any ops Q fuel l a w:=by
 have rdy:∀(l l':Array Bool),l.size=ops.size→l'.size=ops.size→(∀i,i<ops.size→l[i]? = l'[pos i]?)→∀i,i<ops.size→(i∈Region.ready .any ops l↔pos i∈Region.ready .any ops' l'):=by
  intro l l' hl hl' hll i hi
  rw[mem_ready,mem_ready]
  have ho:ops[i]? = some ops[i]:=by simp[hi]
  have hd:∀(j:Nat) (d:Bool),j<ops.size→l.getD j d=l'.getD (pos j) d:=by
   intro j d hj
   rw[a1W,a1W,hll j hj]
  rw[ho,h.get i _ ho,hd i true hi]
  refine and_congr_right fun _=>?_
  constructor
  ·rintro⟨o,ho2,hall⟩
   cases ho2
   refine⟨_,rfl,fun e he hb=>?_⟩
   simp only[renOp,List.mem_toArray,a2V,Array.mem_toList_iff] at he
   obtain⟨e',he',rfl⟩:=he
   have:=hall e' he' hb
   rw[hd e'.on false (h.edge i _ ho e' he')] at this
   exact this
  ·rintro⟨o,ho2,hall⟩
   cases ho2
   refine⟨_,rfl,fun e he hb=>?_⟩
   rw[hd e.on false (h.edge i _ ho e he)]
   exact hall {e with on:=pos e.on} (by simp only[renOp,List.mem_toArray,a2V,Array.mem_toList_iff];exact⟨e,he,rfl⟩) hb
 have nil:∀(l l':Array Bool),l.size=ops.size→l'.size=ops.size→(∀i,i<ops.size→l[i]? = l'[pos i]?)→Region.ready .any ops l=[]→Region.ready .any ops' l'=[]:=by
  intro l l' hl hl' hll he
  refine a2P.2 fun k hk=>?_
  have hk2:k<ops.size:=by
   obtain⟨_,o,ho,_⟩:=mem_ready.1 hk
   have:=(a0L.1 ho).1
   rw[h.size] at this
   exact this
  obtain⟨i,hi,rfl⟩:=h.onto k hk2
  have:=(rdy l l' hl hl' hll i hi).2 hk
  rw[he] at this
  cases this
 intro fuel
 induction fuel with
 |zero=>
  intro l l' a w hl hl' hll hw
  refine⟨?_,hw.2⟩
  refine a2P.2 fun k hk=>?_
  have hk2:k<ops.size:=by
   obtain⟨_,o,ho,_⟩:=mem_ready.1 hk
   exact(a0L.1 ho).1
  have:=(rdy l l' hl hl' hll k hk2).1 hk
  rw[hw.1] at this
  cases this
 |succ fuel ih=>
  intro l l' a w hl hl' hll hw
  refine⟨fun he=>hw.1 (nil l l' hl hl' hll he),fun i hi=>?_⟩
  have hi2:i<ops.size:=by
   obtain⟨_,o,ho,_⟩:=mem_ready.1 hi
   exact(a0L.1 ho).1
  refine h.wpOpIn hi2 (wpOpIn_mono (fun a w hk=>ih _ _ a w (by simp[hl]) (by simp[hl']) (fun j hj=>?_) hk) (hw.2 (pos i) ((rdy l l' hl hl' hll i hi2).1 hi)))
  rw[a3H,a3H,hll j hj,hl,hl',if_pos hi2,if_pos (h.lt hi2)]
  by_cases hij:i=j
  ·rw[if_pos hij,if_pos (congrArg pos hij)]
  ·rw[if_neg hij,if_neg (fun hp=>hij (h.inj i j hi2 hp))]
theorem beq_prop (i f:Nat):(i.beq f=true)=(i=f):=propext ⟨Nat.eq_of_beq_eq_true,fun h=>by subst h;exact Nat.beq_refl i⟩
theorem posMv_eq (f t i:Nat):posMv f t i=if i=f then t else if t≤i∧i<f then i+1 else i:=by
 unfold posMv
 simp only[cond_eq_ite,a0D,beq_prop,Nat.ble_eq,Nat.blt_eq]
theorem invMv_eq (f t k:Nat):invMv f t k=if k=t then f else if t<k∧k≤f then k-1 else k:=by
 unfold invMv
 simp only[cond_eq_ite,a0D,beq_prop,Nat.ble_eq,Nat.blt_eq]
theorem posMv_lt {f t n i:Nat} (h1:t≤f) (h2:f<n) (hi:i<n):posMv f t i<n:=by
 rw[posMv_eq]
 split
 ·omega
 ·split<;>omega
theorem invMv_lt {f t n k:Nat} (h2:f<n) (hk:k<n):invMv f t k<n:=by
 rw[invMv_eq]
 split
 ·omega
 ·split<;>omega
theorem invMv_pos {f t i:Nat} (h1:t≤f):invMv f t (posMv f t i)=i:=by
 rw[posMv_eq]
 by_cases h2:i=f
 ·rw[if_pos h2,invMv_eq,if_pos rfl,h2]
 ·rw[if_neg h2]
  by_cases h3:t≤i∧i<f
  ·rw[if_pos h3,invMv_eq,if_neg (by omega),if_pos (by omega)];omega
  ·rw[if_neg h3,invMv_eq,if_neg (by omega),if_neg (by omega)]
theorem posMv_inv {f t k:Nat} (h1:t≤f):posMv f t (invMv f t k)=k:=by
 rw[invMv_eq]
 by_cases h2:k=t
 ·rw[if_pos h2,posMv_eq,if_pos rfl,h2]
 ·rw[if_neg h2]
  by_cases h3:t<k∧k≤f
  ·rw[if_pos h3,posMv_eq,if_neg (by omega),if_pos (by omega)];omega
  ·rw[if_neg h3,posMv_eq,if_neg (by omega),if_neg (by omega)]
theorem mvOps_eq {f t:Nat} {ops:List Oper} (_h1:t≤f) (h2:f<ops.length):(mvOps f t ops).map some=(List.range ops.length).map (fun k=>(ops[invMv f t k]?).map (renOp (posMv f t))):=by
 unfold mvOps
 have:∀l:List Nat,(∀k∈l,k<ops.length)→(l.filterMap fun k=>(ops[invMv f t k]? : Option Oper).map (renOp (posMv f t))).map some=l.map (fun k=>(ops[invMv f t k]?).map (renOp (posMv f t))):=by
  intro l
  induction l with
  |nil=>intro _;rfl
  |cons k l ih=>
   intro hl
   have hk:=invMv_lt (t:=t) h2 (hl k (a1V ..))
   rw[List.filterMap_cons,a0C hk]
   simp only[a3U,a3Y]
   rw[ih fun k' hk'=>hl k' (a2K _ hk'),a0C hk]
   rfl
 exact this _ fun k hk=>a1F.1 hk
theorem mvOk_spec {f t:Nat} {ops:Array Oper} (h:mvOk f t ops.toList=true):PermOk ops (mvOps f t ops.toList).toArray (posMv f t):=by
 unfold mvOk at h
 simp only[a0D,Nat.ble_eq,Nat.blt_eq,a2G] at h
 obtain⟨⟨h1,h2⟩,h3⟩:=h
 have hm:=mvOps_eq h1 h2
 have hlen:(mvOps f t ops.toList).length=ops.toList.length:=by
  have:=congrArg List.length hm
  simpa using this
 refine⟨by simpa using hlen,fun i o ho=>?_,fun i j _ hij=>?_,fun k hk=>⟨invMv f t k,?_,posMv_inv h1⟩,fun i o ho e he=>?_,fun i o ho g hg=>?_⟩
 ·have hi:i<ops.size:=(a0L.1 ho).1
  have hp:=posMv_lt h1 (by simpa using h2) hi
  have:=congrArg (fun l=>l[posMv f t i]?) hm
  simp only[a1O] at this
  rw[List.getElem?_range (by simpa using hp)] at this
  simp only[a3U,invMv_pos h1] at this
  have ho':ops.toList[i]? = some o:=by simpa using ho
  rw[ho'] at this
  cases hq:(mvOps f t ops.toList)[posMv f t i]? with
  |none=>rw[hq] at this;simp at this
  |some x=>rw[hq] at this;simp only[Option.map_some,Option.some.injEq] at this;simpa [this] using hq
 ·have:=congrArg (invMv f t) hij
  rwa [invMv_pos h1,invMv_pos h1] at this
 ·exact invMv_lt (by simpa using h2) hk
 ·have hmem:o∈ops.toList:=by
   have ho':ops.toList[i]? = some o:=by simpa using ho
   exact a1Y ho'
  have:=(h3 o hmem).1 e (by simpa using he)
  simpa using this
 ·have hmem:o∈ops.toList:=by
   have ho':ops.toList[i]? = some o:=by simpa using ho
   exact a1Y ho'
  have:=(h3 o hmem).2
  have hg:o.guard=some g:=hg
  rw[hg] at this
  simpa using this
end Go.Sx
set_option maxRecDepth 100000
namespace Go.Sx
open Go
def QN (Q:Exit→Act→World→Prop):Exit→Act→World→Prop
 |.panic _,_,_=>False
 |e,a,w=>Q e a w
theorem QN_imp {Q:Exit→Act→World→Prop}:∀e a w,QN Q e a w→Q e a w:=by
 intro e a w h
 cases e<;>first|exact h|exact h.elim
section
variable {F:Fence} {n:Nat} {P:Program} {ops:Array Oper} {Q Q':Exit→Act→World→Prop} {md:Region.Mode}
theorem Oper.wpIn_monoQ {o:Oper} {a:Act} {w:World} {K:Act→World→Prop} (hq:∀e a w,Q e a w→Q' e a w)
  (hh:o.wpIn F n P a w K Q):o.wpIn F n P a w K Q':=by
 unfold Oper.wpIn at *
 refine⟨hh.1,?_⟩
 have hh:=hh.2
 generalize (o.semAt F.round a.eval).run P w=r at *
 cases r with
 |ok x w'=>
  cases x<;>simp only[Oper.uponIn] at hh ⊢<;>
   first
    |exact hh
    |exact⟨hh.1,CallsIn.mono hh.2 (fun e w'' he=>by cases e<;>first|exact he|exact hq _ _ _ he|exact(let⟨a,w,h⟩:=he;⟨a,w,hq _ _ _ h⟩))⟩
    |exact⟨hh.1,RoundIn.mono hh.2 (fun e w'' he=>by cases e<;>first|exact he|exact hq _ _ _ he|exact(let⟨a,w,h⟩:=he;⟨a,w,hq _ _ _ h⟩))⟩
 |halt x w'=>cases x<;>simp only[Oper.uponIn] at hh ⊢<;>first|exact hq _ _ _ hh|exact hh
theorem wpOpIn_monoQ {i:Nat} {a:Act} {w:World} {K K':Act→World→Prop} (hq:∀e a w,Q e a w→Q' e a w) (hk:∀a w,K a w→K' a w)
  (hh:wpOpIn F n P ops Q i K a w):wpOpIn F n P ops Q' i K' a w:=by
 refine wpOpIn_mono hk ?_
 unfold wpOpIn at *
 split
 ·simpa [*] using hh
 ·rename_i o ho
  simp only[ho] at hh
  split
  ·rename_i hw;simp only[hw,if_true] at hh;exact Oper.wpIn_monoQ hq hh
  ·rename_i hw;simp only[hw] at hh;exact hh
theorem wpAnyIn_monoQ (hq:∀e a w,Q e a w→Q' e a w):∀(fuel:Nat) (l:Array Bool) (a:Act) (w:World),wpAnyIn F n P md ops Q fuel l a w→wpAnyIn F n P md ops Q' fuel l a w
 |0,_,_,_,h=>⟨h.1,hq _ _ _ h.2⟩
 |fuel+1,_,_,_,h=>⟨fun he=>hq _ _ _ (h.1 he),fun i hi=>wpOpIn_monoQ hq (fun a w=>wpAnyIn_monoQ hq fuel _ a w) (h.2 i hi)⟩
end
section
variable {F:Fence} {n:Nat} {P:Program} {ops:Array Oper} {Q:Exit→Act→World→Prop} {md:Region.Mode}
theorem yields_op {i:Nat} {o:Oper} {v:Value} {a:Act} (hdf:∀c,o.op≠.defer c) (hi:ops[i]? = some o) (hy:YieldsFenced P ops o v a)
  {K:Act→World→Prop} {w:World} (h:K (a.put o.dst v) w):wpOpIn F n P ops Q i K a w:=by
 unfold Go.wpOpIn
 simp only[hi]
 have hab:∀f,o.about P w a.eval=some f→F.fn f:=fun f hf=>by rw[hy.2 w] at hf;cases hf
 rcases hy.1 with⟨hw,hv⟩|⟨hw,rfl⟩
 ·simp only[hw,if_true,Oper.wpIn,Oper.semAt_eq _ _ _ hdf,hv w,Oper.uponIn];exact⟨hab,h⟩
 ·simp only[hw,a2N,if_false];exact⟨hab,h⟩
theorem put_op {j:Nat} {oi oj:Oper} {v:Value} (hdf:∀c,oj.op≠.defer c) (hj:ops[j]? = some oj) (hap:oi.apart ops oj=true)
  (hsi:∀cs b,oi.op≠.select cs b) (hsj:∀cs b,oj.op≠.select cs b)
  (hQ:∀c a w,Q (.panic c) (a.put oi.dst v) w→Q (.panic c) a w) {K:Act→World→Prop} {a:Act} {w:World}
  (hy:YieldsFenced P ops oi v a) (h:wpOpIn F n P ops Q j K (a.put oi.dst v) w) :
  wpOpIn F n P ops Q j (fun a' w'=>YieldsFenced P ops oi v a'∧K (a'.put oi.dst v) w') a w:=by
 obtain⟨h1,h2,h3⟩:=Oper.apart_spec hap
 have keep:∀(a:Act),YieldsFenced P ops oi v a→∀u,YieldsFenced P ops oi v (a.put oj.dst u):=fun a hy u=>
  hy.of_same (execOp_put oi hsi a oj.dst u h3) (wanted_put oi a oj.dst u h3) (fun w=>about_put oi w a oj.dst u h3)
 have keepD:∀d,YieldsFenced P ops oi v {a with defers:=d :: a.defers}:=fun d=>hy.of_same rfl rfl (fun _=>rfl)
 unfold wpOpIn at *
 simp only[hj] at *
 rw[wanted_put oj a oi.dst v h1,about_put oj w a oi.dst v h1] at h
 split
 ·rename_i hw
  simp only[hw,if_true] at h
  unfold Oper.wpIn at *
  rw[about_put oj w a oi.dst v h1] at h
  refine⟨h.1,?_⟩
  have h:=h.2
  rw[Oper.semAt_eq _ _ _ hdf,execOp_put oj hsj a oi.dst v h1] at h
  rw[Oper.semAt_eq _ _ _ hdf]
  generalize (execOp a.eval oj).run P w=r at *
  cases r with
  |ok x w'=>
   cases x<;>simp only[Oper.uponIn] at h ⊢
   case value u=>exact⟨keep a hy u,by rw[←Act.put_comm a v u h2];exact h⟩
   case skip=>exact⟨keep a hy _,by rw[←Act.put_comm a v undef h2];exact h⟩
   case defer d=>
    refine⟨keep _ (keepD d) _,?_⟩
    rw[←Act.put_comm _ v undef h2,←Act.put_defers]
    exact h
   case enter f args=>
    refine⟨h.1,CallsIn.mono h.2 fun e w'' he=>?_⟩
    cases e with
    |returned u=>exact⟨keep a hy u,by rw[←Act.put_comm a v u h2];exact he⟩
    |panicked c=>exact hQ _ _ _ he
    |outgrown=>exact he
   case row row args=>exact⟨h.1,RowsIn.mono h.2 fun u w'' he=>⟨keep a hy u,by rw[←Act.put_comm a v u h2];exact he⟩⟩
   case round l f tmps assign body=>
    refine⟨h.1,RoundIn.mono h.2 fun e w'' he=>?_⟩
    cases e with
    |returned u=>exact⟨keep a hy u,by rw[←Act.put_comm a v u h2];exact he⟩
    |panicked c=>exact hQ _ _ _ he
    |outgrown=>exact he
  |halt x w'=>
   cases x<;>simp only[Oper.uponIn] at h ⊢
   case panic u=>exact hQ _ _ _ h
 ·rename_i hw
  simp only[hw] at h
  exact⟨h.1,keep a hy _,by rw[←Act.put_comm a v undef h2];exact h.2⟩
theorem first_op {i:Nat} {oi:Oper} {v:Value} (hdf:∀(j:Nat) (o:Oper) c,ops[j]? = some o→o.op≠.defer c) (hi:ops[i]? = some oi) (hsel:∀(j:Nat) (o:Oper) cs b,ops[j]? = some o→o.op≠.select cs b)
  (hQ:∀c a w,Q (.panic c) (a.put oi.dst v) w→Q (.panic c) a w) :
  ∀(fuel:Nat) (listed:Array Bool) (a:Act) (w:World),
   (∀j oj,ops[j]? = some oj→j≠i→listed.getD j true=false→(∀e∈oj.after,Region.binds md e=true→e.on≠i)→oi.apart ops oj=true)→
   i∈Region.ready md ops listed→YieldsFenced P ops oi v a→
   wpAnyIn F n P md ops Q fuel (listed.setIfInBounds i true) (a.put oi.dst v) w→wpAnyIn F n P md ops Q (fuel+1) listed a w:=by
 intro fuel
 induction fuel with
 |zero=>
  intro listed a w _ hr hy H
  refine⟨fun h=>(by rw[h] at hr;cases hr),fun j hj=>?_⟩
  by_cases hji:j=i
  ·subst hji;exact yields_op (fun c=>hdf _ _ c hi) hi hy H
  ·have:=ready_mono hj hji
   rw[H.1] at this
   cases this
 |succ fuel ih=>
  intro listed a w hfree hr hy H
  refine⟨fun h=>(by rw[h] at hr;cases hr),fun j hj=>?_⟩
  by_cases hji:j=i
  ·subst hji;exact yields_op (fun c=>hdf _ _ c hi) hi hy H
  ·have h1:=H.2 j (ready_mono hj hji)
   obtain⟨hjun,oj,hoj,hall⟩:=mem_ready.1 hj
   have hnot:∀e∈oj.after,Region.binds md e=true→e.on≠i:=fun e he hb heq=>by
    have h1:=hall e he hb
    have h0:=(mem_ready.1 hr).1
    rw[heq] at h1
    rcases a1N i listed.size with h'|h'
    ·simp[h'] at h0 h1;rw[h0] at h1;cases h1
    ·simp[Array.getElem?_eq_none h'] at h1
   have h2:=put_op (fun c=>hdf _ _ c hoj) hoj (hfree j oj hoj hji hjun hnot) (fun cs b=>hsel i oi cs b hi) (fun cs b=>hsel j oj cs b hoj) hQ hy h1
   have hfree':∀k ok,ops[k]? = some ok→k≠i→(listed.setIfInBounds j true).getD k true=false→
     (∀e∈ok.after,Region.binds md e=true→e.on≠i)→oi.apart ops ok=true:=fun k ok hk hki hun hno=>by
    refine hfree k ok hk hki ?_ hno
    by_cases hjk:j=k
    ·subst hjk;exact hjun
    ·rw[getD_set_ne true hjk] at hun;exact hun
   refine wpOpIn_mono (fun a' w' h3=>ih (listed.setIfInBounds j true) a' w' hfree' (ready_mono hr (Ne.symm hji)) h3.1 ?_) h2
   rw[Array.setIfInBounds_comm _ _ hji]
   exact h3.2
end
theorem getD_any (l:Array Bool) (i:Nat):l.getD i true=false↔i<l.size∧l.getD i false=false:=by
 rcases a1N i l.size with h|h
 ·simp[h]
 ·simp[Nat.not_lt.2 h]
theorem slot_yields {E:Env} {P:Program} (hE:a1b E P) {F:Fence} {n:Nat} {ops:Array Oper} {o:Oper} {a:Act} {w:World} {K:Act→World→Prop} {Q:Exit→Act→World→Prop} (hk:edKind o.op=true) {z:Nat} (hz:ops.toList[z]? = some o) (he:edE E ops.toList z=true) (hg:o.guard=none) {i:Nat} (hi:ops[i]? = some o)
  (h:wpOpIn F n P ops (QN Q) i K a w):∃v,YieldsFenced P ops o v a∧K (a.put o.dst v) w:=by
 unfold wpOpIn at h
 simp only[hi] at h
 have hw:Region.wanted o (yielded ops a.tmps)=true:=by unfold Region.wanted;rw[hg]
 simp only[hw,if_true,Oper.wpIn] at h
 obtain⟨-,h⟩:=h
 unfold edKind at hk
 split at hk
 rotate_left 3
 ·cases hk
 all_goals rename_i hop
 ·rw[Oper.semAt_eq _ _ _ (by rw[hop];intro c hc;cases hc)] at h
  rename_i x
  have hr:∀w,(execOp a.eval o).run P w=.ok (.value (a.eval x)) w:=by intro w;simp[execOp,hop]
  rw[hr] at h
  exact⟨a.eval x,⟨.inl ⟨hw,hr⟩,fun w=>by unfold Oper.about;rw[hop]⟩,h⟩
 ·rw[Oper.semAt_eq _ _ _ (by rw[hop];intro c hc;cases hc)] at h
  rename_i x ix
  have hab:∀w,o.about P w a.eval=none:=fun w=>by unfold Oper.about;rw[hop]
  cases hx:a.eval x with
  |tuple vs=>
   cases hv:vs[ix]? with
   |some v=>
    have hr:∀w,(execOp a.eval o).run P w=.ok (.value v) w:=by intro w;simp[execOp,hop,Instr.extract,hx,hv]
    rw[hr] at h
    exact⟨v,⟨.inl ⟨hw,hr⟩,hab⟩,h⟩
   |none=>
    simp[execOp,hop,Instr.extract,hx,hv,Oper.uponIn] at h
  |_=>simp[execOp,hop,Instr.extract,hx,Oper.uponIn] at h
 ·rw[Oper.semAt_eq _ _ _ (by rw[hop];intro c hc;cases hc)] at h
  rename_i s x f
  have hab:∀w,o.about P w a.eval=none:=fun w=>by unfold Oper.about;rw[hop]
  unfold edE at he
  rw[hz] at he
  dsimp only at he
  rw[hop] at he
  simp only[a0D] at he
  obtain⟨hkn,hfo⟩:=he
  cases hf:fieldOf E s f with
  |none=>rw[hf] at hfo;cases hfo
  |some q=>
   obtain⟨fo,fn,ft⟩:=q
   obtain⟨fs,fd,hu,hfs,ho,hn,hn0,_⟩:=fieldOf_spec hE hkn hf
   obtain⟨i,hi,his⟩:=cellsOf_info (P:=P) (t:=fd.type) (by omega)
   have h0:¬i.size=0:=by omega
   cases hx:a.eval x with
   |pointer pa=>
    cases pa with
    |some ad=>
     have hr:∀w,(execOp a.eval o).run P w=.ok (.value (.pointer (some (ad.add fd.offset)))) w:=by
      intro w
      simp[execOp,hop,hx,Instr.fieldAt,run_underlying hu,hfs,Instr.sureAddr,fieldPlace,sizeOf,typeInfo,hi,h0]
     rw[hr] at h
     exact⟨_,⟨.inl ⟨hw,hr⟩,hab⟩,h⟩
    |none=>
     simp[execOp,hop,hx,Instr.fieldAt,run_underlying hu,hfs,Instr.sureAddr,Oper.uponIn] at h
   |_=>simp[execOp,hop,hx,Instr.fieldAt,run_underlying hu,hfs,Instr.sureAddr,Oper.uponIn] at h
theorem app_list {α:Type}:∀(l m:List α),app l m=l++m
 |[],_=>rfl
 |x :: l,m=>by simp[app,app_list l m]
theorem edOps_get (z:Nat):∀(y:Nat) (l:List Oper) (i:Nat),(edOps z y l)[i]? = (l[i]?).map (fun o=>if i=y then {o with after:=(o.after.toList++[({on:=z,ground:=.data}:Edge)]).toArray} else o)
 |_,[],i=>by simp[edOps]
 |0,o :: l,0=>by simp[edOps,app_list]
 |0,o :: l,i+1=>by simp[edOps]
 |y+1,o :: l,0=>by simp[edOps]
 |y+1,o :: l,i+1=>by simp[edOps,edOps_get z y l i]
structure EdOk (ops ops':Array Oper) (z y:Nat) (oz:Oper):Prop where
 size:ops'.size=ops.size
 zy:z≠y
 ysz:y<ops.size
 same:∀i,i≠y→ops'[i]? = ops[i]?
 aty:∀o,ops[y]? = some o→ops'[y]? = some {o with after:=(o.after.toList++[({on:=z,ground:=.data}:Edge)]).toArray}
 getz:ops[z]? = some oz
 kind:edKind oz.op=true
 guard:oz.guard=none
 plain:∀(i:Nat) (o:Oper),ops[i]? = some o→edPlain o.op=true
 sub:∀i∈a1m ops.toList (z+1) z,i∈a1m ops.toList (y+1) y
 apart:∀(j:Nat) (oj:Oper),ops[j]? = some oj→j≠z→j∉a1m ops.toList (z+1) z→(∀e∈oj.after,Region.binds .any e=true→e.on≠z)→Oper.apart ops oz oj=true
theorem edOk_spec {ops:Array Oper} {z y:Nat} (h:edOk z y ops.toList=true):∃oz,EdOk ops (edOps z y ops.toList).toArray z y oz:=by
 unfold edOk at h
 simp only[a0D,Nat.blt_eq,a2G] at h
 obtain⟨⟨⟨h1,h2⟩,h3⟩,h4⟩:=h
 have hsz:(edOps z y ops.toList).length=ops.toList.length:=by
  have key:∀(y:Nat) (l:List Oper),(edOps z y l).length=l.length:=by
   intro y l
   induction l generalizing y with
   |nil=>cases y<;>rfl
   |cons o l ih=>cases y<;>simp[edOps,ih]
  exact key y _
 split at h4
 ·cases h4
 ·rename_i oz hz
  simp only[a0D,a2G] at h4
  obtain⟨⟨⟨h5,h6⟩,h7⟩,h8⟩:=h4
  refine⟨oz,by simpa using hsz,by omega,by simpa using h2,fun i hi=>?_,fun o ho=>?_,by simpa using hz,h5,by simpa using h6,fun i o ho=>h3 o (List.mem_of_getElem? (by simpa using ho)),fun i hi=>by simpa using h7 i hi,fun j oj hj hjz hjc hne=>?_⟩
  ·have:=edOps_get z y ops.toList i
   simp only[if_neg hi,Option.map_id'] at this
   simpa using this
  ·have:=edOps_get z y ops.toList y
   have ho':ops.toList[y]? = some o:=by simpa using ho
   rw[ho'] at this
   simpa using this
  ·have hjl:j<ops.toList.length:=by
    have:=(a0L.1 hj).1
    simpa using this
   have:=h8 j (a1F.2 hjl)
   have ho':ops.toList[j]? = some oj:=by simpa using hj
   rw[ho'] at this
   simp only[a3W] at this
   rcases this with(h|h)|h|h
   ·exact absurd (Nat.eq_of_beq_eq_true h) hjz
   ·exact absurd (by simpa using h) hjc
   ·unfold hasEdge at h
    simp only[List.any_eq_true,a0D] at h
    obtain⟨e,he,hb,hon⟩:=h
    exact absurd (Nat.eq_of_beq_eq_true hon) (hne e (by simpa using he) hb)
   ·simpa using h
theorem closure_direct {ops:List Oper} {n j:Nat} {o:Oper} (ho:ops[j]? = some o) {e:Edge} (he:e∈o.after) (hb:Region.binds .any e=true):e.on∈a1m ops (n+1) j:=by
 unfold a1m
 rw[ho]
 simp only[List.mem_flatMap,a3J]
 exact⟨e,⟨by simpa using he,hb⟩,List.mem_cons_self ..⟩
theorem EdOk.wpOp {F:Fence} {n:Nat} {P:Program} {ops ops':Array Oper} {z y:Nat} {oz:Oper} (h:EdOk ops ops' z y oz) {i:Nat} (hi:i<ops.size) {K:Act→World→Prop} {Q:Exit→Act→World→Prop} {a:Act} {w:World}
  (hw:Go.wpOpIn F n P ops' Q i K a w):Go.wpOpIn F n P ops Q i K a w:=by
 have ho:ops[i]? = some ops[i]:=by simp[hi]
 have hdst:∀j:Nat,(ops'[j]?).bind Oper.dst=(ops[j]?).bind Oper.dst:=by
  intro j
  by_cases hj:j=y
  ·subst hj
   have hjs:=h.ysz
   have hy:ops[j]? = some ops[j]:=by simp[hjs]
   rw[h.aty _ hy,hy]
   rfl
  ·rw[h.same j hj]
 have hwt:∀o:Oper,Region.wanted o (yielded ops' a.tmps)=Region.wanted o (yielded ops a.tmps):=by
  intro o
  congr 1
  funext j
  unfold yielded
  rw[hdst]
 unfold Go.wpOpIn at hw ⊢
 rw[ho]
 by_cases hiy:i=y
 ·subst hiy
  rw[h.aty _ ho] at hw
  simp only[hwt] at hw ⊢
  exact hw
 ·rw[h.same i hiy,ho] at hw
  simp only[hwt] at hw ⊢
  exact hw
theorem EdOk.wpAny {E:Env} {F:Fence} {n:Nat} {P:Program} (hE:a1b E P) {ops ops':Array Oper} {z y:Nat} {oz:Oper} (h:EdOk ops ops' z y oz) (he:edE E ops.toList z=true) {Q:Exit→Act→World→Prop} :
  ∀(fuel:Nat) (l:Array Bool) (a:Act) (w:World),l.size=ops.size→Down ops l→wpAnyIn F n P .any ops' (QN Q) fuel l a w→wpAnyIn F n P .any ops (QN Q) fuel l a w:=by
 have hzs:z<ops.size:=(a0L.1 h.getz).1
 have rdyz:∀l:Array Bool,z∈Region.ready .any ops l→z∈Region.ready .any ops' l:=by
  intro l hz
  rw[mem_ready] at hz ⊢
  rw[h.same z h.zy]
  exact hz
 have rdy:∀l:Array Bool,l.size=ops.size→Down ops l→z∉Region.ready .any ops l→∀i,i∈Region.ready .any ops l→i∈Region.ready .any ops' l:=by
  intro l hl hd hz i hi
  rw[mem_ready] at hi ⊢
  obtain⟨h0,o,ho,hall⟩:=hi
  refine⟨h0,?_⟩
  by_cases hiy:i=y
  ·subst hiy
   refine⟨_,h.aty o ho,fun e he hb=>?_⟩
   simp only[List.mem_toArray,a0U,a1B,Array.mem_toList_iff] at he
   rcases he with he|rfl
   ·exact hall e he hb
   ·refine a0Q fun hnz=>hz ?_
    rw[mem_ready]
    refine⟨(getD_any l z).2 ⟨by omega,by simpa using hnz⟩,oz,h.getz,fun e he hb=>?_⟩
    exact a2q hd (i+1) i o ho hall _ (h.sub _ (closure_direct (by simpa using h.getz) he hb))
  ·exact⟨o,by rw[h.same i hiy];exact ho,hall⟩
 have dset:∀(l:Array Bool) (i:Nat),l.size=ops.size→Down ops l→i∈Region.ready .any ops l→Down ops (l.setIfInBounds i true):=by
  intro l i hl hd hi
  rw[mem_ready] at hi
  obtain⟨h0,o,ho,hall⟩:=hi
  have hil:i<l.size:=((getD_any l i).1 h0).1
  intro j oj hoj hj e he hb
  rw[a1e hil] at hj ⊢
  rcases hj with rfl|hj
  ·rw[ho] at hoj
   cases hoj
   exact .inr (hall e he hb)
  ·exact .inr (hd j oj hoj hj e he hb)
 intro fuel
 induction fuel with
 |zero=>
  intro l a w hl hd hw
  refine⟨?_,hw.2⟩
  refine a2P.2 fun i hi=>?_
  by_cases hz:z∈Region.ready .any ops l
  ·have:=rdyz l hz
   rw[hw.1] at this
   cases this
  ·have:=rdy l hl hd hz i hi
   rw[hw.1] at this
   cases this
 |succ fuel ih=>
  intro l a w hl hd hw
  by_cases hz:z∈Region.ready .any ops l
  ·obtain⟨v,hy,hk⟩:=slot_yields (Q:=Q) hE h.kind (by simpa using h.getz) he h.guard h.getz (h.wpOp hzs (hw.2 z (rdyz l hz)))
   refine first_op (fun j o c ho hc=>?_) h.getz (fun j o cs b ho hc=>?_) (fun c a w hq=>hq) fuel l a w (fun j oj hj hjz hun hne=>?_) hz hy (ih _ _ _ (by simpa using hl) (dset l z hl hd hz) hk)
   ·have:=h.plain j o ho
    rw[hc] at this
    cases this
   ·have:=h.plain j o ho
    rw[hc] at this
    cases this
   ·refine h.apart j oj hj hjz (fun hc=>?_) hne
    rw[mem_ready] at hz
    obtain⟨h0,o,ho,hall⟩:=hz
    have:=a2q hd (z+1) z o ho hall j hc
    have h2:=((getD_any l j).1 hun).2
    rw[this] at h2
    cases h2
  ·refine⟨fun he=>hw.1 (a2P.2 fun i hi=>?_),fun i hi=>?_⟩
   ·have hi2:i<ops.size:=by
     obtain⟨_,o,ho,_⟩:=mem_ready.1 hi
     have:=(a0L.1 ho).1
     rw[h.size] at this
     exact this
    have:i∈Region.ready .any ops l:=by
     rw[mem_ready] at hi ⊢
     obtain⟨h0,o,ho,hall⟩:=hi
     refine⟨h0,?_⟩
     by_cases hiy:i=y
     ·subst hiy
      have his:=h.ysz
      have hy:ops[i]? = some ops[i]:=by simp[his]
      refine⟨_,hy,fun e he hb=>?_⟩
      rw[h.aty _ hy] at ho
      cases ho
      exact hall e (by simp only[List.mem_toArray,a0U,Array.mem_toList_iff];exact .inl he) hb
     ·rw[h.same i hiy] at ho
      exact⟨o,ho,hall⟩
    rw[he] at this
    cases this
   ·have hi2:i<ops.size:=by
     obtain⟨_,o,ho,_⟩:=mem_ready.1 hi
     exact(a0L.1 ho).1
    exact wpOpIn_mono (fun a w hk=>ih _ _ _ (by simpa using hl) (dset l i hl hd hi) hk) (h.wpOp hi2 (hw.2 i (rdy l hl hd hz i hi)))
theorem down_zero (ops:Array Oper):Down ops (Array.replicate ops.size false):=by
 intro i o _ h
 rw[a1W,Array.getElem?_replicate] at h
 split at h<;>simp at h
end Go.Sx
namespace Go.Sx
open Go
variable {P:Program} {E:Env}
theorem Sat.join {I I':Nat→Prop} {η η':Eta} {w w':World} {H H':List O} (h:Sat I η w H) (h':Sat I' η' w' H') (hst:Step I (own [] []) w I' (own η' H') w') :
  Sat I' (η++η') w' (H++shH H.length H')∧Mono I η w I' (η++η') w'∧Step I (own η H) w I' (own (η++η') (H++shH H.length H')) w':=by
 have hblk:∀b,b<w.heap.size→w'.heap[b]? = w.heap[b]?:=fun b hb=>hst.block b hb (own_nil' b)
 have m:Mono I η w I' (η++η') w':=⟨fun id e he _=>by rw[a0F (a0B.1 he).1];exact he,hst.imono,fun b hb=>hblk b (h.ilt b hb)⟩
 have hown:∀b,own η' H' b→w.heap.size≤b:=fun b hb=>(hst.wnew b hb).resolve_left (own_nil' b)
 have cs:∀(id:Nat) (e:Option Nat×Nat) (o:O),(η++η')[id]? = some e→(H++shH H.length H')[id]? = some o→(η[id]? = some e∧H[id]? = some o)∨(∃o',o=shO H.length o'∧H.length≤id∧η'[id-H.length]? = some e∧H'[id-H.length]? = some o'):=by
  intro id e o he ho
  by_cases hid:id<H.length
  ·left
   rw[a0F (by rw[h.len];exact hid)] at he
   rw[a0F hid] at ho
   exact⟨he,ho⟩
  ·right
   rw[a0S (by rw[h.len];omega),h.len] at he
   rw[a0S (by omega),shH_eq,a1O] at ho
   cases ho':H'[id-H.length]? with
   |none=>rw[ho'] at ho;cases ho
   |some o'=>rw[ho'] at ho;cases ho;exact⟨o',rfl,by omega,he,rfl⟩
 have oc:∀b,own (η++η') (H++shH H.length H') b→own η H b∨own η' H' b:=by
  rintro b ⟨id,c,o,h1,h2,h3⟩
  rcases cs id _ _ h1 h2 with⟨g1,g2⟩|⟨o',rfl,_,g1,g2⟩
  ·exact .inl ⟨id,c,o,g1,g2,h3⟩
  ·exact .inr ⟨_,c,o',g1,g2,shO_has.1 h3⟩
 refine⟨⟨by simp[h.len,h'.len,shH_eq],?_,?_,?_,?_,h'.ilt⟩,m,⟨hst.os,hst.tape,hst.output,hst.size,fun b hb _=>hblk b hb,hst.imono,?_,?_,m.eta⟩⟩
 ·intro id e o he ho
  rcases cs id e o he ho with⟨g1,g2⟩|⟨o',rfl,_,g1,g2⟩
  ·refine(h.obj id e o g1 g2).mono m ?_
   intro b hb
   exact hblk b (h.lt b ⟨id,_,o,g1,g2,hb⟩)
  ·exact SatO.shift (fun j e he=>by rw[List.getElem?_append_right (by rw[h.len];omega),h.len];simpa using he) (h'.obj _ e o' g1 g2)
 ·intro id id' b c c' o o' h1 h2 h3 h4 l1 l2
  rcases cs id _ o h1 h3 with⟨g1,g2⟩|⟨o1,rfl,q1,g1,g2⟩<;>rcases cs id' _ o' h2 h4 with⟨g3,g4⟩|⟨o2,rfl,q2,g3,g4⟩
  ·exact h.apart id id' b c c' o o' g1 g3 g2 g4 l1 l2
  ·have:=h.lt b ⟨id,c,o,g1,g2,l1⟩
   have:=hown b ⟨_,c',o2,g3,g4,shO_has.1 l2⟩
   omega
  ·have:=h.lt b ⟨id',c',o',g3,g4,l2⟩
   have:=hown b ⟨_,c,o1,g1,g2,shO_has.1 l1⟩
   omega
  ·have:=h'.apart _ _ b c c' o1 o2 g1 g3 g2 g4 (shO_has.1 l1) (shO_has.1 l2)
   omega
 ·intro b hb hI
  rcases oc b hb with hb|hb
  ·rcases hst.inew b hI with h1|h1|h1
   ·exact h.notI b hb h1
   ·exact own_nil' b h1
   ·have:=h.lt b hb;omega
  ·exact h'.notI b hb hI
 ·intro b hb
  rcases oc b hb with hb|hb
  ·exact a1M (h.lt b hb) hst.size
  ·exact h'.lt b hb
 ·intro b hb
  rcases hst.inew b hb with h1|h1|h1
  ·exact .inl h1
  ·exact(own_nil' b h1).elim
  ·exact .inr (.inr h1)
 ·intro b hb
  rcases oc b hb with hb|hb
  ·exact .inl hb
  ·exact .inr (hown b hb)
end Go.Sx
namespace Go.Sx
open Go
variable {P:Program} {E:Env}
theorem Sat.forget {I:Nat→Prop} {η:Eta} {w:World} {H H1:List O} (h:Sat I η w H) (hl:H1.length=H.length) (hlive:∀(i:Nat) (o:O),H1[i]? = some o→o.live→H[i]? = some o):Sat I η w H1:=by
 have ow:∀b,own η H1 b→own η H b:=fun b ⟨i,c,o,h1,h2,h3⟩=>⟨i,c,o,h1,hlive i o h2 (O.has_live h3),h3⟩
 refine⟨by rw[hl];exact h.len,?_,?_,fun b hb=>h.notI b (ow b hb),fun b hb=>h.lt b (ow b hb),h.ilt⟩
 ·intro i e o he ho
  by_cases hlv:o.live
  ·exact h.obj i e o he (hlive i o ho hlv)
  ·cases o<;>first|exact(hlv trivial).elim|trivial
 ·intro i j b c c' o o' h1 h2 h3 h4 l1 l2
  exact h.apart i j b c c' o o' h1 h2 (hlive i o h3 (O.has_live l1)) (hlive j o' h4 (O.has_live l2)) l1 l2
theorem Sat.readd {I I1:Nat→Prop} {η η1:Eta} {w w1:World} {H H' H1 H1':List O} (h:Sat I η w H') (hH:∀(i:Nat) (o:O),H[i]? = some o→o.live→H'[i]? = some o)
  (h1:Sat I1 η1 w1 H1) (hst:Step I (own η H) w I1 (own η1 H1) w1) (heta:∀(id:Nat) (e:Option Nat×Nat),η[id]? = some e→η1[id]? = some e) (hl:H1'.length=H1.length)
  (hcs:∀(i:Nat) (o:O),H1'[i]? = some o→o.live→H1[i]? = some o∨(H'[i]? = some o∧∀o',H[i]? = some o'→¬o'.live)) :
  Sat I1 η1 w1 H1'∧Step I (own η H') w I1 (own η1 H1') w1∧Mono I η w I1 η1 w1:=by
 have ow0:∀b,own η H b→own η H' b:=fun b ⟨i,c,o,g1,g2,g3⟩=>⟨i,c,o,g1,hH i o g2 (O.has_live g3),g3⟩
 have back:∀(i:Nat) (e:Option Nat×Nat) (o:O),H'[i]? = some o→η1[i]? = some e→η[i]? = some e:=by
  intro i e o ho he
  have hi:i<η.length:=by rw[h.len];exact(a0B.1 ho).1
  have:=heta i η[i] (by simp[hi])
  rw[he] at this
  cases this
  simp[hi]
 have fr0:∀(i b:Nat) (c:Option Nat×Nat) (o:O),η[i]? = some c→H'[i]? = some o→o.has c b→(∀o',H[i]? = some o'→¬o'.live)→¬own η H b:=by
  rintro i b c o g1 g2 g3 g4 ⟨j,c',o',k1,k2,k3⟩
  have:=h.apart i j b c c' o o' g1 k1 g2 (hH j o' k2 (O.has_live k3)) g3 k3
  subst this
  exact g4 o' k2 (O.has_live k3)
 have fr1:∀(i b:Nat) (c:Option Nat×Nat) (o:O),η[i]? = some c→H'[i]? = some o→o.has c b→(∀o',H[i]? = some o'→¬o'.live)→¬own η1 H1 b:=by
  intro i b c o g1 g2 g3 g4 hb
  rcases hst.wnew b hb with k|k
  ·exact fr0 i b c o g1 g2 g3 g4 k
  ·have:=h.lt b ⟨i,c,o,g1,g2,g3⟩;omega
 have m:Mono I η w I1 η1 w1:=⟨fun id e he _=>heta id e he,hst.imono,fun b hb=>hst.block b (h.ilt b hb) (fun ho=>h.notI b (ow0 b ho) hb)⟩
 have oc:∀b,own η1 H1' b→own η1 H1 b∨∃(i:Nat) (c:Option Nat×Nat) (o:O),η[i]? = some c∧H'[i]? = some o∧o.has c b∧∀(o':O),H[i]? = some o'→¬o'.live:=by
  rintro b ⟨i,c,o,g1,g2,g3⟩
  rcases hcs i o g2 (O.has_live g3) with k|⟨k1,k2⟩
  ·exact .inl ⟨i,c,o,g1,k,g3⟩
  ·exact .inr ⟨i,c,o,back i _ o k1 g1,k1,g3,k2⟩
 refine⟨⟨by rw[hl];exact h1.len,?_,?_,?_,?_,h1.ilt⟩,⟨hst.os,hst.tape,hst.output,hst.size,fun b hb hw=>hst.block b hb (fun ho=>hw (ow0 b ho)),hst.imono,?_,?_,m.eta⟩,m⟩
 ·intro i e o he ho
  by_cases hlv:o.live
  ·rcases hcs i o ho hlv with k|⟨k1,k2⟩
   ·exact h1.obj i e o he k
   ·have he':=back i e o k1 he
    refine(h.obj i e o he' k1).mono m ?_
    intro b hb
    exact hst.block b (h.lt b ⟨i,_,o,he',k1,hb⟩) (fr0 i b _ o he' k1 hb k2)
  ·cases o<;>first|exact(hlv trivial).elim|trivial
 ·intro i j b c c' o o' g1 g2 g3 g4 l1 l2
  rcases hcs i o g3 (O.has_live l1) with k|⟨k1,k2⟩<;>rcases hcs j o' g4 (O.has_live l2) with q|⟨q1,q2⟩
  ·exact h1.apart i j b c c' o o' g1 g2 k q l1 l2
  ·exact(fr1 j b c' o' (back j _ o' q1 g2) q1 l2 q2 ⟨i,c,o,g1,k,l1⟩).elim
  ·exact(fr1 i b c o (back i _ o k1 g1) k1 l1 k2 ⟨j,c',o',g2,q,l2⟩).elim
  ·exact h.apart i j b c c' o o' (back i _ o k1 g1) (back j _ o' q1 g2) k1 q1 l1 l2
 ·intro b hb hI
  rcases oc b hb with hb|⟨i,c,o,g1,g2,g3,g4⟩
  ·exact h1.notI b hb hI
  ·rcases hst.inew b hI with k|k|k
   ·exact h.notI b ⟨i,c,o,g1,g2,g3⟩ k
   ·exact fr0 i b c o g1 g2 g3 g4 k
   ·have:=h.lt b ⟨i,c,o,g1,g2,g3⟩;omega
 ·intro b hb
  rcases oc b hb with hb|⟨i,c,o,g1,g2,g3,g4⟩
  ·exact h1.lt b hb
  ·exact a1M (h.lt b ⟨i,c,o,g1,g2,g3⟩) hst.size
 ·intro b hb
  rcases hst.inew b hb with k|k|k
  ·exact .inl k
  ·exact .inr (.inl (ow0 b k))
  ·exact .inr (.inr k)
 ·intro b hb
  rcases oc b hb with hb|⟨i,c,o,g1,g2,g3,g4⟩
  ·rcases hst.wnew b hb with k|k
   ·exact .inl (ow0 b k)
   ·exact .inr k
  ·exact .inl ⟨i,c,o,g1,g2,g3⟩
theorem run_plain {w:World} {o:Oper} {a:Act} (hk:midKind o.op=true) (hcl:∀c ar ty,o.op≠.call {callee:=.value c,args:=ar,argTypes:=ty}) (hn:∀x,o.op=.nilCheck x→∃q,a.eval x=.pointer (some q)):(∃x w',(execOp a.eval o).run P w=.ok (.value x) w')∨(∃w',(execOp a.eval o).run P w=.ok .skip w')∨∀nx w',(execOp a.eval o).run P w≠.ok nx w':=by
 have val:∀(s:Sem Value),(∃x w',(do pure (.value (←s)):Sem Next).run P w=.ok (.value x) w')∨(∃w',(do pure (.value (←s)):Sem Next).run P w=.ok .skip w')∨∀nx w',(do pure (.value (←s)):Sem Next).run P w≠.ok nx w':=by
  intro s
  cases hs:s.run P w with
  |ok x w'=>exact .inl ⟨x,w',by simp[hs]⟩
  |_=>exact .inr (.inr fun nx w'=>by simp[hs])
 have skp:∀(s:Sem Unit),(∃x w',(do s;pure .skip:Sem Next).run P w=.ok (.value x) w')∨(∃w',(do s;pure .skip:Sem Next).run P w=.ok .skip w')∨∀nx w',(do s;pure .skip:Sem Next).run P w≠.ok nx w':=by
  intro s
  cases hs:s.run P w with
  |ok x w'=>exact .inr (.inl ⟨w',by simp[hs]⟩)
  |_=>exact .inr (.inr fun nx w'=>by simp[hs])
 cases hop:o.op<;>rw[hop] at hk<;>simp only[midKind,a2N] at hk
 case move x=>exact .inl ⟨a.eval x,w,by simp[execOp,hop]⟩
 case assign x=>exact .inl ⟨a.eval x,w,by simp[execOp,hop]⟩
 case store t x y=>have:=skp (Instr.storeAt t (a.eval x) (a.eval y));simpa only[execOp,hop] using this
 case load t x=>have:=val (Instr.loadAt t (a.eval x));simpa only[execOp,hop] using this
 case fieldAddr t x f=>have:=val (Instr.fieldAt t (a.eval x) f);simpa only[execOp,hop] using this
 case field t x f=>have:=val (Instr.field t (a.eval x) f);simpa only[execOp,hop] using this
 case indexAddr t x i=>have:=val (Instr.indexAt t (a.eval x) (a.eval i));simpa only[execOp,hop] using this
 case extract x i=>have:=val (Instr.extract (a.eval x) i);simpa only[execOp,hop] using this
 case buildSlice t k parts=>have:=val (Instr.buildSlice t k (parts.map fun p=>(p.1,a.eval p.2)));simpa only[execOp,hop] using this
 case build t ps=>have:=val (Instr.build t (ps.map fun p=>(p.1,a.eval p.2)));simpa only[execOp,hop] using this
 case unOp op t x=>have:=val (Op.unary op (a.eval x));simpa only[execOp,hop] using this
 case mapEntry t m k=>have:=val (Instr.mapEntry t (a.eval m) (a.eval k));simpa only[execOp,hop] using this
 case entryStore t m s x=>have:=skp (Instr.entryStore t (a.eval m) (a.eval s) (a.eval x));simpa only[execOp,hop] using this
 case nilCheck x=>
  obtain⟨q,hq⟩:=hn x hop
  exact .inl ⟨.pointer (some q),w,by simp[execOp,hop,hq]⟩
 case call c=>
  obtain⟨cal,ar,ty⟩:=c
  cases cal with
  |builtin b=>
   cases b with
   |append=>
    have:=val (Builtin.append_ ty o.type (ar.map a.eval))
    simpa [execOp,hop,resolve,invoke,builtin] using this
   |copy=>
    have:=val (Builtin.copy_ ty o.type (ar.map a.eval))
    simpa [execOp,hop,resolve,invoke,builtin] using this
   |_=>exact Bool.noConfusion hk
  |value f=>exact(hcl f ar ty hop).elim
  |_=>exact Bool.noConfusion hk
theorem wpIn_put {r:Option Nat} {n:Nat} {o:Oper} {a:Act} {w:World} {next:Act→World→Prop} {Q:Exit→Act→World→Prop} (hk:midKind o.op=true) (hcl:∀c ar ty,o.op≠.call {callee:=.value c,args:=ar,argTypes:=ty}) (hn:∀x,o.op=.nilCheck x→∃q,a.eval x=.pointer (some q)) (h:o.wpIn (Fw r) n P a w next Q) :
  o.wpIn (Fw r) n P a w (fun a' w'=>next a' w'∧∃x,a'=a.put o.dst x) Q:=by
 have hd:∀c,o.op≠.defer c:=by intro c hc;rw[hc] at hk;cases hk
 refine⟨h.1,?_⟩
 have h2:=h.2
 rw[Oper.semAt_eq _ _ _ hd] at h2 ⊢
 rcases run_plain (P:=P) (w:=w) (a:=a) hk hcl hn with⟨x,w',e⟩|⟨w',e⟩|e
 ·rw[e] at h2 ⊢;exact⟨h2,x,rfl⟩
 ·rw[e] at h2 ⊢;exact⟨h2,undef,rfl⟩
 ·generalize (execOp a.eval o).run P w=res at *
  cases res with
  |ok nx w'=>exact(e nx w' rfl).elim
  |halt hh w'=>cases hh<;>exact h2
theorem mkZ_spec {T:List V} {H:List O}:∀{l:List Oper} {zd:List LZ},mkZ T H l=some zd→(∀o∈l,∃x∈zd,x.o=o)∧∀x∈zd,x.o∈l∧x.o.dst=some x.d∧
  ((isMk x.o.op=true∧OfId (get .any T x.d) x.id∧x.v=get .any T x.d∧x.ob=some (get .gone H x.id))∨(isMk x.o.op=false∧x.v=get .any T x.d∧x.ob=none∧x.id=0))
 |[],zd,h=>by simp[mkZ] at h;subst h;simp
 |o :: l,zd,h=>by
  simp only[mkZ] at h
  split at h
  ·rename_i d r hd hr
   obtain⟨h1,h2⟩:=mkZ_spec hr
   have fin:∀(x:LZ),x.o=o→x.d=d→zd=x :: r→((isMk x.o.op=true∧OfId (get .any T x.d) x.id∧x.v=get .any T x.d∧x.ob=some (get .gone H x.id))∨(isMk x.o.op=false∧x.v=get .any T x.d∧x.ob=none∧x.id=0))→
     (∀o'∈o :: l,∃x∈zd,x.o=o')∧∀x∈zd,x.o∈o :: l∧x.o.dst=some x.d∧((isMk x.o.op=true∧OfId (get .any T x.d) x.id∧x.v=get .any T x.d∧x.ob=some (get .gone H x.id))∨(isMk x.o.op=false∧x.v=get .any T x.d∧x.ob=none∧x.id=0)):=by
    rintro x rfl rfl rfl hx
    refine⟨fun o' ho'=>?_,fun y hy=>?_⟩
    ·rcases a0Z.1 ho' with rfl|ho'
     ·exact⟨x,by simp,rfl⟩
     ·obtain⟨y,hy,e⟩:=h1 o' ho'
      exact⟨y,by simp[hy],e⟩
    ·rcases a0Z.1 hy with rfl|hy
     ·exact⟨by simp,hd,hx⟩
     ·exact⟨by simp[(h2 y hy).1],(h2 y hy).2⟩
   split at h
   ·rename_i t l' c hop
    split at h
    ·rename_i id n hv
     split at h
     ·rename_i ty sz k f nz hrow
      simp only[a1H] at h
      exact fin _ rfl rfl h.symm (.inl ⟨by simp[isMk,hop],.inl ⟨n,hv⟩,hv.symm,by rw[hrow]⟩)
     ·cases h
    ·cases h
   ·rename_i t l' c hop
    split at h
    ·rename_i id n hv
     split at h
     ·rename_i ty sz k f nz hrow
      simp only[a1H] at h
      exact fin _ rfl rfl h.symm (.inl ⟨by simp[isMk,hop],.inl ⟨n,hv⟩,hv.symm,by rw[hrow]⟩)
     ·cases h
    ·cases h
   ·rename_i t hop
    split at h
    ·rename_i id hv
     split at h
     ·rename_i ty vs hcl
      simp only[a1H] at h
      exact fin _ rfl rfl h.symm (.inl ⟨by simp[isMk,hop],.inr hv,hv.symm,by rw[hcl]⟩)
     ·cases h
    ·cases h
   ·rename_i hop hop3 hop2
    simp only[a1H] at h
    refine fin _ rfl rfl h.symm (.inr ⟨?_,rfl,rfl,rfl⟩)
    cases ho:o.op<;>first|rfl|exact(hop _ _ _ ho).elim|exact(hop2 _ ho).elim|exact(hop3 _ _ _ ho).elim
  ·cases h
theorem get_set_eq {T:List V} {d:Nat} {v:V} (h:d<T.length∨v=.any):get .any (set T d v) d=v:=by
 rw[a2j]
 by_cases hl:d<T.length
 ·rw[if_pos ⟨rfl,hl⟩]
 ·rw[if_neg (fun hh=>hl hh.2),h.resolve_left hl,a0z,a0V (by omega)]
  rfl
theorem hideK_spec:∀{zd:List LZ} {T:List V} {H:List O} {K:List V→List O→Prop},hideK zd T H K→∃(T1:List V) (H1:List O),K T1 H1∧T1.length=T.length∧H1.length=H.length∧
  (∀x,(∀z∈zd,z.d≠x)→get .any T1 x=get .any T x)∧(∀x,get .any T x=.any→get .any T1 x=.any)∧(∀z∈zd,get .any T1 z.d=.any)∧
  (∀i:Nat,(∀z∈zd,z.ob.isSome=true→z.id≠i)→H1[i]? = H[i]?)∧(∀i:Nat,H[i]? = some .gone→H1[i]? = some .gone)
 |[],T,H,K,h=>⟨T,H,h,rfl,rfl,fun _ _=>rfl,fun _ h=>h,fun z hz=>by simp at hz,fun _ _=>rfl,fun _ h=>h⟩
 |z :: l,T,H,K,h=>by
  simp only[hideK] at h
  rw[a0p] at h
  have ha:get .any (set T z.d .any) z.d=.any:=get_set_eq (.inr rfl)
  have hset:∀x,get .any T x=.any→get .any (set T z.d .any) x=.any:=by
   intro x hx
   rw[a2j]
   split
   ·rfl
   ·exact hx
  cases ho:z.ob with
  |none=>
   rw[ho] at h
   obtain⟨T1,H1,h1,h2,h3,h4,h5,h6,h7,h8⟩:=hideK_spec h
   refine⟨T1,H1,h1,by rw[h2,a0v];simp,h3,fun x hx=>?_,fun x hx=>h5 x (hset x hx),fun y hy=>?_,fun i hi=>h7 i (fun y hy=>hi y (by simp[hy])),h8⟩
   ·rw[h4 x (fun y hy=>hx y (by simp[hy])),a2j,if_neg (fun hh=>hx z (by simp) hh.1.symm)]
   ·rcases a0Z.1 hy with rfl|hy
    ·exact h5 _ ha
    ·exact h6 y hy
  |some b=>
   rw[ho] at h
   simp only[a0p,a0v] at h
   obtain⟨T1,H1,h1,h2,h3,h4,h5,h6,h7,h8⟩:=hideK_spec h
   refine⟨T1,H1,h1,by rw[h2];simp,by rw[h3];simp,fun x hx=>?_,fun x hx=>h5 x (by rw[←a0v];exact hset x hx),fun y hy=>?_,fun i hi=>?_,fun i hi=>h8 i ?_⟩
   ·rw[h4 x (fun y hy=>hx y (by simp[hy])),←a0v,a2j,if_neg (fun hh=>hx z (by simp) hh.1.symm)]
   ·rcases a0Z.1 hy with rfl|hy
    ·exact h5 _ (by rw[←a0v];exact ha)
    ·exact h6 y hy
   ·rw[h7 i (fun y hy=>hi y (by simp[hy])),a0G,if_neg (hi z (by simp) (by simp[ho]))]
   ·rw[a0G]
    split
    ·rename_i e;subst e;simp[(a0B.1 hi).1]
    ·exact hi
theorem clrT_spec:∀{zd:List LZ} {T:List V} {K:List V→Prop},clrT zd T K→∃T1,K T1∧T1.length=T.length∧(∀x,get .any T1 x=.any∨get .any T1 x=get .any T x)∧(∀x,get .any T x=.any→get .any T1 x=.any)∧(∀z∈zd,get .any T1 z.d=.any)∧∀x,(∀z∈zd,z.d≠x)→get .any T1 x=get .any T x
 |[],T,K,h=>⟨T,h,rfl,fun _=>.inr rfl,fun _ h=>h,fun z hz=>by simp at hz,fun _ _=>rfl⟩
 |z :: l,T,K,h=>by
  simp only[clrT] at h
  rw[a0p] at h
  obtain⟨T1,h1,h2,h3,h4,h5,h6⟩:=clrT_spec h
  have ha:get .any (set T z.d .any) z.d=.any:=get_set_eq (.inr rfl)
  refine⟨T1,h1,by rw[h2,a0v];simp,fun x=>?_,fun x hx=>h4 x ?_,fun y hy=>?_,fun x hx=>by rw[h6 x (fun y hy=>hx y (by simp[hy])),a2j,if_neg (fun hh=>hx z (by simp) hh.1.symm)]⟩
  ·rcases h3 x with g|g
   ·exact .inl g
   ·by_cases hx:x=z.d
    ·subst hx;rw[ha] at g;exact .inl g
    ·rw[a2j,if_neg (fun hh=>hx hh.1)] at g;exact .inr g
  ·rw[a2j]
   split
   ·rfl
   ·exact hx
  ·rcases a0Z.1 hy with rfl|hy
   ·exact h4 _ ha
   ·exact h5 y hy
theorem clrT_triv:∀(zd:List LZ) (T:List V),clrT zd T (fun _=>True)
 |[],_=>trivial
 |z :: l,T=>by simp only[clrT];rw[a0p];exact clrT_triv l _
theorem backT_triv:∀(zd:List LZ) (T:List V),backT zd T (fun _=>True)
 |[],_=>trivial
 |z :: l,T=>by simp only[backT];rw[a0p];exact backT_triv l _
theorem backH_triv:∀(zd:List LZ) (H:List O),backH zd H (fun _=>True)
 |[],_=>trivial
 |z :: l,H=>by
  simp only[backH]
  split
  ·exact backH_triv l H
  ·rw[a0p];exact backH_triv l _
theorem backT_spec:∀{zd:List LZ} {T:List V} {K:List V→Prop},backT zd T K→(∀x∈zd,∀y∈zd,x.d=y.d→x.v=y.v)→(∀x∈zd,T.length≤x.d→x.v=.any)→∃T1,K T1∧T1.length=T.length∧
  (∀x,(∀z∈zd,z.d≠x)→get .any T1 x=get .any T x)∧∀z∈zd,get .any T1 z.d=z.v
 |[],T,K,h,_,_=>⟨T,h,rfl,fun _ _=>rfl,fun z hz=>by simp at hz⟩
 |z :: l,T,K,h,hi,hr=>by
  simp only[backT] at h
  rw[a0p] at h
  have hlen:(set T z.d z.v).length=T.length:=by rw[a0v];simp
  obtain⟨T1,h1,h2,h3,h4⟩:=backT_spec h (fun x hx y hy=>hi x (by simp[hx]) y (by simp[hy])) (fun x hx hl=>hr x (by simp[hx]) (by rw[hlen] at hl;exact hl))
  refine⟨T1,h1,h2.trans hlen,fun x hx=>?_,fun y hy=>?_⟩
  ·rw[h3 x (fun y hy=>hx y (by simp[hy])),a2j,if_neg (fun hh=>hx z (by simp) hh.1.symm)]
  ·rcases a0Z.1 hy with rfl|hy
   ·by_cases hc:∃u∈l,u.d=y.d
    ·obtain⟨u,hu,he⟩:=hc
     rw[←he,h4 u hu]
     exact hi u (by simp[hu]) y (by simp) he
    ·rw[h3 y.d (fun u hu he=>hc ⟨u,hu,he⟩)]
     refine get_set_eq ?_
     by_cases hl:y.d<T.length
     ·exact .inl hl
     ·exact .inr (hr y (by simp) (by omega))
   ·exact h4 y hy
theorem backH_spec:∀{zd:List LZ} {H:List O} {K:List O→Prop},backH zd H K→(∀x∈zd,∀y∈zd,x.ob.isSome=true→y.ob.isSome=true→x.id=y.id→x.ob=y.ob)→∃(H1:List O),K H1∧H1.length=H.length∧
  (∀i:Nat,(∀z∈zd,z.ob.isSome=true→z.id≠i)→H1[i]? = H[i]?)∧∀z∈zd,∀b,z.ob=some b→z.id<H.length→H1[z.id]? = some b
 |[],H,K,h,_=>⟨H,h,rfl,fun _ _=>rfl,fun z hz=>by simp at hz⟩
 |z :: l,H,K,h,hi=>by
  simp only[backH] at h
  have hi':∀x∈l,∀y∈l,x.ob.isSome=true→y.ob.isSome=true→x.id=y.id→x.ob=y.ob:=fun x hx y hy=>hi x (by simp[hx]) y (by simp[hy])
  cases ho:z.ob with
  |none=>
   rw[ho] at h
   obtain⟨H1,h1,h2,h3,h4⟩:=backH_spec h hi'
   refine⟨H1,h1,h2,fun i hh=>h3 i (fun y hy=>hh y (by simp[hy])),fun y hy b hb hl=>?_⟩
   rcases a0Z.1 hy with rfl|hy
   ·rw[ho] at hb;cases hb
   ·exact h4 y hy b hb hl
  |some b=>
   rw[ho] at h
   simp only[a0p,a0v] at h
   obtain⟨H1,h1,h2,h3,h4⟩:=backH_spec h hi'
   refine⟨H1,h1,by rw[h2];simp,fun i hh=>?_,fun y hy b' hb hl=>?_⟩
   ·rw[h3 i (fun y hy=>hh y (by simp[hy])),a0G,if_neg (hh z (by simp) (by simp[ho]))]
   ·rcases a0Z.1 hy with rfl|hy
    ·rw[ho] at hb
     cases hb
     by_cases hc:∃u∈l,u.ob.isSome=true∧u.id=y.id
     ·obtain⟨u,hu,hs,he⟩:=hc
      have:=hi u (by simp[hu]) y (by simp) hs (by simp[ho]) he
      rw[←he]
      exact h4 u hu b (by rw[this,ho]) (by rw[he];simpa using hl)
     ·rw[h3 y.id (fun u hu hs he=>hc ⟨u,hu,hs,he⟩),a0G,if_pos rfl,if_pos hl]
    ·exact h4 y hy b' hb (by simpa using hl)
theorem zSameK_spec {S:Sys} {ops:List Oper} {H0:List O} {T:List V} {K:Prop}:∀{zd:List LZ},zSameK S E ops H0 T K zd→K∧∀z∈zd,drawOp S E ops H0 T z.id z.o (fun v ob=>v=z.v∧ob=z.ob)
 |[],h=>⟨h,fun z hz=>by simp at hz⟩
 |z :: l,h=>by
  simp only[zSameK] at h
  obtain⟨v,ob,⟨rfl,rfl,h1⟩,h2⟩:=drawOp_ex h
  obtain⟨k1,k2⟩:=zSameK_spec h1
  refine⟨k1,fun y hy=>?_⟩
  rcases a0Z.1 hy with rfl|hy
  ·exact h2
  ·exact k2 y hy
theorem a2t {H:List O}:∀{zd:List LZ},goneB H zd=true→∀z∈zd,z.ob.isSome=true→H[z.id]? = some .gone
 |[],_,z,hz,_=>by simp at hz
 |y :: l,h,z,hz,hs=>by
  simp only[goneB,a0D] at h
  rcases a0Z.1 hz with rfl|hz
  ·cases ho:z.ob with
   |none=>rw[ho] at hs;cases hs
   |some b=>
    have h1:=h.1
    rw[ho] at h1
    simp only[a0D] at h1
    have hlt:z.id<H.length:=by have:=a0P h1.1;rw[a1j] at this;exact this
    have h2:=h1.2
    rw[a0z,a0C hlt] at h2
    rw[a0C hlt]
    simp only[a2S] at h2
    cases hx:H[z.id]<;>rw[hx] at h2<;>first|rfl|cases h2
  ·exact a2t h.2 z hz hs
structure Late (ops:Array Oper) (p q n0:Nat) (zs:List Nat) (zd:List LZ) (len:Nat):Prop where
 ok:DOk ops p zs
 pq:p≤q
 qn:q≤ops.size
 mid:∀(j:Nat) (o:Oper),ops[j]? = some o→p≤j→j<q→midKind o.op=true∧∀x∈zd,o.dst≠some x.d
 fin:∀j,j<ops.size→q≤j→∀z∈zs,z∈a1m ops.toList (j+1) j
 to:∀z∈zs,∃x∈zd,ops[z]? = some x.o∧x.o.dst=some x.d
 of:∀x∈zd,∃z∈zs,ops[z]? = some x.o∧x.o.dst=some x.d
 dinj:∀x∈zd,∀y∈zd,x.d=y.d→x=y
 idinj:∀x∈zd,∀y∈zd,x.ob.isSome=true→y.ob.isSome=true→x.id=y.id→x=y
 rng:∀x∈zd,len≤x.d→x.v=.any
 idge:∀x∈zd,x.ob.isSome=true→n0≤x.id
def Dn (ops:Array Oper) (zs:List Nat) (l:Array Bool) (x:LZ):Prop:=∃z,z∈zs∧ops[z]? = some x.o∧l.getD z false=true
structure LSt' (ops:Array Oper) (zs:List Nat) (zd:List LZ) (l:Array Bool) (T:List V) (H:List O) (T':List V) (H':List O):Prop where
 tlen:T'.length=T.length
 hlen:H'.length=H.length
 ton:∀x∈zd,Dn ops zs l x→get .any T' x.d=x.v
 toff:∀y,(∀x∈zd,Dn ops zs l x→x.d≠y)→get .any T' y=get .any T y
 hon:∀x∈zd,∀b,x.ob=some b→Dn ops zs l x→H'[x.id]? = some b
 hoff:∀i:Nat,(∀x∈zd,x.ob.isSome=true→Dn ops zs l x→x.id≠i)→H'[i]? = H[i]?
theorem list_get_ext {T T':List V} (hl:T'.length=T.length) (h:∀x,get .any T' x=get .any T x):T'=T:=by
 apply a2L hl
 intro x h1 h2
 have:=h x
 rw[a0z,a0z,a0C h1,a0C h2] at this
 exact this
def RE:Rel:=fun I W w I' W' w'=>Step I W w I' W' w'∧∀(id:Nat) (e:Option Nat×Nat),W.eta[id]? = some e→W'.eta[id]? = some e
theorem relH_RE:RelH RE:=⟨fun h k=>⟨h,k⟩⟩
theorem RE.tr {I W w I' W' w' I'' W'' w''} (h:RE I W w I' W' w') (k:RE I' W' w' I'' W'' w''):RE I W w I'' W'' w'':=⟨h.1.trans k.1,fun id e he=>k.2 id e (h.2 id e he)⟩
section
variable {r:Option Nat} {n:Nat} {Q:Exit→Act→World→Prop}
theorem midOp_sound (hE:a1b E P) {T:List V} {H:List O} {o:Oper} {K:KT} {I:Nat→Prop} {η:Eta} {w:World} {a:Act} (hk:midKind o.op=true) (hg:Good I η w T H a) (h:midOp (sys P) E T H o K) :
  o.wpIn (Fw r) n P a w (fun a' w'=>a1r RE I (own η H) w a.defers K a' w'∧∃x,a'=a.put o.dst x) Q:=by
 have hd:∀c,o.op≠.defer c:=by intro c hc;rw[hc] at hk;cases hk
 have hn:∀x,o.op=.nilCheck x→∃q,a.eval x=.pointer (some q):=by
  intro x hx
  unfold midOp stepPure at h
  rw[hx] at h
  simp only[a1f] at h
  have hv:(∃v,nilCheckV (ev T x)=.ok v)∧a2m T x:=by
   cases hv:nilCheckV (ev T x) with
   |ok v=>
    rw[hv] at h
    exact⟨⟨v,rfl⟩,(a0x trivial h).1 x (by simp[a2e,Op.operands])⟩
   |need c v=>unfold nilCheckV at hv;split at hv<;>cases hv
   |bad=>
    rw[hv] at h
    have h9:=(a0x trivial h).2
    have hg0:isGrid T H o=false:=by unfold isGrid;rw[hx]
    rw[hg0] at h9
    exact h9.elim
  obtain⟨⟨v,hv⟩,hth⟩:=hv
  have hx:=a0l hg.tmp hth
  unfold nilCheckV at hv
  split at hv
  ·rename_i he;rw[he] at hx;obtain⟨b,c,_,e⟩:=hx;exact⟨_,e⟩
  ·rename_i he;rw[he] at hx;obtain⟨b,c,_,e⟩:=hx;exact⟨_,e⟩
  ·rename_i he;rw[he] at hx;obtain⟨b,c,_,e,_⟩:=hx;exact⟨_,e⟩
  ·cases hv
 by_cases hcl:∃c ar ty,o.op=.call {callee:=.value c,args:=ar,argTypes:=ty}
 ·obtain⟨f,ar,ty,hop⟩:=hcl
  unfold midOp stepPure at h
  rw[hop] at h
  simp only[a1f] at h
  obtain⟨hth,h2⟩:=a0x trivial h
  have hgr:isGrid T H o=false:=by unfold isGrid;rw[hop]
  rw[hgr] at h2
  simp only[cond_false] at h2
  split at h2
  ·rename_i g first cap hf
   rw[forceL_eq,a2n,a2n] at h2
   have hfo:f∈o.op.operands.toList:=by simp[hop,Op.operands,Call.operands]
   have hfd:=a0l hg.tmp (hth f (by simp[Op.operands,Call.operands]))
   rw[hf] at hfd
   obtain⟨as,bs,hfv,had,hbd⟩:=hfd
   have hargs:=a3f hg.tmp ar.toList (fun x hx=>hth x (by simp[Op.operands,Call.operands];exact .inr (by simpa using hx)))
   rcases h2 with⟨v,hp,hk2⟩|⟨R0,hp,hk2⟩|⟨ps,ids,args',R0,hfz,hps,hp,hk2⟩
   ·rw[force_eq,a0n] at hk2
    obtain⟨hpl,hcall⟩:=pcall_run2 hg.sat (fun _ _ h=>h) hp (had.append (hargs.append hbd))
    refine⟨fun _ _=>trivial,?_⟩
    rw[Oper.semAt_eq _ _ _ hd,call_run hop hfv hpl]
    refine⟨fun hsome=>by simp[Fw] at hsome,a3g (hcall.mono ?_)⟩
    rintro e' w' ⟨x,rfl,s1,s2,s3,s4⟩
    exact⟨⟨Act.put_defers' _ _ _,grow I w w',η,_,H,hk2,⟨s1,(hg.tmp.mono s3).put s2⟩,s4,fun _ _ hh=>hh⟩,x,rfl⟩
   ·unfold sys NNew at hp
    obtain⟨hfo2,hpl,hc⟩:=hp
    refine⟨fun _ _=>trivial,?_⟩
    rw[Oper.semAt_eq _ _ _ hd,call_run hop hfv hpl]
    refine⟨fun hsome=>by simp[Fw] at hsome,a3g ((hc I w _ hg.sat.ilt (fo_nil_list _ _ hfo2 (had.append (hargs.append hbd)))).mono ?_)⟩
    rintro e w' ⟨I',η',H',ret,v,rfl,hr,hS',hden,hst⟩
    obtain⟨s1,s2,s3⟩:=hg.sat.join hS' hst
    have hk3:=hk2 ret H' hr
    rw[a1k,force_eq,appK_eq,a0n] at hk3
    exact⟨⟨Act.put_defers' _ _ _,I',η++η',_,_,hk3,⟨s1,(hg.tmp.mono s2).put (Den.shift (fun j e he=>by rw[List.getElem?_append_right (by rw[hg.sat.len];omega),hg.sat.len];simpa using he) _ _ hden)⟩,s3,fun id e he=>by have he:η[id]? = some e:=he;show(η++η')[id]? = some e;rw[List.getElem?_append_left (List.getElem?_eq_some_iff.1 he).1];exact he⟩,v,rfl⟩
   ·obtain⟨q1,q2,q3⟩:=hg.sat.freeze ids
    have hd':=frzL_sound (J:=frzI I η H ids) (C:=fun id=>∀e o b,η[id]? = some e→H[id]? = some o→o.has e b→frzI I η H ids b) (fun v v' ps ids x=>frzV_sound hg.sat.obj (fun b hb=>.inl hb) 8 v v' ps ids x) _ args' ps ids _ hfz hps
     (fun id hid e o b he ho hb=>.inr ⟨id,hid,e,o,he,ho,hb⟩) (had.append (hargs.append hbd))
    unfold sys NNew at hp
    obtain⟨hfo2,hpl,hc⟩:=hp
    refine⟨fun _ _=>trivial,?_⟩
    rw[Oper.semAt_eq _ _ _ hd,call_run hop hfv hpl]
    refine⟨fun hsome=>by simp[Fw] at hsome,a3g ((hc _ w _ q1.ilt hd').mono ?_)⟩
    rintro e w' ⟨I',η',H',ret,v,rfl,hr,hS',hden,hst⟩
    obtain⟨s1,s2,s3⟩:=q1.join hS' hst
    have hk3:=hk2 ret H' hr
    rw[goneK_eq,a1k,force_eq,appK_eq,a0n] at hk3
    exact⟨⟨Act.put_defers' _ _ _,I',η++η',_,_,hk3,⟨s1,((hg.tmp.mono q2).mono s2).put (Den.shift (fun j e he=>by rw[List.getElem?_append_right (by rw[q1.len];omega),q1.len];simpa using he) _ _ hden)⟩,q3.trans s3,fun id e he=>by have he:η[id]? = some e:=he;show(η++η')[id]? = some e;rw[List.getElem?_append_left (List.getElem?_eq_some_iff.1 he).1];exact he⟩,v,rfl⟩
  ·exact h2.elim
 have hcl:∀c ar ty,o.op≠.call {callee:=.value c,args:=ar,argTypes:=ty}:=fun c ar ty e=>hcl ⟨c,ar,ty,e⟩
 refine wpIn_put hk hcl hn ?_
 rcases stepPure_sound relH_RE hE (r:=r) (n:=n) (Q:=Q) hg h hd with h1|h1
 ·exact h1
 ·obtain⟨hth,h2⟩:=a0x trivial h1
  cases hgr:isGrid T H o with
  |true=>
   rw[hgr] at h2
   exact gridOp_sound relH_RE hE hg h2 hth
  |false=>
   rw[hgr] at h2
   simp only[cond_false] at h2
   split at h2
   ·exact heapOp_sound relH_RE hE hg h2 hth
   ·exact a1y relH_RE hE hg h2 hth
   ·rename_i hop
    exact(hcl _ _ _ hop).elim
   ·exact extOp_sound relH_RE hE hg h2 hth
   ·exact extOp_sound relH_RE hE hg h2 hth
   ·exact h2.elim
theorem noObj_spec:∀{zd:List LZ},noObj zd=true→∀x∈zd,x.ob=none
 |[],_,x,hx=>by cases hx
 |z :: l,h,x,hx=>by
  simp only[noObj,a0D,Option.isNone_iff_eq_none] at h
  rcases a0Z.1 hx with rfl|hx
  ·exact h.1
  ·exact noObj_spec h.2 x hx
theorem stepCall_sound {R:Rel} (hR:RelOk R) (hE:a1b E P) {T:List V} {H:List O} {o:Oper} {K:KT} {I:Nat→Prop} {η:Eta} {w:World} {a:Act} (hk:isCallOp o.op=true) (hg:Good I η w T H a) (h:stepOp (sys P) E T H o K) :
  o.wpIn (Fw r) n P a w (fun a' w'=>(a'.defers=a.defers∧∃I' η' T' H',K T' H'∧Good I' η' w' T' H' a'∧R I (own η H) w I' (own η' H') w'∧Mono I η w I' η' w')∧∃x,a'=a.put o.dst x) Q:=by
 have hd:∀c,o.op≠.defer c:=by intro c hc;rw[hc] at hk;cases hk
 by_cases hv:∃c ar ty,o.op=.call {callee:=.value c,args:=ar,argTypes:=ty}
 ·obtain⟨fo,args,ty,hop⟩:=hv
  unfold stepOp stepPure at h
  rw[hop] at h
  simp only[a1f] at h
  obtain⟨ht,h2⟩:=a0x trivial h
  have hgr:isGrid T H o=false:=by unfold isGrid;rw[hop]
  have hex:isExt T o=false:=by unfold isExt;rw[hop]
  have hfz:isFrz T o=false:=by unfold isFrz;rw[hop]
  rw[hgr,hex,hfz] at h2
  simp only[cond_false] at h2
  unfold callOp at h2
  rw[hop] at h2
  simp only at h2
  split at h2
  ·rename_i g first cap hf
   rw[forceL_eq,a2n,a2n] at h2
   have hfd:=a0l hg.tmp (ht fo (by simp[Op.operands,Call.operands]))
   rw[hf] at hfd
   obtain⟨as,bs,hfv,had,hbd⟩:=hfd
   have hargs:=a3f hg.tmp args.toList (fun x hx=>ht x (by simp[Op.operands,Call.operands];exact .inr (by simpa using hx)))
   have hall:DenL I η w (first++(evs T args.toList++cap)) (as++(args.toList.map a.eval++bs)):=had.append (hargs.append hbd)
   unfold sys Callee at h2
   obtain⟨⟨fn,hfn,hnm,hbody⟩,hcall⟩:=h2
   have hc:=hcall I η w _ hg.sat hall
   refine⟨fun _ _=>trivial,?_⟩
   rw[Oper.semAt_eq _ _ _ hd,call_run hop hfv ⟨fn,hfn,hnm,hbody⟩]
   refine⟨fun hsome=>by simp[Fw] at hsome,a3g (hc.mono ?_)⟩
   rintro e w' ⟨I',η',H',ret,v,rfl,hk,hs,hden,hm,hr⟩
   rw[a0n] at hk
   exact⟨⟨Act.put_defers' _ _ _,I',η',_,H',hk,⟨hs,(hg.tmp.mono hm).put hden⟩,hR.step hr,hm⟩,v,rfl⟩
  ·rename_i id hf
   rw[forceL_eq] at h2
   have hfd:=a0l hg.tmp (ht fo (by simp[Op.operands,Call.operands]))
   rw[hf] at hfd
   have hargs:=a3f hg.tmp args.toList (fun x hx=>ht x (by simp[Op.operands,Call.operands];exact .inr (by simpa using hx)))
   unfold sys YCall at h2
   obtain⟨b,c,fn,tmps,assign,body,hη,hinv,hround⟩:=h2 I η w _ hg.sat hargs
   obtain⟨b',c',hη',hfv⟩:=hfd
   rw[hη] at hη'
   cases hη'
   refine⟨fun _ _=>trivial,?_⟩
   rw[Oper.semAt_eq _ _ _ hd]
   have hrun:(execOp a.eval o).run P w=.ok (.round b fn tmps assign body) w:=by
    rw[←hinv]
    have hmap:Array.map a.eval args=(List.map a.eval args.toList).toArray:=by rw[←a3M,a3L]
    simp only[execOp,hop,resolve,hfv,Deferred.ofValue,Sem.run_bind,Sem.run_pure,Result.andThen_ok,hmap]
    simp
   rw[hrun]
   refine⟨fun hsome=>by simp[Fw] at hsome,round_fw (hround.mono ?_)⟩
   rintro e w' ⟨I',η',H',ret,v,rfl,hk,hs,hden,hm,hr⟩
   rw[a0n] at hk
   exact⟨⟨Act.put_defers' _ _ _,I',η',_,H',hk,⟨hs,(hg.tmp.mono hm).put hden⟩,hR.step hr,hm⟩,v,rfl⟩
  ·rename_i D hf
   rw[forceL_eq] at h2
   have hfd:=a0l hg.tmp (ht fo (by simp[Op.operands,Call.operands]))
   rw[hf] at hfd
   have hargs:=a3f hg.tmp args.toList (fun x hx=>ht x (by simp[Op.operands,Call.operands];exact .inr (by simpa using hx)))
   unfold sys SCall at h2
   obtain⟨g,as,bs,hfv,⟨fn,hfn,hnm,hbody⟩,hc⟩:=h2 I η w _ _ hg.sat hfd hargs
   refine⟨fun _ _=>trivial,?_⟩
   rw[Oper.semAt_eq _ _ _ hd]
   have hrun:(execOp a.eval o).run P w=.ok (.enter g (as++(args.toList.map a.eval).toArray++bs)) w:=by
    have hb':fn.body.isNone=false:=hbody
    have hmap:Array.map a.eval args=(List.map a.eval args.toList).toArray:=by rw[←a3M,a3L]
    simp only[execOp,hop,resolve,hfv,Deferred.ofValue,Sem.run_bind,Sem.run_pure,Result.andThen_ok,invoke,callFunc,run_program,hfn,hnm,hb',hmap]
    simp
   rw[hrun]
   refine⟨fun hsome=>by simp[Fw] at hsome,a3g (hc.mono ?_)⟩
   rintro e w' ⟨I',η',H',ret,v,rfl,hk,hs,hden,hm,hr⟩
   rw[a0n] at hk
   exact⟨⟨Act.put_defers' _ _ _,I',η',_,H',hk,⟨hs,(hg.tmp.mono hm).put hden⟩,hR.step hr,hm⟩,v,rfl⟩
  ·exact h2.elim
 ·have hcl:∀c ar ty,o.op≠.call {callee:=.value c,args:=ar,argTypes:=ty}:=fun c ar ty e=>hv ⟨c,ar,ty,e⟩
  have hop:(∃args ty,o.op=.call {callee:=.builtin .append,args:=args,argTypes:=ty})∨(∃args ty,o.op=.call {callee:=.builtin .copy,args:=args,argTypes:=ty})∨∃t k ps,o.op=.buildSlice t k ps:=by
   unfold isCallOp at hk
   split at hk
   ·exact .inl ⟨_,_,by assumption⟩
   ·exact .inr (.inl ⟨_,_,by assumption⟩)
   ·exact .inr (.inr ⟨_,_,_,by assumption⟩)
   ·rename_i he;exact(hcl _ _ _ he).elim
   ·cases hk
  have hmk:midKind o.op=true:=by rcases hop with⟨_,_,hop⟩|⟨_,_,hop⟩|⟨_,_,_,hop⟩<;>rw[hop]<;>rfl
  have hn:∀x,o.op=.nilCheck x→∃q,a.eval x=.pointer (some q):=by intro x hx;rcases hop with⟨_,_,hop⟩|⟨_,_,hop⟩|⟨_,_,_,hop⟩<;>rw[hop] at hx<;>cases hx
  have main:o.wpIn (Fw r) n P a w (a1r RE I (own η H) w a.defers K) Q:=by
   unfold stepOp at h
   rcases stepPure_sound relH_RE hE (r:=r) (n:=n) (Q:=Q) hg h hd with h1|h1
   ·exact h1
   ·obtain⟨ht,h2⟩:=a0x trivial h1
    by_cases hgr:isGrid T H o=true
    ·rw[hgr] at h2
     exact gridOp_sound relH_RE hE hg h2 ht
    rw[a3X] at hgr
    rw[hgr] at h2
    simp only[cond_false] at h2
    by_cases hex:isExt T o=true
    ·rw[hex] at h2
     exact extOp_sound relH_RE hE hg h2 ht
    rw[a3X] at hex
    rw[hex] at h2
    simp only[cond_false] at h2
    by_cases hfz:isFrz T o=true
    ·rw[hfz] at h2
     exact frzOp_sound relH_RE RE.tr hE hg h2 ht
    rw[a3X] at hfz
    rw[hfz] at h2
    simp only[cond_false] at h2
    rcases hop with⟨_,_,hop⟩|⟨_,_,hop⟩|⟨_,_,_,hop⟩
    ·rw[hop] at h2
     exact a1y relH_RE hE hg h2 ht
    ·rw[hop] at h2
     exact a1y relH_RE hE hg h2 ht
    ·rw[hop] at h2
     exact a1y relH_RE hE hg h2 ht
  refine Oper.wpIn_mono ?_ (wpIn_put hmk hcl hn main)
  rintro a' w' ⟨⟨g1,I1,η1,T1,H1,g2,g3,g4,g5⟩,x,e⟩
  exact⟨⟨g1,I1,η1,T1,H1,g2,g3,hR.step g4,⟨fun id e he _=>g5 id e he,g4.imono,fun b hb=>g4.block b (hg.sat.ilt b hb) (fun ho=>hg.sat.notI b ho hb)⟩⟩,x,e⟩
theorem mem_sureZ {ops:List Oper} {zs:List Nat} {k:Nat}:∀{zd:List LZ} {x:LZ},x∈sureZ ops zs k zd→x∈zd∧∃z∈zs,z∈a1m ops (k+1) k∧∃o,ops[z]? = some o∧o.dst=some x.d
 |[],x,h=>by simp[sureZ] at h
 |y :: l,x,h=>by
  simp only[sureZ,cond_eq_ite] at h
  split at h
  ·rename_i hb
   rcases a0Z.1 h with rfl|h
   ·rw[List.any_eq_true] at hb
    obtain⟨z,hz,hb⟩:=hb
    simp only[a0D] at hb
    obtain⟨h1,h2⟩:=hb
    cases ho:(ops[z]? : Option Oper) with
    |none=>rw[ho] at h2;cases h2
    |some o=>
     rw[ho] at h2
     exact⟨by simp,z,hz,by simpa using h1,o,ho,by simpa using h2⟩
   ·obtain⟨h1,h2⟩:=mem_sureZ h
    exact⟨by simp[h1],h2⟩
  ·obtain⟨h1,h2⟩:=mem_sureZ h
   exact⟨by simp[h1],h2⟩
theorem keptH_spec {H:List O} {K:Prop}:∀{zd:List LZ},keptH H K zd→K∧∀x∈zd,∀b,x.ob=some b→get .gone H x.id=b
 |[],h=>⟨h,fun x hx=>by simp at hx⟩
 |z :: l,h=>by
  simp only[keptH] at h
  cases ho:z.ob with
  |none=>
   rw[ho] at h
   obtain⟨h1,h2⟩:=keptH_spec h
   refine⟨h1,fun x hx b hb=>?_⟩
   rcases a0Z.1 hx with rfl|hx
   ·rw[ho] at hb;cases hb
   ·exact h2 x hx b hb
  |some b0=>
   rw[ho] at h
   obtain⟨h1,h2⟩:=keptH_spec h.2
   refine⟨h1,fun x hx b hb=>?_⟩
   rcases a0Z.1 hx with rfl|hx
   ·rw[ho] at hb;cases hb;exact h.1
   ·exact h2 x hx b hb
theorem late_sound {R:Rel} (hR:RelOk R) (hE:a1b E P) {ops:Array Oper} {p q n0 len:Nat} {zs:List Nat} {zd:List LZ} (L:Late ops p q n0 zs zd len) {K2:KT} {I₀:Nat→Prop} {W₀:Own} {w₀:World} {ds:List Deferred}
  (hfin:∀(m:Nat) (l:Array Bool) (T:List V) (H:List O) (I:Nat→Prop) (η:Eta) (a:Act) (w:World),l.size=ops.size→l.count false=m→Down ops l→(∀j,j<ops.size→(l.getD j false=true↔j<q))→K2 T H→Good I η w T H a→a.defers=ds→R I₀ W₀ w₀ I (own η H) w→wpAnyIn (Fw r) n P .any ops Q m l a w) :
  ∀(m k:Nat) (l:Array Bool) (T:List V) (H:List O) (I:Nat→Prop) (η:Eta) (a:Act) (w:World) (T':List V) (H':List O),p≤k→k≤q→l.size=ops.size→l.count false=m→Down ops l→(∀j,j<ops.size→j∉zs→(l.getD j false=true↔j<k))→
   a3d (sys P) E ops.toList n0 zs zd K2 k ((ops.toList.drop k).take (q-k)) T H→(∀x∈zd,get .any T x.d=.any)→T.length=len→LSt' ops zs zd l T H T' H'→Good I η w T' H' a→
   (∀x∈zd,∀b,x.ob=some b→¬Dn ops zs l x→η[x.id]? = some (none,1))→a.defers=ds→R I₀ W₀ w₀ I (own η H') w→wpAnyIn (Fw r) n P .any ops Q m l a w:=by
 -- all have come
 have fin1:∀(m:Nat) (l:Array Bool) (T:List V) (H:List O) (I:Nat→Prop) (η:Eta) (a:Act) (w:World) (T':List V) (H':List O),l.size=ops.size→l.count false=m→Down ops l→(∀j,j<ops.size→j∉zs→(l.getD j false=true↔j<q))→
   a3d (sys P) E ops.toList n0 zs zd K2 q [] T H→T.length=len→LSt' ops zs zd l T H T' H'→Good I η w T' H' a→a.defers=ds→R I₀ W₀ w₀ I (own η H') w→(∀z∈zs,l.getD z false=true)→wpAnyIn (Fw r) n P .any ops Q m l a w:=by
  intro m l T H I η a w T' H' hs hc hdn hl h hTl st hg hds hr hall
  have hDn:∀x∈zd,Dn ops zs l x:=fun x hx=>by
   obtain⟨z,hz,ho,_⟩:=L.of x hx
   exact⟨z,hz,ho,hall z hz⟩
  simp only[a3d,cond_eq_ite] at h
  split at h
  ·rename_i hgn
   obtain⟨Tr,h1,h2,h3,h4⟩:=backT_spec h (fun x hx y hy e=>by rw[L.dinj x hx y hy e]) (fun x hx hl=>L.rng x hx (by rw[←hTl];exact hl))
   obtain⟨h5,_⟩:=zSameK_spec h1
   obtain⟨Hr,h6,h7,h8,h9⟩:=backH_spec h5 (fun x hx y hy s1 s2 e=>by rw[L.idinj x hx y hy s1 s2 e])
   have eT:T'=Tr:=by
    refine list_get_ext (by rw[st.tlen,h2]) (fun x=>?_)
    by_cases hx:∃y∈zd,y.d=x
    ·obtain⟨y,hy,rfl⟩:=hx
     rw[st.ton y hy (hDn y hy),h4 y hy]
    ·rw[st.toff x (fun y hy _ e=>hx ⟨y,hy,e⟩),h3 x (fun y hy e=>hx ⟨y,hy,e⟩)]
   have eH:H'=Hr:=by
    apply a1J
    intro i
    by_cases hx:∃y∈zd,y.ob.isSome=true∧y.id=i
    ·obtain⟨y,hy,hsm,rfl⟩:=hx
     obtain⟨b,hb⟩:=a2X.1 hsm
     have hlt:y.id<H.length:=(a0B.1 (a2t hgn y hy hsm)).1
     rw[st.hon y hy b hb (hDn y hy),h9 y hy b hb hlt]
    ·rw[st.hoff i (fun y hy hsm _ e=>hx ⟨y,hy,hsm,e⟩),h8 i (fun y hy hsm e=>hx ⟨y,hy,hsm,e⟩)]
   subst eT eH
   refine hfin m l T' H' I η a w hs hc hdn (fun j hj=>?_) h6 hg hds hr
   by_cases hz:j∈zs
   ·exact⟨fun _=>by have:=L.ok.zlt j hz;have:=L.pq;omega,fun _=>hall j hz⟩
   ·exact hl j hj hz
  ·exact h.elim
 intro m
 induction m with
 |zero=>
  intro k l T H I η a w T' H' hpk hkq hs hc hdn hl h hcl hTl st hg hpend hds hr
  have hkq':k=q:=by
   rcases a1N k q with h1|h1
   ·have hk:k<ops.size:=by have:=L.qn;omega
    have:=(hl k hk (fun hz=>by have:=L.ok.zlt k hz;omega)).1 (count_zero hc k (by omega));omega
   ·omega
  subst hkq'
  rw[Nat.sub_self,List.take_zero] at h
  exact fin1 0 l T H I η a w T' H' hs hc hdn hl h hTl st hg hds hr (fun z hz=>count_zero hc z (by have:=L.ok.zlt z hz;have:=L.ok.le;omega))
 |succ m ih=>
  intro k l T H I η a w T' H' hpk hkq hs hc hdn hl h hcl hTl st hg hpend hds hr
  by_cases hend:k=q∧∀z∈zs,l.getD z false=true
  ·obtain⟨rfl,hall⟩:=hend
   rw[Nat.sub_self,List.take_zero] at h
   exact fin1 (m+1) l T H I η a w T' H' hs hc hdn hl h hTl st hg hds hr hall
  ·have stage:goneB H zd=true∧∃Tr,Tr.length=T.length∧(∀x,(∀z∈zd,z.d≠x)→get .any Tr x=get .any T x)∧(∀z∈zd,get .any Tr z.d=z.v)∧
     (∀z∈zd,drawOp (sys P) E ops.toList (take n0 H) Tr z.id z.o (fun v ob=>v=z.v∧ob=z.ob))∧(∀o rest,(ops.toList.drop k).take (q-k)=o :: rest→backT (sureZ ops.toList zs k zd) T fun T=>backH (sureZ ops.toList zs k zd) H fun H=>midG (sys P) E ops.toList zd T H o fun T H=>keptH H (hideK (sureZ ops.toList zs k zd) T H fun T H=>clrT zd T fun T=>a3d (sys P) E ops.toList n0 zs zd K2 (k+1) rest T H) (sureZ ops.toList zs k zd)):=by
    cases hlist:(ops.toList.drop k).take (q-k) with
    |nil=>
     rw[hlist] at h
     simp only[a3d,cond_eq_ite] at h
     split at h
     ·rename_i hgn
      obtain⟨Tr,h1,h2,h3,h4⟩:=backT_spec h (fun x hx y hy e=>by rw[L.dinj x hx y hy e]) (fun x hx hl=>L.rng x hx (by rw[←hTl];exact hl))
      exact⟨hgn,Tr,h2,h3,h4,(zSameK_spec h1).2,fun o rest e=>by cases e⟩
     ·exact h.elim
    |cons o rest=>
     rw[hlist] at h
     simp only[a3d,cond_eq_ite] at h
     split at h
     ·rename_i hgn
      obtain⟨Tr,h1,h2,h3,h4⟩:=backT_spec h (fun x hx y hy e=>by rw[L.dinj x hx y hy e]) (fun x hx hl=>L.rng x hx (by rw[←hTl];exact hl))
      exact⟨hgn,Tr,h2,h3,h4,(zSameK_spec h1).2,fun o' rest' e=>by cases e;exact(zSameK_spec h1).1⟩
     ·exact h.elim
   obtain⟨hgn,Tr,r1,r2,r3,r4,r5⟩:=stage
   constructor
   ·intro hnil
    have:∃i,i<ops.size∧¬l.getD i false=true:=by
     have hm:false∈l:=by
      apply a0Q
      intro hm
      rw[←Array.count_eq_zero] at hm
      omega
     obtain⟨i,hi,he⟩:=Array.mem_iff_getElem.1 hm
     exact⟨i,by omega,by simp[hi,he]⟩
    obtain⟨i,hi,hn⟩:=this
    exact(least_ready L.ok.toDTail hs i hi hn hnil).elim
   ·intro i hi
    rw[mem_ready] at hi
    obtain⟨h0,o,ho,hall⟩:=hi
    have hlt:=(a0L.1 ho).1
    have hnl:¬l.getD i false=true:=(getD_tf (by omega)).1 h0
    have hdn':Down ops (l.setIfInBounds i true):=by
     intro j o2 ho2 hj e he hb
     rw[a1e (by omega)] at hj ⊢
     rcases hj with rfl|hj
     ·rw[ho] at ho2;cases ho2
      exact .inr (hall e he hb)
     ·exact .inr (hdn j o2 ho2 hj e he hb)
    have uniq:∀z∈zs,∀z'∈zs,∀x∈zd,ops[z]? = some x.o→ops[z']? = some x.o→z=z':=by
     intro z hz z' hz' x hx e1 e2
     refine a0Q fun hne=>L.ok.apart z z' x.o x.o (L.ok.zlt z hz) (L.ok.zlt z' hz') e1 e2 hne rfl
    unfold wpOpIn
    simp only[ho]
    by_cases hz:i∈zs
    ·obtain⟨x,hx,hxo,hxd⟩:=L.to i hz
     rw[ho] at hxo
     have hxo:o=x.o:=a1Z hxo
     have hnd:¬Dn ops zs l x:=by
      rintro⟨z,hz',ho',hl'⟩
      have:=uniq z hz' i hz x hx ho' (by rw[ho,hxo])
      subst this
      exact hnl hl'
     have hDn:∀y∈zd,(Dn ops zs (l.setIfInBounds i true) y↔y.o=o∨Dn ops zs l y):=by
      intro y hy
      constructor
      ·rintro⟨z,hz',ho',hl'⟩
       rw[a1e (by omega)] at hl'
       rcases hl' with rfl|hl'
       ·rw[ho] at ho';exact .inl (a1Z ho').symm
       ·exact .inr ⟨z,hz',ho',hl'⟩
      ·rintro(e|⟨z,hz',ho',hl'⟩)
       ·exact⟨i,hz,by rw[ho,e],by rw[a1e (by omega)];exact .inl rfl⟩
       ·exact⟨z,hz',ho',by rw[a1e (by omega)];exact .inr hl'⟩
     have hfact:=drawOp_fact hR hE (r4 x hx)
     rw[←hxo] at hfact
     have hag:∀t∈looks ops.toList o,get .any T' t=get .any Tr t:=by
      intro t ht
      by_cases hy:∃y∈zd,y.d=t
      ·obtain⟨y,hy,rfl⟩:=hy
       obtain⟨z,hz',ho',hd'⟩:=L.of y hy
       obtain⟨_,e,he,hb,hon⟩:=L.ok.look i z o y.o (L.ok.zlt i hz) (L.ok.zlt z hz') ho ho' y.d ht hd'
       have hdone:=hall e he hb
       rw[hon] at hdone
       rw[st.ton y hy ⟨z,hz',ho',hdone⟩,r3 y hy]
      ·rw[st.toff t (fun y hy' _ e=>hy ⟨y,hy',e⟩),r2 t (fun y hy' e=>hy ⟨y,hy',e⟩)]
     have hold:∀(j:Nat) (oo:O),(take n0 H)[j]? = some oo→H'[j]? = some oo:=by
      intro j oo hj
      rw[take_eq,a1C] at hj
      split at hj
      ·rename_i hjn
       rw[st.hoff j (fun y hy hsm _ e=>by have:=L.idge y hy hsm;omega)]
       exact hj
      ·cases hj
     have hplace:x.ob.isSome=true→η[x.id]? = some (none,1)∧H'[x.id]? = some .gone:=by
      intro hsm
      obtain⟨b,hb⟩:=a2X.1 hsm
      refine⟨hpend x hx b hb hnd,?_⟩
      rw[st.hoff x.id (fun y hy hys hyd e=>?_)]
      ·exact a2t hgn x hx hsm
      ·have eo:=L.idinj y hy x hx hys hsm e
       subst eo
       exact hnd hyd
     have:=hfact r n Q I η w a T' H' hag hold hg hplace
     have next:∀(a'':Act) (w'':World),(a''.defers=a.defers∧∃I'' η'',Good I'' η'' w'' (match o.dst with|some d=>set T' d x.v|none=>T') (match x.ob with|some b=>H'.set x.id b|none=>H') a''∧
       (∀(j:Nat),j≠x.id→η''[j]? = η[j]?)∧(x.ob=none→η''=η)∧R I (own η H') w I'' (own η'' (match x.ob with|some b=>H'.set x.id b|none=>H')) w'')→wpAnyIn (Fw r) n P .any ops Q m (l.setIfInBounds i true) a'' w'':=by
      rintro a'' w'' ⟨hds',I'',η'',hg'',hη1,hη2,hr''⟩
      rw[hxo,hxd] at hg''
      simp only at hg''
      refine ih k (l.setIfInBounds i true) T H I'' η'' a'' w'' _ _ hpk hkq (by simpa using hs) (count_set h0 hc) hdn' (fun j hj hjz=>?_) h hcl hTl ?_ hg'' ?_ (hds'.trans hds) (hR.trans hr hr'')
      ·rw[a1e (by omega),hl j hj hjz]
       constructor
       ·rintro(rfl|hh)
        ·exact(hjz hz).elim
        ·exact hh
       ·exact .inr
      ·refine⟨by rw[a0v];simpa using st.tlen,?_,fun y hy hyd=>?_,fun y hy=>?_,fun y hy b hb hyd=>?_,fun j hj=>?_⟩
       ·split
        ·simpa using st.hlen
        ·exact st.hlen
       ·rcases(hDn y hy).1 hyd with e|e
        ·have hyd':y.d=x.d:=by
          obtain⟨z,_,_,hd'⟩:=L.of y hy
          rw[e,hxo,hxd] at hd'
          exact(a1Z hd').symm
         rw[hyd',L.dinj y hy x hx hyd']
         refine get_set_eq ?_
         by_cases hlt2:x.d<T'.length
         ·exact .inl hlt2
         ·exact .inr (L.rng x hx (by rw[←hTl,←st.tlen];omega))
        ·by_cases hyx:y.d=x.d
         ·rw[L.dinj y hy x hx hyx] at e
          exact(hnd e).elim
         ·rw[a2j,if_neg (fun hh=>hyx hh.1)]
          exact st.ton y hy e
       ·have hxy:x.d≠y:=hy x hx ((hDn x hx).2 (.inl hxo.symm))
        rw[a2j,if_neg (fun hh=>hxy hh.1.symm)]
        exact st.toff y (fun u hu hud=>hy u hu ((hDn u hu).2 (.inr hud)))
       ·rcases(hDn y hy).1 hyd with e|e
        ·have hyx:y.d=x.d:=by
          obtain⟨z,_,_,hd'⟩:=L.of y hy
          rw[e,hxo,hxd] at hd'
          exact(a1Z hd').symm
         have:=L.dinj y hy x hx hyx
         subst this
         rw[hb]
         simp only
         have hlt2:y.id<H'.length:=(a0B.1 (hplace (by simp[hb])).2).1
         simp[hlt2]
        ·have h1:=st.hon y hy b hb e
         have hyx:x.ob.isSome=true→y.id≠x.id:=fun hsm he=>by
          rw[L.idinj y hy x hx (by simp[hb]) hsm he] at e
          exact hnd e
         split
         ·rename_i b' hb'
          rw[a0G,if_neg (fun he=>hyx (by simp[hb']) he.symm)]
          exact h1
         ·exact h1
       ·have h1:H'[j]? = H[j]?:=st.hoff j (fun u hu hsm hud=>hj u hu hsm ((hDn u hu).2 (.inr hud)))
        split
        ·rename_i b' hb'
         rw[a0G,if_neg (hj x hx (by simp[hb']) ((hDn x hx).2 (.inl hxo.symm)))]
         exact h1
        ·exact h1
      ·intro y hy b hb hyd
       have hny:¬Dn ops zs l y:=fun e=>hyd ((hDn y hy).2 (.inr e))
       by_cases hxs:x.ob=none
       ·rw[hη2 hxs]
        exact hpend y hy b hb hny
       ·rw[hη1 y.id (fun he=>?_)]
        ·exact hpend y hy b hb hny
        ·have:=L.idinj y hy x hx (by simp[hb]) (by cases hh:x.ob<;>simp_all) he
         subst this
         exact hyd ((hDn y hy).2 (.inl hxo.symm))
     split
     ·rename_i hw
      rw[if_pos hw] at this
      exact Oper.wpIn_mono next this
     ·rename_i hw
      rw[if_neg hw] at this
      exact⟨fun _ _=>trivial,next _ _ this⟩
    ·have hki:k≤i:=by
      rcases a1N i k with h1|h1
      ·exact(hnl ((hl i hlt hz).2 h1)).elim
      ·exact h1
     have hik:i=k:=by
      rcases a1N k i with h1|h1
      ·have hkz:k∉zs:=fun hh=>by have:=L.ok.zlt k hh;omega
       have:=a2q hdn (i+1) i o ho hall k ((L.ok.tail i hlt (by omega) k h1).resolve_right hkz)
       have:=(hl k (by omega) hkz).1 this
       omega
      ·omega
     subst hik
     have hiq:i<q:=by
      rcases a1N i q with h1|h1
      ·exact h1
      ·exfalso
       exact hend ⟨by omega,fun z hz'=>a2q hdn (i+1) i o ho hall z (L.fin i hlt h1 z hz')⟩
     obtain⟨hmk,hmd⟩:=L.mid i o ho hpk hiq
     have hdrop:(ops.toList.drop i).take (q-i)=o :: (ops.toList.drop (i+1)).take (q-(i+1)):=by
      have hil:i<ops.toList.length:=by simpa using hlt
      rw[a2A hil,show q-i=(q-(i+1))+1 by omega,List.take_succ_cons]
      congr 1
      have:ops.toList[i]? = some o:=by simpa using ho
      rw[a0C hil] at this
      exact a1Z this
     have hmid0:=r5 o _ hdrop
     have hsub:∀x∈sureZ ops.toList zs i zd,x∈zd:=fun x hx=>(mem_sureZ hx).1
     have hsd:∀x∈sureZ ops.toList zs i zd,Dn ops zs l x:=by
      intro x hx
      obtain⟨hxz,z,hz',hcl',o',ho',hd'⟩:=mem_sureZ hx
      have ho':ops[z]? = some o':=by simpa using ho'
      obtain⟨z0,hz0,hzo,hzd'⟩:=L.of x hxz
      have:z0=z:=a0Q fun hne=>L.ok.apart z0 z x.o o' (L.ok.zlt z0 hz0) (L.ok.zlt z hz') hzo ho' hne (by rw[hzd',hd'])
      subst this
      exact⟨z0,hz0,hzo,a2q hdn (i+1) i o ho hall z0 hcl'⟩
     obtain⟨Tm,hmid1,m2,m3,m4⟩:=backT_spec hmid0 (fun x hx y hy e=>by rw[L.dinj x (hsub x hx) y (hsub y hy) e]) (fun x hx hl=>L.rng x (hsub x hx) (by rw[←hTl];exact hl))
     obtain⟨Hm,hmid,n2,n3,n4⟩:=backH_spec hmid1 (fun x hx y hy s1 s2 e=>by rw[L.idinj x (hsub x hx) y (hsub y hy) s1 s2 e])
     -- without them
     have hlv:∀(j:Nat) (oo:O),Hm[j]? = some oo→oo.live→H'[j]? = some oo:=by
      intro j oo hj hlo
      by_cases hx:∃y∈sureZ ops.toList zs i zd,y.ob.isSome=true∧y.id=j
      ·obtain⟨y,hy,hsm,rfl⟩:=hx
       obtain⟨b,hb⟩:=a2X.1 hsm
       have hlt:y.id<H.length:=(a0B.1 (a2t hgn y (hsub y hy) hsm)).1
       rw[n4 y hy b hb hlt] at hj
       cases hj
       exact st.hon y (hsub y hy) _ hb (hsd y hy)
      ·rw[n3 j (fun y hy hsm e=>hx ⟨y,hy,hsm,e⟩)] at hj
       rw[st.hoff j (fun y hy hsm _ e=>?_)]
       ·exact hj
       ·have:=a2t hgn y hy hsm
        rw[e,hj] at this
        cases this
        exact hlo
     have hg0:Good I η w Tm Hm a:=by
      refine⟨hg.sat.forget (n2.trans st.hlen.symm) hlv,hg.tmp.loose (m2.trans st.tlen.symm) (fun x=>?_)⟩
      by_cases hx:∃y∈sureZ ops.toList zs i zd,y.d=x
      ·obtain⟨y,hy,rfl⟩:=hx
       exact .inr (by rw[m4 y hy,st.ton y (hsub y hy) (hsd y hy)])
      ·rw[m3 x (fun y hy e=>hx ⟨y,hy,e⟩)]
       by_cases hy:∃y∈zd,y.d=x
       ·obtain⟨y,hy,rfl⟩:=hy
        exact .inl (hcl y hy)
       ·exact .inr (st.toff x (fun y hy' _ e=>hy ⟨y,hy',e⟩)).symm
     have hDn0:∀y,(Dn ops zs (l.setIfInBounds i true) y↔Dn ops zs l y):=by
      intro y
      constructor
      ·rintro⟨z,hz',ho',hl'⟩
       rw[a1e (by omega)] at hl'
       rcases hl' with rfl|hl'
       ·exact(hz hz').elim
       ·exact⟨z,hz',ho',hl'⟩
      ·rintro⟨z,hz',ho',hl'⟩
       exact⟨z,hz',ho',by rw[a1e (by omega)];exact .inr hl'⟩
     unfold midG at hmid
     obtain⟨hw1,hw2,_⟩:=guardV_spec (ops:=ops) (o:=o) hg0.tmp
     have fin2:∀(a1:Act) (w1:World),(a1r RE I (own η Hm) w a.defers (fun T H=>keptH H (hideK (sureZ ops.toList zs i zd) T H fun T H=>clrT zd T fun T=>a3d (sys P) E ops.toList n0 zs zd K2 (i+1) ((ops.toList.drop (i+1)).take (q-(i+1))) T H) (sureZ ops.toList zs i zd)) a1 w1∧∃x,a1=a.put o.dst x)→wpAnyIn (Fw r) n P .any ops Q m (l.setIfInBounds i true) a1 w1:=by
      rintro a1 w1 ⟨⟨g1,I1,η1,T1,H1,g2',g3,g4,g5⟩,xv,rfl⟩
      obtain⟨hsk,hkept⟩:=keptH_spec g2'
      obtain⟨Ta,Ha,ga,a2,a3,a4,a5,a6,a7,a8⟩:=hideK_spec hsk
      obtain⟨T2,t1,t2',t3',t4,t5,t6⟩:=clrT_spec ga
      have t2:T2.length=T1.length:=t2'.trans a2
      have t3:∀x,get .any T2 x=.any∨get .any T2 x=get .any T1 x:=by
       intro x
       by_cases hx:∃y∈zd,y.d=x
       ·obtain⟨y,hy,rfl⟩:=hx
        exact .inl (t5 y hy)
       ·exact .inr (by rw[t6 x (fun y hy e=>hx ⟨y,hy,e⟩),a4 x (fun y hy e=>hx ⟨y,hsub y hy,e⟩)])
      have hlen1:T1.length=T.length:=by
       have e1:=g3.tmp.1
       have e2:=hg0.tmp.1
       have e3:(a.put o.dst xv).tmps.size=a.tmps.size:=by cases o.dst<;>simp[Act.put]
       omega
      have hgn1:goneB Ha zd=true:=by
       cases hlist:(ops.toList.drop (i+1)).take (q-(i+1)) with
       |nil=>
        rw[hlist] at t1
        simp only[a3d,cond_eq_ite] at t1
        split at t1
        ·assumption
        ·exact t1.elim
       |cons o' rest=>
        rw[hlist] at t1
        simp only[a3d,cond_eq_ite] at t1
        split at t1
        ·assumption
        ·exact t1.elim
      have hDn:∀y,(Dn ops zs (l.setIfInBounds i true) y↔Dn ops zs l y):=by
       intro y
       constructor
       ·rintro⟨z,hz',ho',hl'⟩
        rw[a1e (by omega)] at hl'
        rcases hl' with rfl|hl'
        ·exact(hz hz').elim
        ·exact⟨z,hz',ho',hl'⟩
       ·rintro⟨z,hz',ho',hl'⟩
        exact⟨z,hz',ho',by rw[a1e (by omega)];exact .inr hl'⟩
      have hzd:∀y,y∈zd.filter (fun y=>@decide (Dn ops zs l y) (Classical.propDecidable _))↔y∈zd∧Dn ops zs l y:=by
       intro y
       simp
      obtain⟨T2',_,u2,u3,u4⟩:=backT_spec (backT_triv (zd.filter (fun y=>@decide (Dn ops zs l y) (Classical.propDecidable _))) T2) (fun x hx y hy e=>by rw[L.dinj x ((hzd x).1 hx).1 y ((hzd y).1 hy).1 e]) (fun x hx hl=>L.rng x ((hzd x).1 hx).1 (by rw[←hTl,←hlen1,←t2];exact hl))
      obtain⟨H1',_,v2,v3,v4⟩:=backH_spec (backH_triv (zd.filter (fun y=>@decide (Dn ops zs l y) (Classical.propDecidable _))) Ha) (fun x hx y hy s1 s2 e=>by rw[L.idinj x ((hzd x).1 hx).1 y ((hzd y).1 hy).1 s1 s2 e])
      have hv4:∀x∈zd,∀b,x.ob=some b→Dn ops zs l x→H1'[x.id]? = some b:=fun x hx b hb hd=>v4 x ((hzd x).2 ⟨hx,hd⟩) b hb (a0B.1 (a2t hgn1 x hx (by simp[hb]))).1
      have hv3:∀j:Nat,(∀x∈zd,x.ob.isSome=true→Dn ops zs l x→x.id≠j)→H1'[j]? = Ha[j]?:=fun j hj=>v3 j (fun x hx hsm=>hj x ((hzd x).1 hx).1 hsm ((hzd x).1 hx).2)
      obtain⟨s1,s2,s3⟩:=hg.sat.readd (H:=Hm) hlv g3.sat g4 g5 (v2.trans a3) (fun j oo hj hlo=>by
       by_cases hx:∃y∈zd,y.ob.isSome=true∧Dn ops zs l y∧y.id=j
       ·obtain⟨y,hy,hsm,hyd,rfl⟩:=hx
        obtain⟨b,hb⟩:=a2X.1 hsm
        have e1:=hv4 y hy b hb hyd
        rw[hj] at e1
        cases e1
        by_cases hys:y∈sureZ ops.toList zs i zd
        ·left
         have e2:=hkept y hys _ hb
         have hlt:y.id<H1.length:=by rw[←a3];exact(a0B.1 (a2t hgn1 y hy hsm)).1
         rw[a0z,a0C hlt] at e2
         rw[a0C hlt,←e2]
         rfl
        ·right
         refine⟨st.hon y hy _ hb hyd,fun o' ho'=>?_⟩
         rw[n3 y.id (fun u hu hsu e=>hys (by rw[←L.idinj u (hsub u hu) y hy hsu hsm e];exact hu)),a2t hgn y hy hsm] at ho'
         cases ho'
         exact fun hh=>hh
       ·left
        rw[←a7 j (fun y hy hsm e=>hx ⟨y,hsub y hy,hsm,hsd y hy,e⟩),←hv3 j (fun y hy hsm hyd e=>hx ⟨y,hy,hsm,hyd,e⟩)]
        exact hj)
      refine ih (i+1) (l.setIfInBounds i true) T2 Ha I1 η1 _ w1 T2' H1' (by omega) (by omega) (by simpa using hs) (count_set h0 hc) hdn' (fun j hj hjz=>?_) t1 t5 (by rw[t2,hlen1,hTl]) ?_ ⟨s1,?_⟩ (fun x hx b hb hnd=>?_) ((Act.put_defers' _ _ _).trans hds) (hR.trans hr (hR.step s2))
      ·rw[a1e (by omega),hl j hj hjz]
       omega
      ·refine⟨u2,v2,fun x hx hd=>u4 x ((hzd x).2 ⟨hx,(hDn x).1 hd⟩),fun y hy=>u3 y (fun x hx=>hy x ((hzd x).1 hx).1 ((hDn x).2 ((hzd x).1 hx).2)),fun x hx b hb hd=>hv4 x hx b hb ((hDn x).1 hd),fun j hj=>hv3 j (fun x hx hsm hd=>hj x hx hsm ((hDn x).2 hd))⟩
      ·refine⟨by rw[u2,t2];exact g3.tmp.1,fun x=>?_⟩
       by_cases hy:∃y∈zd,Dn ops zs l y∧y.d=x
       ·obtain⟨y,hy,hyd,rfl⟩:=hy
        rw[u4 y ((hzd y).2 ⟨hy,hyd⟩)]
        have e1:=hg.tmp.2 y.d
        rw[st.ton y hy hyd] at e1
        have e2:(a.put o.dst xv).tmps.getD y.d undef=a.tmps.getD y.d undef:=by
         cases hod:o.dst with
         |none=>rfl
         |some d=>
          have hne:d≠y.d:=fun e=>hmd y hy (by rw[hod,e])
          simp only[Act.put,a1W,a3H]
          simp[hne]
        rw[e2]
        exact Den.mono s3 _ _ e1
       ·rw[u3 x (fun y hy' e=>hy ⟨y,((hzd y).1 hy').1,((hzd y).1 hy').2,e⟩)]
        rcases t3 x with e|e
        ·rw[e];trivial
        ·rw[e];exact g3.tmp.2 x
      ·exact g5 _ _ (hpend x hx b hb (fun e=>hnd ((hDn x).2 e)))
     split at hmid
     rotate_left
     ·rename_i hgv
      rw[if_neg (by rw[hw2 hgv];simp)]
      rw[a0n] at hmid
      exact⟨fun _ _=>trivial,fin2 _ _ ⟨⟨Act.put_defers' _ _ _,I,η,_,_,hmid,⟨hg0.sat,hg0.tmp.put trivial⟩,⟨Step.refl _ _ _,fun _ _ he=>he⟩⟩,undef,rfl⟩⟩
     ·exact hmid.elim
     rename_i hgv
     rw[if_pos (hw1 hgv)]
     by_cases hgen:(isCallOp o.op && noObj zd)=true
     ·rw[hgen] at hmid
      simp only[cond_true] at hmid
      simp only[a0D] at hgen
      have hno:∀x∈zd,x.ob=none:=noObj_spec hgen.2
      have hHH:H'=H:=by
       apply a1J
       intro j
       exact st.hoff j (fun x hx hsm=>by rw[hno x hx] at hsm;cases hsm)
      have hHm:Hm=H:=by
       apply a1J
       intro j
       exact n3 j (fun x hx hsm=>by rw[hno x (hsub x hx)] at hsm;cases hsm)
      refine Oper.wpIn_mono ?_ (stepCall_sound (P:=P) hR hE (r:=r) (n:=n) (Q:=Q) hgen.1 hg0 hmid)
      rintro a1 w1 ⟨⟨g1,I1,η1,T1,H1,g2',g3,g4,g5m⟩,xv,rfl⟩
      obtain⟨Ta,Ha,ga,a2,a3,a4,a5,a6,a7,a8⟩:=hideK_spec (keptH_spec g2').1
      have hHa:Ha=H1:=by
       apply a1J
       intro j
       exact a7 j (fun x hx hsm=>by rw[hno x (hsub x hx)] at hsm;cases hsm)
      subst hHa
      obtain⟨T2,t1,t2',t3',t4,t5,t6⟩:=clrT_spec ga
      have t2:T2.length=T1.length:=t2'.trans a2
      have t3:∀x,get .any T2 x=.any∨get .any T2 x=get .any T1 x:=by
       intro x
       by_cases hx:∃y∈zd,y.d=x
       ·obtain⟨y,hy,rfl⟩:=hx
        exact .inl (t5 y hy)
       ·exact .inr (by rw[t6 x (fun y hy e=>hx ⟨y,hy,e⟩),a4 x (fun y hy e=>hx ⟨y,hsub y hy,e⟩)])
      have hlen1:T1.length=T.length:=by
       have e1:=g3.tmp.1
       have e2:=hg0.tmp.1
       have e3:(a.put o.dst xv).tmps.size=a.tmps.size:=by cases o.dst<;>simp[Act.put]
       omega
      have hzd:∀y,y∈zd.filter (fun y=>@decide (Dn ops zs l y) (Classical.propDecidable _))↔y∈zd∧Dn ops zs l y:=by
       intro y
       simp
      obtain⟨T2',_,u2,u3,u4⟩:=backT_spec (backT_triv (zd.filter (fun y=>@decide (Dn ops zs l y) (Classical.propDecidable _))) T2) (fun x hx y hy e=>by rw[L.dinj x ((hzd x).1 hx).1 y ((hzd y).1 hy).1 e]) (fun x hx hl=>L.rng x ((hzd x).1 hx).1 (by rw[←hTl,←hlen1,←t2];exact hl))
      refine ih (i+1) (l.setIfInBounds i true) T2 Ha I1 η1 _ w1 T2' Ha (by omega) (by omega) (by simpa using hs) (count_set h0 hc) hdn' (fun j hj hjz=>?_) t1 t5 (by rw[t2,hlen1,hTl]) ?_ ⟨g3.sat,?_⟩ (fun x hx b hb hnd=>by rw[hno x hx] at hb;cases hb) ((Act.put_defers' _ _ _).trans hds) (hR.trans hr (by rw[hHH,←hHm];exact g4))
      ·rw[a1e (by omega),hl j hj hjz]
       omega
      ·refine⟨u2,rfl,fun x hx hd=>u4 x ((hzd x).2 ⟨hx,(hDn0 x).1 hd⟩),fun y hy=>u3 y (fun x hx=>hy x ((hzd x).1 hx).1 ((hDn0 x).2 ((hzd x).1 hx).2)),fun x hx b hb hd=>(by rw[hno x hx] at hb;cases hb),fun j hj=>rfl⟩
      ·refine⟨by rw[u2,t2];exact g3.tmp.1,fun x=>?_⟩
       by_cases hy:∃y∈zd,Dn ops zs l y∧y.d=x
       ·obtain⟨y,hy,hyd,rfl⟩:=hy
        rw[u4 y ((hzd y).2 ⟨hy,hyd⟩)]
        have e1:=hg.tmp.2 y.d
        rw[st.ton y hy hyd] at e1
        have e2:(a.put o.dst xv).tmps.getD y.d undef=a.tmps.getD y.d undef:=by
         cases hod:o.dst with
         |none=>rfl
         |some d=>
          have hne:d≠y.d:=fun e=>hmd y hy (by rw[hod,e])
          simp only[Act.put,a1W,a3H]
          simp[hne]
        rw[e2]
        exact Den.mono g5m _ _ e1
       ·rw[u3 x (fun y hy' e=>hy ⟨y,((hzd y).1 hy').1,((hzd y).1 hy').2,e⟩)]
        rcases t3 x with e|e
        ·rw[e];trivial
        ·rw[e];exact g3.tmp.2 x
     rw[a3X] at hgen
     rw[hgen] at hmid
     simp only[cond_false] at hmid
     exact Oper.wpIn_mono fin2 (midOp_sound (P:=P) hE (r:=r) (n:=n) (Q:=Q) hmk hg0 hmid)
theorem lateOk_spec {ops:Array Oper} {p q:Nat} {zs:List Nat} (h:lateOk ops.toList p q zs=true) :
  (∀z∈zs,∀o,ops[z]? = some o→lateKind o.op=true)∧p≤q∧q≤ops.size∧
  (∀(j:Nat) (o:Oper),ops[j]? = some o→p≤j→j<q→midKind o.op=true∧∀(i:Nat) (o':Oper),i<p→ops[i]? = some o'→∀d,o.dst=some d→o'.dst≠some d)∧
  (∀j,j<ops.size→q≤j→∀z∈zs,z∈a1m ops.toList (j+1) j):=by
 unfold lateOk at h
 simp only[a0D,a2G,a1F] at h
 obtain⟨⟨⟨⟨h1,h2⟩,h3⟩,h4⟩,h5⟩:=h
 refine⟨fun z hz o ho=>?_,Nat.le_of_ble_eq_true h2,by simpa using Nat.le_of_ble_eq_true h3,fun j o ho hp hq=>?_,fun j hj hq z hz=>?_⟩
 ·have:=h1 z hz
  have ho1:ops.toList[z]? = some o:=by simpa using ho
  rw[ho1] at this
  simp only[a0D] at this
  exact this.1
 ·have hlt:j<ops.toList.length:=by simpa using (Array.getElem?_eq_some_iff.1 ho).1
  have:=h4 j hlt
  have ho1:ops.toList[j]? = some o:=by simpa using ho
  rw[ho1] at this
  simp only[a3W] at this
  rcases this with(g|g)|g
  ·have:=a0P g;omega
  ·have:=a0P g;omega
  ·simp only[a0D,a2G,a1F] at g
   refine⟨g.1,fun i o' hi ho' d hd hd'=>?_⟩
   have:=g.2 i hi
   have ho2:ops.toList[i]? = some o':=by simpa using ho'
   rw[ho2] at this
   simp[hd,hd'] at this
 ·have:=h5 j (by simpa using hj)
  simp only[a3W,a2G] at this
  rcases this with g|g
  ·have:=a0P g;omega
  ·simpa using g z hz
theorem draw_sound2 {R:Rel} (hR:RelOk R) (hE:a1b E P) {ops:Array Oper} {K:KT} {T:List V} {H:List O} {I:Nat→Prop} {η:Eta} {w:World} {a:Act}
  {p q:Nat} {zs:List Nat} (hok:DOk ops p zs) (hlate:lateOk ops.toList p q zs=true)
  (h:drawOps (sys P) E ops.toList H (fun T' L=>appK H L fun H'=>match mkZ T' H' (zs.filterMap (ops.toList[·]?)) with
   |some zd=>hideK zd T' H' fun T H'=>a3d (sys P) E ops.toList H.length zs zd (fun T H=>a1c (sys P) E ops.toList K (drop q ops.toList) T H) p (take (q-p) (drop p ops.toList)) T H'
   |none=>False) (take p ops.toList) H.length T [])
  (hg:Good I η w T H a) (hQ:∀a' w',a1r R I (own η H) w a.defers K a' w'→Q .normal a' w'):wpAnyIn (Fw r) n P .any ops Q ops.size (Array.replicate ops.size false) a {w with drawn:=w.drawn+1}:=by
 obtain⟨z1,z2,z3,z4,z5⟩:=lateOk_spec hlate
 refine draw_phase hR hE hok h hg ?_
 intro Ts Ls val ob dst tr hK m l a' w' I' η' T' H' hs hc hdn htl hds hall hg' hr' hT hH hη
 rw[appK_eq] at hK
 split at hK
 ·rename_i zd hzd
  obtain⟨m1,m2⟩:=mkZ_spec hzd
  obtain⟨Tc,Hc,k1,k2,k3,k4,k5,k6,k7,k8⟩:=hideK_spec hK
  rw[take_eq,a2f,a2f] at k1
  have hTp:=tr.isT p (a0K _)
  have ff:∀x∈zd,∃z∈zs,ops[z]? = some x.o∧x.o.dst=some x.d∧dst z=x.d∧x.v=get .any (Ts p) x.d∧x.ob=ob z∧(x.ob.isSome=true→x.id=H.length+(Ls z).length):=by
   intro x hx
   obtain⟨g1,g2,g3⟩:=m2 x hx
   rw[List.mem_filterMap] at g1
   obtain⟨z,hz,hzo⟩:=g1
   have hzo:ops[z]? = some x.o:=by simpa using hzo
   have hzp:=hok.zlt z hz
   obtain⟨o,ho,hd,_,_,_,_,hlf⟩:=tr.dsts z hzp
   rw[hzo] at ho
   cases ho
   obtain⟨f1,f2⟩:=hlf (z1 z hz x.o hzo)
   have hdz:dst z=x.d:=by rw[g2] at hd;exact(a1Z hd).symm
   refine⟨z,hz,hzo,g2,hdz,?_⟩
   rcases g3 with⟨q1,q2,q3,q4⟩|⟨q1,q2,q3⟩
   ·have hlt:dst z<T.length:=by
     rcases a1N (dst z) T.length with h1|h1
     ·exact h1
     ·rw[a0z,a0V (by rw[hTp.len,←hdz];exact h1)] at q2
      rcases q2 with⟨_,q2⟩|q2<;>cases q2
    have hv:=hTp.on z hzp hzp hlt
    rw[hdz] at hv
    rcases f2 q1 with⟨b,e1,e2⟩|⟨e1,_⟩
    rotate_left
    ·rw[hv,e1] at q2
     rcases q2 with⟨_,q2⟩|q2<;>cases q2
    have hid:x.id=H.length+(Ls z).length:=by rw[←hv] at e1;exact q2.inj e1
    refine⟨q3,?_,fun _=>hid⟩
    have hon:=tr.full.on z b hzp e2 trivial
    rw[q4,e2,a0z,hid,hon]
    rfl
   ·exact⟨q2,by rw[q3.1,f1 q1],fun hsm=>by rw[q3.1] at hsm;cases hsm⟩
  have same:∀x∈zd,∀y∈zd,∀z:Nat,ops[z]? = some x.o→ops[z]? = some y.o→x=y:=by
   intro x hx y hy z e1 e2
   have eo:x.o=y.o:=by rw[e1] at e2;exact a1Z e2
   obtain⟨_,a2,a3⟩:=m2 x hx
   obtain⟨_,b2,b3⟩:=m2 y hy
   have ed:x.d=y.d:=by rw[eo,b2] at a2;exact(a1Z a2).symm
   obtain⟨xo,xd,xv,xi,xb⟩:=x
   obtain⟨yo,yd,yv,yi,yb⟩:=y
   simp only at *
   subst eo ed
   rcases a3 with⟨q1,q2,q3,q4⟩|⟨q1,q2,q3⟩<;>rcases b3 with⟨p1,p2,p3,p4⟩|⟨p1,p2,p3⟩
   ·have e:=q2.inj p2
    subst e
    rw[q3,p3,q4,p4]
   ·rw[q1] at p1;cases p1
   ·rw[q1] at p1;cases p1
   ·rw[q2,p2,q3.1,p3.1,q3.2,p3.2]
  have L:Late ops p q H.length zs zd T.length:=by
   refine⟨hok,z2,z3,fun j o ho hp hq=>?_,z5,fun z hz=>?_,fun x hx=>?_,fun x hx y hy e=>?_,fun x hx y hy s1 s2 e=>?_,fun x hx hl=>?_,fun x hx hsm=>?_⟩
   ·obtain⟨g2,g3⟩:=z4 j o ho hp hq
    refine⟨g2,fun x hx e=>?_⟩
    obtain⟨z,hz,hzo,hd,_⟩:=ff x hx
    exact g3 z x.o (hok.zlt z hz) hzo x.d e hd
   ·have hzp:=hok.zlt z hz
    have hle:=hok.le
    have hzo:ops[z]? = some ops[z]:=by simp[show z<ops.size by omega]
    obtain⟨x,hx,e⟩:=m1 ops[z] (by rw[List.mem_filterMap];exact⟨z,hz,by simp⟩)
    obtain⟨_,_,_,hd,_⟩:=ff x hx
    exact⟨x,hx,by rw[hzo,e],hd⟩
   ·obtain⟨z,hz,hzo,hd,_⟩:=ff x hx
    exact⟨z,hz,hzo,hd⟩
   ·obtain⟨z,hz,hzo,_,hdz,_⟩:=ff x hx
    obtain⟨z',hz',hzo',_,hdz',_⟩:=ff y hy
    have:z=z':=a0Q fun hne=>tr.ap z' z (hok.zlt z' hz') (hok.zlt z hz) hne (by rw[hdz,hdz',e])
    subst this
    exact same x hx y hy z hzo hzo'
   ·obtain⟨z,hz,hzo,_,_,_,hob,hid⟩:=ff x hx
    obtain⟨z',hz',hzo',_,_,_,hob',hid'⟩:=ff y hy
    obtain⟨b,hb⟩:=a2X.1 s1
    obtain⟨b',hb'⟩:=a2X.1 s2
    have:z=z':=tr.idinj z z' b b' (hok.zlt z hz) (hok.zlt z' hz') (by rw[←hob,hb]) (by rw[←hob',hb']) (by rw[←hid s1,←hid' s2,e])
    subst this
    exact same x hx y hy z hzo hzo'
   ·obtain⟨z,hz,hzo,_,hdz,hv,_⟩:=ff x hx
    rw[hv,a0z,a0V (by rw[hTp.len];exact hl)]
    rfl
   ·obtain⟨z,hz,hzo,_,hdz,hv,hob,hid⟩:=ff x hx
    rw[hid hsm]
    omega
  have hgn:goneB Hc zd=true:=by
   cases hlist:(ops.toList.drop p).take (q-p) with
   |nil=>
    rw[hlist] at k1
    simp only[a3d,cond_eq_ite] at k1
    split at k1
    ·assumption
    ·exact k1.elim
   |cons o' rest=>
    rw[hlist] at k1
    simp only[a3d,cond_eq_ite] at k1
    split at k1
    ·assumption
    ·exact k1.elim
  have dn:∀x∈zd,∀z∈zs,ops[z]? = some x.o→(Dn ops zs l x↔l.getD z false=true):=by
   intro x hx z hz hzo
   constructor
   ·rintro⟨z',hz',hzo',hl'⟩
    have:z'=z:=a0Q fun hne=>hok.apart z' z x.o x.o (hok.zlt z' hz') (hok.zlt z hz) hzo' hzo hne rfl
    subst this
    exact hl'
   ·exact fun hl'=>⟨z,hz,hzo,hl'⟩
  have hzd:∀y,y∈zd.filter (fun y=>@decide (¬Dn ops zs l y) (Classical.propDecidable _))↔y∈zd∧¬Dn ops zs l y:=by
   intro y
   simp
  obtain⟨T2,_,t2,t3,_,t5,t6⟩:=clrT_spec (clrT_triv (zd.filter (fun y=>@decide (¬Dn ops zs l y) (Classical.propDecidable _))) T')
  have full:∀y,(∀i,i<p→dst i=y→l.getD i false=true)→get .any T' y=get .any (Ts p) y:=fun y hy=>hT.same hTp (fun i hi e=>⟨fun _=>hi,fun _=>hy i hi e⟩)
  refine late_sound hR hE L (K2:=fun T H=>a1c (sys P) E ops.toList K (List.drop q ops.toList) T H) (I₀:=I) (W₀:=own η H) (w₀:=w) (ds:=a.defers) ?_ m p l Tc Hc I' η' a' w' T2 H' (a0K _) z2 hs hc hdn (fun j hj hjz=>⟨fun hh=>?_,fun hh=>hall j hh hjz⟩) k1 k6 (by rw[k2,hTp.len]) ?_ ⟨hg'.sat,hg'.tmp.loose t2 t3⟩ (fun x hx b hb hnd=>?_) hds hr'
  ·intro m l T1 H1 I1 η1 a1 w1 s1 s2 s3 s4 s5 s6 s7 s8
   refine tail_sound hR hE (zs:=[]) (zo:=[]) (p:=q) ⟨hok.back,fun j hj hqj i hi=>.inl ?_,z3,fun z hz=>by cases hz⟩ (fun z hz=>by cases hz) (fun z hz=>by cases hz) hQ m q l T1 H1 I1 η1 a1 w1 (a0K _) z3 s1 s2 s3 (fun j hj _=>s4 j hj) (by rw[execOpsZ_nil];exact s5) (fun o ho=>by cases ho) s6 s7 s8
   rcases hok.tail j hj (by omega) i hi with g|g
   ·exact g
   ·exact z5 j hj hqj i g
  ·rcases a1N j p with h1|h1
   ·exact h1
   ·exact(htl j h1 hj hh).elim
  ·refine⟨by rw[t2,hT.len,k2,hTp.len],by rw[hH.len,k3];simp,fun x hx hd=>?_,fun y hy=>?_,fun x hx b hb hd=>?_,fun i hi=>?_⟩
   ·obtain⟨z,hz,hzo,_,hdz,hv,_⟩:=ff x hx
    rw[t6 x.d (fun u hu e=>?_),full x.d (fun i hi e=>?_),hv]
    ·have:i=z:=a0Q fun hne=>tr.ap z i (hok.zlt z hz) hi hne (by rw[e,hdz])
     rw[this]
     exact(dn x hx z hz hzo).1 hd
    ·have:=L.dinj u ((hzd u).1 hu).1 x hx e
     subst this
     exact((hzd u).1 hu).2 hd
   ·by_cases hp:∃x∈zd,x.d=y
    ·obtain⟨x,hx,rfl⟩:=hp
     have hnd:¬Dn ops zs l x:=fun hd=>hy x hx hd rfl
     rw[t5 x ((hzd x).2 ⟨hx,hnd⟩),k6 x hx]
    ·rw[t6 y (fun u hu e=>hp ⟨u,((hzd u).1 hu).1,e⟩),full y (fun i hi e=>?_),k4 y (fun x hx e=>hp ⟨x,hx,e⟩)]
     refine hall i hi (fun hz=>?_)
     obtain⟨x,hx,hxo,hxd⟩:=L.to i hz
     obtain⟨o,ho,hd,_⟩:=tr.dsts i hi
     rw[ho] at hxo
     cases hxo
     rw[hd,e] at hxd
     exact hp ⟨x,hx,(a1Z hxd).symm⟩
   ·obtain⟨z,hz,hzo,_,hdz,hv,hob,hid⟩:=ff x hx
    rw[hid (by simp[hb])]
    exact hH.on z b (hok.zlt z hz) (by rw[←hob,hb]) ((dn x hx z hz hzo).1 hd)
   ·by_cases hp:∃x∈zd,x.ob.isSome=true∧x.id=i
    ·obtain⟨x,hx,hsm,rfl⟩:=hp
     obtain⟨b,hb⟩:=a2X.1 hsm
     obtain⟨z,hz,hzo,_,hdz,hv,hob,hid⟩:=ff x hx
     have hnd:¬Dn ops zs l x:=fun hd=>hi x hx hsm hd rfl
     rw[a2t hgn x hx hsm,hid hsm]
     exact hH.off z b (hok.zlt z hz) (by rw[←hob,hb]) (fun hh=>hnd ((dn x hx z hz hzo).2 hh))
    ·rw[k7 i (fun x hx hsm e=>hp ⟨x,hx,hsm,e⟩)]
     rcases a1N i H.length with h1|h1
     ·rw[hH.old i h1,tr.full.old i h1]
     ·rcases a1N i (H.length+(Ls p).length) with h2|h2
      ·obtain⟨j,b,hj,hb,e⟩:=tr.cov i h1 h2
       have hjz:j∉zs:=fun hz=>by
        obtain⟨x,hx,hxo,_⟩:=L.to j hz
        obtain⟨z,hz',hzo,_,_,_,hob,hid⟩:=ff x hx
        have:z=j:=a0Q fun hne=>hok.apart z j x.o x.o (hok.zlt z hz') hj hzo hxo hne rfl
        subst this
        have hsm:x.ob.isSome=true:=by rw[hob,hb];rfl
        exact hp ⟨x,hx,hsm,by rw[hid hsm,e]⟩
       subst e
       rw[hH.on j b hj hb (hall j hj hjz),tr.full.on j b hj hb trivial]
      ·rw[a0V (by rw[hH.len];exact h2),a0V (by simp;omega)]
  ·obtain⟨z,hz,hzo,_,hdz,hv,hob,hid⟩:=ff x hx
   rw[hid (by simp[hb])]
   exact hη z b (hok.zlt z hz) (by rw[←hob,hb]) (fun hh=>hnd ((dn x hx z hz hzo).2 hh))
 ·exact hK.elim
theorem draw_sound0 {R:Rel} (hR:RelOk R) (hE:a1b E P) {ops:Array Oper} {K:KT} {T:List V} {H:List O} {I:Nat→Prop} {η:Eta} {w:World} {a:Act}
  {p:Nat} (hok:drawOk0 ops.toList p=true) (h:drawBody (sys P) E ops.toList p K T H) (hg:Good I η w T H a) (hQ:∀a' w',a1r R I (own η H) w a.defers K a' w'→Q .normal a' w'):wpAnyIn (Fw r) n P .any ops Q ops.size (Array.replicate ops.size false) a {w with drawn:=w.drawn+1}:=by
 unfold drawOk0 at hok
 unfold drawBody at h
 cases h2:Nat.ble 2000 p with
 |true=>
  have hle:=a0P h2
  have e1:Nat.blt p 1000=false:=by
   cases hb:Nat.blt p 1000 with
   |false=>rfl
   |true=>have:=a0P hb;omega
  have e2:Nat.blt p 2000=false:=by
   cases hb:Nat.blt p 2000 with
   |false=>rfl
   |true=>have:=a0P hb;omega
  rw[h2] at h
  rw[e1,e2] at hok
  simp only[cond_true,cond_false,a1k,a0D] at h hok
  generalize p-2000=p' at h hok
  exact draw_sound2 hR hE (drawOk_spec hok.1) hok.2 h hg hQ
 |false=>
  rw[h2] at h
  simp only[cond_false] at h
  cases hb:Nat.blt p 1000 with
  |true=>
   rw[hb] at h hok
   simp only[cond_true,a1k,a0D] at h hok
   refine draw_soundZ hR hE (zo:=[]) (drawOk_spec hok.1) (lazyOk_spec hok.2) (fun z hz=>by cases hz) ?_ hg hQ
   simp only[execOpsZ_nil]
   exact h
  |false=>
   have e2:Nat.blt p 2000=true:=by
    cases hb2:Nat.blt p 2000 with
    |true=>rfl
    |false=>
     exfalso
     have g1:¬(p<2000):=fun hh=>by rw[show Nat.blt p 2000=true from Nat.ble_eq_true_of_le hh] at hb2;cases hb2
     have g2:¬(2000≤p):=fun hh=>by rw[Nat.ble_eq_true_of_le hh] at h2;cases h2
     omega
   rw[hb] at h hok
   rw[e2] at hok
   simp only[cond_false,cond_true,a1k,a0D] at h hok
   generalize p-1000=p' at h hok
   refine draw_soundZ hR hE (drawOk_spec hok.1) (lazyOk_spec hok.2) (fun z hz o ho=>?_) h hg hQ
   rw[List.mem_filterMap]
   exact⟨z,hz,by simpa using ho⟩
theorem draw_soundN {R:Rel} (hR:RelOk R) (hE:a1b E P):∀(N:Nat) {Q:Exit→Act→World→Prop} {ops:Array Oper} {K:KT} {T:List V} {H:List O} {I:Nat→Prop} {η:Eta} {w:World} {a:Act}
  {p:Nat} (_:drawOkN N ops.toList p=true) (_:drawBodyN (sys P) E N ops.toList p K T H) (_:Good I η w T H a) (_:∀a' w',a1r R I (own η H) w a.defers K a' w'→Q .normal a' w'),wpAnyIn (Fw r) n P .any ops Q ops.size (Array.replicate ops.size false) a {w with drawn:=w.drawn+1}
 |0,Q,ops,K,T,H,I,η,w,a,p,hok,h,hg,hQ=>draw_sound0 hR hE hok h hg hQ
 |N+1,Q,ops,K,T,H,I,η,w,a,p,hok,h,hg,hQ=>by
  unfold drawOkN at hok
  unfold drawBodyN at h
  cases hb:Nat.ble 10000 p with
  |false=>
   rw[hb] at hok h
   exact draw_sound0 hR hE hok h hg hQ
  |true=>
   rw[hb] at hok h
   simp only[cond_true] at hok h
   cases hm:Nat.ble (mvT p) (mvF p) with
   |true=>
    rw[hm] at hok h
    simp only[cond_true,a0D] at hok h
    obtain⟨hok1,hok2⟩:=hok
    have hp:=mvOk_spec hok1
    have:=draw_soundN hR hE N (ops:=(mvOps (mvF p) (mvT p) ops.toList).toArray) hok2 h hg hQ
    rw[hp.size] at this
    refine hp.wpAnyIn _ _ _ _ _ (by simp) (by simp) (fun i hi=>?_) this
    simp[hi,hp.lt hi]
   |false=>
    rw[hm] at hok h
    simp only[cond_false,a0D] at hok h
    obtain⟨hok1,hok2⟩:=hok
    cases he:edE E ops.toList (mvF p) with
    |false=>rw[he] at h;exact h.elim
    |true=>
    rw[he] at h
    simp only[cond_true] at h
    obtain⟨oz,hp⟩:=edOk_spec hok1
    have:=draw_soundN hR hE N (ops:=(edOps (mvF p) (mvT p) ops.toList).toArray) (Q:=QN Q) hok2 h hg hQ
    rw[hp.size] at this
    exact wpAnyIn_monoQ QN_imp _ _ _ _ (EdOk.wpAny hE hp he _ _ _ _ (by simp) (down_zero ops) this)
theorem draw_sound {R:Rel} (hR:RelOk R) (hE:a1b E P) (hm:P.follows .mixedOrders=true) {rid:Nat} {ops:Array Oper} {K:KT} {T:List V} {H:List O} {I:Nat→Prop} {η:Eta} {w:World} {a:Act}
  (h:DrawVC (sys P) E ops.toList K T H) (hg:Good I η w T H a) (hQ:∀a' w',a1r R I (own η H) w a.defers K a' w'→Q .normal a' w'):(Code.region rid ops true).wpIn (Fw r) n P Q a w:=by
 refine wpIn_region_any hm ?_
 obtain⟨p,hok,h⟩:=h
 exact draw_soundN hR hE 12 hok h hg hQ
end
end Go.Sx
