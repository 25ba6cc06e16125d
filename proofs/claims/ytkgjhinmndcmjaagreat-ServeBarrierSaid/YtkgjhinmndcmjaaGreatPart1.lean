/- Own work: texts of the proof of a law (SzDen, SzCore2). No condition. -/
import Derived.Laws.AppendOwn
import Derived.Laws.Cells
import Derived.Below
import Derived.Test.YtkgjhinmndcmjaaGreatPart0
namespace Go.Sx
open Go
abbrev Eta:=List (Option Nat×Nat)
def slVal (e:Option Nat×Nat) (n:Nat):Value:=
 match e with
 |(none,_)=>.slice none 0 0
 |(some b,cap)=>.slice (some ⟨b,0,none⟩) n cap
def a0o:List IntKind→List Int→List Value
 |q :: ks,n :: l=>.int q n :: a0o ks l
 |_,_=>[]
def encK (ks:List IntKind) (ka:Bool) (k:List Int):Value:=
 bif ka then .agg (a0o ks k).toArray else(a0o ks k).headD undef
def encV (va:Bool) (vs:List Value):Value:=
 bif va then .agg vs.toArray else vs.headD undef
structure MapRel (D:List Int→List Value→Prop) (ks:List IntKind) (ka va:Bool) (dom:List Int→Prop) (n:Nat) (g:MG) (es:List MapEntry):Prop where
 size:es.length=n
 ent:∀e∈es,∃k vs,e.key=encK ks ka k∧k.length=ks.length∧dom k∧e.born=g.born k∧e.born<g.clock∧e.val=encV va vs∧D k vs∧(∀u∈vs,u.oneCell'=true)∧(va=false→vs.length=1)
 has:∀k,k.length=ks.length→dom k→∃e∈es,e.key=encK ks ka k
 keys:es.Pairwise (fun x y=>x.key≠y.key)
 stamps:es.Pairwise (fun x y=>x.born≠y.born)
 flat:ka=false→ks.length=1
theorem MapRel.imp {D D':List Int→List Value→Prop} {ks:List IntKind} {ka va:Bool} {dom:List Int→Prop} {n:Nat} {g:MG} {es:List MapEntry} (h:MapRel D ks ka va dom n g es) (hD:∀k vs,D k vs→D' k vs):MapRel D' ks ka va dom n g es:=
 ⟨h.size,fun e he=>by
  obtain⟨k,vs,h1,h2,h3,h4,h5,h6,h7,h8⟩:=h.ent e he
  exact⟨k,vs,h1,h2,h3,h4,h5,h6,hD k vs h7,h8⟩,h.has,h.keys,h.stamps,h.flat⟩
theorem a1p:∀{ks:List IntKind} {K:List Int→Prop},allInts ks K→∀k,k.length=ks.length→K k
 |[],K,h,[],_=>h
 |_ :: _,_,h,x :: l,hl=>a1p (h x) l (by simpa using hl)
 |[],_,_,_ :: _,hl=>by simp at hl
 |_ :: _,_,_,[],hl=>by simp at hl
theorem MapRel.turn {D D':List Int→List Value→Prop} {ks:List IntKind} {ka va:Bool} {dom dom':List Int→Prop} {n:Nat} {g:MG} {es:List MapEntry} (h:MapRel D ks ka va dom n g es) (hdom:∀k,k.length=ks.length→(dom k↔dom' k)) (hD:∀k vs,k.length=ks.length→dom k→D k vs→D' k vs):MapRel D' ks ka va dom' n g es:=
 ⟨h.size,fun e he=>by
  obtain⟨k,vs,h1,h2,h3,h4,h5,h6,h7,h8⟩:=h.ent e he
  exact⟨k,vs,h1,h2,(hdom k h2).1 h3,h4,h5,h6,hD k vs h2 h3 h7,h8⟩,fun k hk hd=>h.has k hk ((hdom k hk).2 hd),h.keys,h.stamps,h.flat⟩
def X.den (η:Eta):X→Value→Prop
 |.emp,v=>∃a,v=.slice a 0 0
 |.stamp g k,v=>v=.int .i64 (g.born k)
 |.awin id off _ n cap,v=>∃b c,η[id]? = some (some b,c)∧n≤cap∧v=.slice (some ⟨b,off,none⟩) n cap
 |.twin id n,v=>∃e,(η[id]? = some e∧e≠(none,1))∧(e.1=none→n=0)∧v=slVal (e.1,n) n
mutual
def Den (I:Nat→Prop) (η:Eta) (w:World):V→Value→Prop
 |.int k n,v=>v=.int k n
 |.prop p d,v=>v=.bool (@decide p d)
 |.kb b,v=>v=.bool b
 |.ptr id off,v=>∃b c,η[id]? = some (some b,c)∧v=.pointer (some ⟨b,off,none⟩)
 |.eptr id sz i off,v=>∃b c,η[id]? = some (some b,c)∧v=.pointer (some ⟨b,i*sz+off,none⟩)
 |.iptr cs,v=>∃b o vs,v=.pointer (some ⟨b,o,none⟩)∧I b∧(∀j u,vs[j]? = some u→w.cell? ⟨b,o+j,none⟩=some u)∧(∀u∈vs,u.oneCell'=true)∧DenL I [] w cs vs
 |.sl sz n f,v=>(n=0∧∃a cap,v=.slice a 0 cap)∨∃b o cap,v=.slice (some ⟨b,o,none⟩) n cap∧I b∧n≤cap∧
   ∀i,i<n→∃vs:List Value,vs.length=sz∧(∀j u,vs[j]? = some u→w.cell? ⟨b,o+(i*sz+j),none⟩=some u)∧(∀u∈vs,u.oneCell'=true)∧DenL I [] w (f i) vs
 |.osl id n,v=>∃e,η[id]? = some e∧(e.1=none→n=0∧e.2=0)∧v=slVal e n
 |.map id,v=>∃b c,η[id]? = some (some b,c)∧v=.map (some b)
 |.fn f a b,v=>∃as bs:List Value,v=.func f as.toArray bs.toArray∧DenL I η w a as∧DenL I η w b bs
 |.agg cs,v=>∃vs:List Value,v=.agg vs.toArray∧(∀u∈vs,u.oneCell'=true)∧DenL I η w cs vs
 |.tup cs,v=>∃vs:List Value,v=.tuple vs.toArray∧DenL I η w cs vs
 |.lit x,v=>v=x
 |.ite p u,v=>(p→Den I η w u v)∧(¬p→v=undef)
 |.sem D,v=>v.oneCell'=true∧∀(I':Nat→Prop) (w':World),(∀b,I b→I' b)→(∀b,I b→w'.heap[b]? = w.heap[b]?)→D I' w' v
 |.imap ks ka va dom val n,v=>∃b es g,v=.map (some b)∧I b∧w.heap[b]? = some (.map es g.clock)∧MapRel (fun k vs=>DenL I [] w (val k) vs) ks ka va dom n g es.toList
 |.yld id,v=>∃b c,η[id]? = some (some b,c)∧v=.func (.yield b) #[] #[]
 |.win id sz off n,v=>(off=0→∃e,η[id]? = some e∧(e.1=none→n=0∧e.2=0)∧v=slVal e n)∧((n=0∧∃a cap,v=.slice a 0 cap)∨∃b c cap,η[id]? = some (some b,c)∧n≤cap∧v=.slice (some ⟨b,off*sz,none⟩) n cap)
 |.gsl id _ n e,v=>(∃e0,η[id]? = some e0∧e0≠(none,1))∧(e.1=none→n=0∧e.2=0)∧v=slVal e n
 |.gptr id _ j off sz e,v=>(∃e0,η[id]? = some e0∧e0≠(none,1))∧∃b c,e=(some b,c)∧v=.pointer (some ⟨b,j*sz+off,none⟩)
 |.x e,v=>e.den η v
 |.any,_=>True
def DenL (I:Nat→Prop) (η:Eta) (w:World):List V→List Value→Prop
 |[],vs=>vs=[]
 |c :: cs,vs=>∃v rest,vs=v :: rest∧Den I η w c v∧DenL I η w cs rest
end
def O.live:O→Prop
 |.gone=>False
 |_=>True
def O.inner:O→Nat→Prop
 |.grid _ _ _ n _ _ β hole _,b=>∃i,i<n∧hole≠some i∧(β i).1=some b
 |_,_=>False
def O.has (o:O) (e:Option Nat×Nat) (b:Nat):Prop:=(o.live∧e.1=some b)∨o.inner b
theorem O.inner_live {o:O} {b:Nat} (h:o.inner b):o.live:=by
 cases o<;>first|trivial|exact h.elim
theorem O.has_live {o:O} {e:Option Nat×Nat} {b:Nat} (h:o.has e b):o.live:=h.elim (fun h=>h.1) O.inner_live
def lrec (fn:FuncId) (tmps:Array Value) (ps:List Nat) (assign body:Code) (D:Nat) (st:LSt):Loop:=
 match st with
 |.ready=>{state:=.ready,pending:=none,fn,tmps,params:=ps.toArray,assign,body,defers:=D}
 |.busy=>{state:=.busy,pending:=none,fn,tmps,params:=ps.toArray,assign,body,defers:=D}
 |.done c=>{state:=.done,pending:=some c,fn,tmps,params:=ps.toArray,assign,body,defers:=D}
def SatO (I:Nat→Prop) (η:Eta) (w:World) (e:Option Nat×Nat):O→Prop
 |.cells ty vs=>∃b c,e=(some b,c)∧∃xs:List Value,w.heap[b]? = some (.cells xs.toArray ty (0,0))∧(∀u∈xs,u.oneCell'=true)∧DenL I η w vs xs
 |.row ty sz n f nz=>∃xs:List Value,w.ownsRow 0 ty sz (slVal e n) n xs∧(∀u∈xs,u.oneCell'=true)∧
   (e.1=none↔nz=true∧n=0)∧∀i,i<n→DenL I [] w (f i) ((xs.drop (i*sz)).take sz)
 |.map ks ka va dom val n g=>∃b c,e=(some b,c)∧∃es:Array MapEntry,w.heap[b]? = some (.map es g.clock)∧MapRel (fun k vs=>DenL I [] w (val k) vs) ks ka va dom n g es.toList
 |.iter mid g dom done=>∃b c mb c',e=(some b,c)∧η[mid]? = some (some mb,c')∧w.heap[b]? = some (.mapIter (some mb) g.clock (done.reverse.map g.born).toArray g.clock)∧
   (∀k k',dom k→dom k'→g.born k=g.born k'→k=k')∧∀k∈done,dom k
 |.loop T ps assign body st=>∃b c fn tmps D,e=(some b,c)∧w.heap[b]? = some (.loop (lrec fn tmps ps assign body D st))∧DenL I η w T tmps.toList
 |.gone=>True
 |.mapx ks ka va dom val=>∃n g b c,e=(some b,c)∧∃es:Array MapEntry,w.heap[b]? = some (.map es g.clock)∧MapRel (fun k vs=>DenL I [] w (val k) vs) ks ka va dom n g es.toList
 |.grid ty ety esz n m f β hole nz=>(∃xs:List Value,w.ownsRow 0 ty 1 (slVal e n) n xs∧(∀u∈xs,u.oneCell'=true)∧(e.1=none↔nz=true∧n=0)∧∀i,i<n→hole≠some i→xs[i]? = some (slVal (β i) (m i)))∧
   (∀i,i<n→hole≠some i→((β i).1=none→m i=0∧(β i).2=0)∧∃ys:List Value,w.ownsRow 0 ety esz (slVal (β i) (m i)) (m i) ys∧(∀u∈ys,u.oneCell'=true)∧∀j,j<m i→DenL I [] w (f i j) ((ys.drop (j*esz)).take esz))∧
   (∀i i' b,i<n→i'<n→hole≠some i→hole≠some i'→(β i).1=some b→(β i').1=some b→i=i')∧(∀i b,i<n→hole≠some i→(β i).1=some b→e.1≠some b)
structure Own where
 blk:Nat→Prop
 eta:Eta
instance:CoeFun Own (fun _=>Nat→Prop):=⟨Own.blk⟩
def own (η:Eta) (H:List O):Own:=⟨fun b=>∃(id:Nat) (e:Option Nat×Nat) (o:O),η[id]? = some e∧H[id]? = some o∧o.has e b,η⟩
theorem own_mk {η:Eta} {H:List O} {id b c:Nat} {o:O} (hη:η[id]? = some (some b,c)) (hH:H[id]? = some o) (hl:o.live):own η H b:=⟨id,_,o,hη,hH,.inl ⟨hl,rfl⟩⟩
def Objs (I:Nat→Prop) (η:Eta) (w:World) (H:List O):Prop:=∀(id:Nat) (e:Option Nat×Nat) (o:O),η[id]? = some e→H[id]? = some o→SatO I η w e o
structure Sat (I:Nat→Prop) (η:Eta) (w:World) (H:List O):Prop where
 len:η.length=H.length
 obj:Objs I η w H
 apart:∀(id id' b:Nat) (e e':Option Nat×Nat) (o o':O),η[id]? = some e→η[id']? = some e'→H[id]? = some o→H[id']? = some o'→o.has e b→o'.has e' b→id=id'
 notI:∀b,own η H b→¬I b
 lt:∀b,own η H b→b<w.heap.size
 ilt:∀b,I b→b<w.heap.size
structure Step (I:Nat→Prop) (W:Own) (w:World) (I':Nat→Prop) (W':Own) (w':World):Prop where
 os:w'.os=w.os
 tape:w'.tape=w.tape
 output:w'.output=w.output
 size:w.heap.size≤w'.heap.size
 block:∀b,b<w.heap.size→¬W b→w'.heap[b]? = w.heap[b]?
 imono:∀b,I b→I' b
 inew:∀b,I' b→I b∨W b∨w.heap.size≤b
 wnew:∀b,W' b→W b∨w.heap.size≤b
 eta:∀(id:Nat) (e:Option Nat×Nat),W.eta[id]? = some e→e≠(none,1)→W'.eta[id]? = some e
structure StepB (B:Nat) (I:Nat→Prop) (W:Own) (w:World) (I':Nat→Prop) (W':Own) (w':World):Prop where
 os:w'.os=w.os
 tape:w'.tape=w.tape
 output:w'.output=w.output
 size:w.heap.size≤w'.heap.size
 block:∀b,b<w.heap.size→¬W b→w'.heap[b]? = w.heap[b]?
 imono:∀b,I b→I' b
 inew:∀b,I' b→I b∨W b∨w.heap.size≤b
 wnew:∀b,W' b→W b∨w.heap.size≤b
 eta:∀(id:Nat) (e:Option Nat×Nat),id<B→W.eta[id]? = some e→e≠(none,1)→W'.eta[id]? = some e
theorem Step.toB {B:Nat} {I I':Nat→Prop} {W W':Own} {w w':World} (h:Step I W w I' W' w'):StepB B I W w I' W' w':=
 ⟨h.os,h.tape,h.output,h.size,h.block,h.imono,h.inew,h.wnew,fun id e _=>h.eta id e⟩
theorem StepB.toStep {B:Nat} {I I':Nat→Prop} {W W':Own} {w w':World} (h:StepB B I W w I' W' w') (hB:W.eta.length≤B):Step I W w I' W' w':=
 ⟨h.os,h.tape,h.output,h.size,h.block,h.imono,h.inew,h.wnew,fun id e he=>h.eta id e (a1M (a0B.1 he).1 hB) he⟩
theorem StepB.trans {B:Nat} {I I' I'':Nat→Prop} {W W' W'':Own} {w w' w'':World} (h:StepB B I W w I' W' w') (k:StepB B I' W' w' I'' W'' w''):StepB B I W w I'' W'' w'' where
 os:=k.os.trans h.os
 tape:=k.tape.trans h.tape
 output:=k.output.trans h.output
 size:=a3S h.size k.size
 block b hb hw:=(k.block b (a1M hb h.size) (fun hw'=>by rcases h.wnew b hw' with h1|h1;exact hw h1;omega)).trans (h.block b hb hw)
 imono b hb:=k.imono b (h.imono b hb)
 inew b hb:=by
  rcases k.inew b hb with h1|h1|h1
  ·exact h.inew b h1
  ·rcases h.wnew b h1 with h2|h2
   ·exact .inr (.inl h2)
   ·exact .inr (.inr h2)
  ·exact .inr (.inr (a3S h.size h1))
 wnew b hb:=by
  rcases k.wnew b hb with h1|h1
  ·exact h.wnew b h1
  ·exact .inr (a3S h.size h1)
 eta id e hB he hn:=k.eta id e hB (h.eta id e hB he hn) hn
theorem Step.refl (I:Nat→Prop) (W:Own) (w:World):Step I W w I W w:=
 ⟨rfl,rfl,rfl,a0K _,fun _ _ _=>rfl,fun _ h=>h,fun _ h=>.inl h,fun _ h=>.inl h,fun _ _ h _=>h⟩
theorem Step.trans {I I' I'':Nat→Prop} {W W' W'':Own} {w w' w'':World} (h:Step I W w I' W' w') (k:Step I' W' w' I'' W'' w''):Step I W w I'' W'' w'' where
 os:=k.os.trans h.os
 tape:=k.tape.trans h.tape
 output:=k.output.trans h.output
 size:=a3S h.size k.size
 block b hb hw:=(k.block b (a1M hb h.size) (fun hw'=>by rcases h.wnew b hw' with h1|h1;exact hw h1;omega)).trans (h.block b hb hw)
 imono b hb:=k.imono b (h.imono b hb)
 inew b hb:=by
  rcases k.inew b hb with h1|h1|h1
  ·exact h.inew b h1
  ·rcases h.wnew b h1 with h2|h2
   ·exact .inr (.inl h2)
   ·exact .inr (.inr h2)
  ·exact .inr (.inr (a3S h.size h1))
 wnew b hb:=by
  rcases k.wnew b hb with h1|h1
  ·exact h.wnew b h1
  ·exact .inr (a3S h.size h1)
 eta id e he hn:=k.eta id e (h.eta id e he hn) hn
structure Mono (I:Nat→Prop) (η:Eta) (w:World) (I':Nat→Prop) (η':Eta) (w':World):Prop where
 eta:∀(id:Nat) (e:Option Nat×Nat),η[id]? = some e→e≠(none,1)→η'[id]? = some e
 imono:∀b,I b→I' b
 iblock:∀b,I b→w'.heap[b]? = w.heap[b]?
theorem Mono.refl (I:Nat→Prop) (η:Eta) (w:World):Mono I η w I η w:=⟨fun _ _ h _=>h,fun _ h=>h,fun _ _=>rfl⟩
theorem Mono.trans {I I' I'':Nat→Prop} {η η' η'':Eta} {w w' w'':World} (h:Mono I η w I' η' w') (k:Mono I' η' w' I'' η'' w''):Mono I η w I'' η'' w'':=
 ⟨fun id e he hn=>k.eta id e (h.eta id e he hn) hn,fun b hb=>k.imono b (h.imono b hb),fun b hb=>(k.iblock b (h.imono b hb)).trans (h.iblock b hb)⟩
theorem Mono.nil {I:Nat→Prop} {η:Eta} {w:World} {I':Nat→Prop} {η':Eta} {w':World} (h:Mono I η w I' η' w'):Mono I [] w I' [] w':=
 ⟨fun _ _ he _=>by simp at he,h.imono,h.iblock⟩
theorem Mono.ofNil (I:Nat→Prop) (η:Eta) (w:World):Mono I [] w I η w:=⟨fun _ _ he _=>by simp at he,fun _ h=>h,fun _ _=>rfl⟩
theorem cell?_iblock {w w':World} {b o:Nat} (h:w'.heap[b]? = w.heap[b]?):w'.cell? ⟨b,o,none⟩=w.cell? ⟨b,o,none⟩:=by simp[World.cell?,h]
theorem X.den_mono {I I':Nat→Prop} {η η':Eta} {w w':World} (m:Mono I η w I' η' w'):∀(e:X) (v:Value),e.den η v→e.den η' v
 |.emp,_,h=>h
 |.stamp _ _,_,h=>h
 |.awin _ _ _ _ _,_,h=>by obtain⟨b,c,h1,h2⟩:=h;exact⟨b,c,m.eta _ _ h1 (by simp),h2⟩
 |.twin _ _,_,h=>by obtain⟨e,⟨h1,h3⟩,h2⟩:=h;exact⟨e,⟨m.eta _ _ h1 h3,h3⟩,h2⟩
mutual
theorem Den.mono {I I':Nat→Prop} {η η':Eta} {w w':World} (m:Mono I η w I' η' w'):∀(c:V) (v:Value),Den I η w c v→Den I' η' w' c v
 |.int _ _,_,h=>h
 |.prop _ _,_,h=>h
 |.kb _,_,h=>h
 |.ptr _ _,_,h=>by obtain⟨b,c,h1,h2⟩:=h;exact⟨b,c,m.eta _ _ h1 (by simp),h2⟩
 |.eptr _ _ _ _,_,h=>by obtain⟨b,c,h1,h2⟩:=h;exact⟨b,c,m.eta _ _ h1 (by simp),h2⟩
 |.iptr cs,_,h=>by
  obtain⟨b,o,vs,h1,h2,h3,h4,h5⟩:=h
  exact⟨b,o,vs,h1,m.imono b h2,fun j u hj=>by rw[cell?_iblock (m.iblock b h2)];exact h3 j u hj,h4,DenL.mono m.nil cs vs h5⟩
 |.sl sz n f,_,h=>by
  rcases h with h|⟨b,o,cap,h1,h2,h3⟩
  ·exact .inl h
  ·refine .inr ⟨b,o,cap,h1,m.imono b h2,h3.1,fun i hi=>?_⟩
   obtain⟨vs,h4,h5,h6,h7⟩:=h3.2 i hi
   exact⟨vs,h4,fun j u hj=>by rw[cell?_iblock (m.iblock b h2)];exact h5 j u hj,h6,DenL.mono m.nil (f i) vs h7⟩
 |.osl _ _,_,h=>by obtain⟨e,h1,h2⟩:=h;exact⟨e,m.eta _ _ h1 (fun he=>by have:=h2.1 (by rw[he]);rw[he] at this;simp at this),h2⟩
 |.map _,_,h=>by obtain⟨b,c,h1,h2⟩:=h;exact⟨b,c,m.eta _ _ h1 (by simp),h2⟩
 |.fn _ a b,_,h=>by obtain⟨as,bs,h1,h2,h3⟩:=h;exact⟨as,bs,h1,DenL.mono m a as h2,DenL.mono m b bs h3⟩
 |.agg cs,_,h=>by obtain⟨vs,h1,h2,h3⟩:=h;exact⟨vs,h1,h2,DenL.mono m cs vs h3⟩
 |.tup cs,_,h=>by obtain⟨vs,h1,h2⟩:=h;exact⟨vs,h1,DenL.mono m cs vs h2⟩
 |.lit _,_,h=>h
 |.ite _ u,v,h=>⟨fun hp=>Den.mono m u v (h.1 hp),h.2⟩
 |.sem _,_,h=>⟨h.1,fun I2 w2 h1 h2=>h.2 I2 w2 (fun b hb=>h1 b (m.imono b hb)) (fun b hb=>(h2 b (m.imono b hb)).trans (m.iblock b hb))⟩
 |.imap _ _ _ _ val _,_,h=>by
  obtain⟨b,es,g,h1,h2,h3,h4⟩:=h
  exact⟨b,es,g,h1,m.imono b h2,by rw[m.iblock b h2];exact h3,h4.imp (fun k vs hk=>DenL.mono m.nil (val k) vs hk)⟩
 |.yld _,_,h=>by obtain⟨b,c,h1,h2⟩:=h;exact⟨b,c,m.eta _ _ h1 (by simp),h2⟩
 |.win _ _ _ _,_,h=>by
  refine⟨fun h0=>?_,?_⟩
  ·obtain⟨e,h1,h2⟩:=h.1 h0;exact⟨e,m.eta _ _ h1 (fun he=>by have:=h2.1 (by rw[he]);rw[he] at this;simp at this),h2⟩
  ·rcases h.2 with h|⟨b,c,cap,h1,h2⟩
   ·exact .inl h
   ·exact .inr ⟨b,c,cap,m.eta _ _ h1 (by simp),h2⟩
 |.gsl _ _ _ _,_,h=>by obtain⟨⟨e0,h1,h2⟩,h3⟩:=h;exact⟨⟨e0,m.eta _ _ h1 h2,h2⟩,h3⟩
 |.gptr _ _ _ _ _ _,_,h=>by obtain⟨⟨e0,h1,h2⟩,h3⟩:=h;exact⟨⟨e0,m.eta _ _ h1 h2,h2⟩,h3⟩
 |.x e,v,h=>X.den_mono m e v h
 |.any,_,_=>trivial
theorem DenL.mono {I I':Nat→Prop} {η η':Eta} {w w':World} (m:Mono I η w I' η' w'):∀(cs:List V) (vs:List Value),DenL I η w cs vs→DenL I' η' w' cs vs
 |[],_,h=>h
 |c :: cs,_,h=>by
  obtain⟨v,rest,h1,h2,h3⟩:=h
  exact⟨v,rest,h1,Den.mono m c v h2,DenL.mono m cs rest h3⟩
end
def SemOb (keep:Bool) (H:List O) (x:V) (D:(Nat→Prop)→World→Value→Prop):Prop:=
 ∀(I J:Nat→Prop) (η:Eta) (w:World) (v:Value),Objs I η w H→(∀b,own η H b→J b)→(keep=true→∀b,I b→J b)→Den I η w x v→Den J [] w (.sem D) v
mutual
def rEnt (keep:Bool) (H:List O):V→V→Prop→Prop
 |.int k n,.int k' n',K=>if k=k' then n=n'∧K else False
 |.prop p _,.prop q _,K=>(p↔q)∧K
 |.kb b,.kb b',K=>(match b,b' with|true,true=>K|false,false=>K|_,_=>False)
 |.kb b,.prop q _,K=>(match b with|true=>q∧K|false=>¬q∧K)
 |.osl id n,.sl sz' n' f',K=>(match get .gone H id with
  |.row _ sz m f _=>bif Nat.beq sz sz' then n=m∧n=n'∧(∀i,i<n→f i=f' i)∧(keep=true∨∀i,i<n→scalL (f' i)=true)∧K else False
  |.grid _ _ esz m k f _ hole _=>bif Nat.beq 1 sz' then n=m∧n=n'∧hole=none∧(∀i,i<n→∃g,f' i=[.sl esz (k i) g]∧∀j,j<k i→f i j=g j)∧(keep=true∨∀i,i<n→∀j,j<k i→scalL (f i j)=true)∧K else False
  |_=>False)
 |.win id sz off n,.sl sz' n' f',K=>(match get .gone H id with
  |.row _ sz2 m f _=>bif (Nat.beq sz sz' && Nat.beq sz2 sz') then off+n≤m∧n=n'∧(∀i,i<n→f (off+i)=f' i)∧(keep=true∨∀i,i<n→scalL (f' i)=true)∧K else False
  |_=>False)
 |.x e,.sl sz' n' f',K=>(match e with
  |.emp=>n'=0∧K
  |.stamp _ _=>False
  |.twin _ _=>False
  |.awin id off sz n c=>(match get .gone H id with
   |.cells _ vs=>bif (Nat.beq sz sz' && Nat.ble (off+c*sz) (len vs)) then n=n'∧(∀i,i<n→take sz (drop (off+i*sz) vs)=f' i∧scalL (f' i)=true)∧K else False
   |_=>False))
 |.sl sz n f,.sl sz' n' f',K=>keep=true∧sz=sz'∧n=n'∧(∀i,i<n→f i=f' i)∧K
 |.lit v,.sl _ n' _,K=>(match v with
  |.slice _ 0 _=>n'=0∧K
  |_=>False)
 |.lit v,.lit v',K=>v=v'∧K
 |.agg cs,.agg cs',K=>rEntL keep H cs cs' K
 |.tup cs,.tup cs',K=>rEntL keep H cs cs' K
 |.sem D,.sem D',K=>keep=true∧D=D'∧K
 |.imap ks ka va dom val n,.imap ks' ka' va' dom' val' n',K=>keep=true∧ks=ks'∧ka=ka'∧va=va'∧n=n'∧allInts ks (fun k=>(dom k↔dom' k)∧(dom k→val k=val' k))∧K
 |.map id,.imap ks' ka' va' dom' val' n',K=>(match get .gone H id with
  |.map ks ka va dom val n _=>(keep=true∨∀k,scalL (val' k)=true)∧ks=ks'∧ka=ka'∧va=va'∧(Counted ks dom n→n=n')∧allInts ks (fun k=>(dom k↔dom' k)∧(dom k→val k=val' k))∧K
  |_=>False)
 |.fn f a b,.sem D,K=>SemOb keep H (.fn f a b) D∧K
 |.fn f a b,.fn f' a' b',K=>f=f'∧rEntL keep H a a' (rEntL keep H b b' K)
 |.iptr cs,.iptr cs',K=>keep=true∧cs=cs'∧K
 |.ptr id off,.iptr cs',K=>(match get .gone H id with
  |.cells _ vs=>rEntL keep H (drop off vs) cs' K
  |_=>False)
 |_,.any,K=>K
 |_,_,_=>False
termination_by structural _ y=>y
def rEntL (keep:Bool) (H:List O):List V→List V→Prop→Prop
 |[],[],K=>K
 |x :: l,y :: m,K=>rEnt keep H x y (rEntL keep H l m K)
 |_,_,_=>False
termination_by structural _ y=>y
end
end Go.Sx
namespace Go.Sx
open Go
noncomputable section
abbrev Rn:=Option (List (Option Nat))
def rn (ρ:Rn) (id:Nat):Option Nat:=
 match ρ with
 |none=>some id
 |some l=>get none l id
def rnLt (ρ:Rn) (id:Nat):Bool:=
 match ρ with
 |none=>false
 |some l=>Nat.ble (id+1) (len l)
def isRn (ρ:Rn) (id' id:Nat):Bool:=
 match rn ρ id' with
 |some j=>Nat.beq j id
 |none=>false
def goneAt:List Nat→List O→List O
 |[],H=>H
 |i :: l,H=>goneAt l (set H i .gone)
def namesOf:List (Option Nat)→List O→List Nat
 |some i :: l,o :: H=>bif o.isGone then namesOf l H else i :: namesOf l H
 |none :: l,_ :: H=>namesOf l H
 |_,_=>[]
mutual
def vEnt (ρ:Rn) (F:List O):V→V→Prop→Prop
 |.int k n,.int k' n',K=>if k=k' then n=n'∧K else False
 |.prop p _,.prop q _,K=>(p↔q)∧K
 |.kb b,.kb b',K=>(match b,b' with|true,true=>K|false,false=>K|_,_=>False)
 |.kb b,.prop q _,K=>(match b with|true=>q∧K|false=>¬q∧K)
 |.ptr id off,.ptr id' off',K=>bif (isRn ρ id' id && Nat.beq off off') then K else False
 |.osl id n,.osl id' n',K=>bif isRn ρ id' id then n=n'∧K else False
 |.lit v,.osl id' n',K=>(match v with
  |.slice none 0 0=>(match rn ρ id' with
   |none=>bif rnLt ρ id' then n'=0∧K else False
   |some _=>False)
  |_=>False)
 |.map id,.map id',K=>bif isRn ρ id' id then K else False
 |.lit v,.lit v',K=>v=v'∧K
 |.sl sz n f,.sl sz' n' f',K=>sz=sz'∧n=n'∧(∀i,i<n→f i=f' i)∧K
 |.fn f a b,.fn f' a' b',K=>f=f'∧vEntL ρ F a a' (vEntL ρ F b b' K)
 |.agg cs,.agg cs',K=>vEntL ρ F cs cs' K
 |.tup cs,.tup cs',K=>vEntL ρ F cs cs' K
 |.iptr cs,.iptr cs',K=>cs=cs'∧K
 |.ite p v,.ite q u,K=>(match v,u with
  |.ptr id off,.ptr id' off'=>bif (isRn ρ id' id && Nat.beq off off') then p=q∧K else False
  |v,u=>p=q∧v=u∧v.fo=true∧K)
 |.yld id,.yld id',K=>bif isRn ρ id' id then K else False
 |.win id sz off n,.win id' sz' off' n',K=>bif isRn ρ id' id then sz=sz'∧off=off'∧n=n'∧K else False
 |.sem D,.sem D',K=>D=D'∧K
 |.imap ks ka va dom val n,.imap ks' ka' va' dom' val' n',K=>ks=ks'∧ka=ka'∧va=va'∧dom=dom'∧val=val'∧n=n'∧K
 |.osl id n,.sl sz' n' f',K=>rEnt true F (.osl id n) (.sl sz' n' f') K
 |.win id sz off n,.sl sz' n' f',K=>rEnt true F (.win id sz off n) (.sl sz' n' f') K
 |.ptr id off,.iptr cs,K=>rEnt true F (.ptr id off) (.iptr cs) K
 |.map id,.imap ks ka va dom val n,K=>rEnt true F (.map id) (.imap ks ka va dom val n) K
 |.gsl id i n e,.gsl id' i' n' e',K=>bif isRn ρ id' id then i=i'∧n=n'∧e=e'∧K else False
 |.gptr id i j off sz e,.gptr id' i' j' off' sz' e',K=>bif isRn ρ id' id then i=i'∧j=j'∧off=off'∧sz=sz'∧e=e'∧K else False
 |.fn f a b,.sem D,K=>rEnt true F (.fn f a b) (.sem D) K
 |.lit v,.sl sz' n' f',K=>rEnt true F (.lit v) (.sl sz' n' f') K
 |.x e,.x e',K=>(match e,e' with
  |.emp,.emp=>K
  |.awin id off sz n c,.awin id' off' sz' n' c'=>bif isRn ρ id' id then off=off'∧sz=sz'∧n=n'∧c=c'∧K else False
  |_,_=>False)
 |.lit v,.x e,K=>(match v,e with
  |.slice none 0 0,.emp=>K
  |_,_=>False)
 |.x e,.sl sz' n' f',K=>rEnt true F (.x e) (.sl sz' n' f') K
 |_,.any,K=>K
 |_,_,_=>False
def vEntL (ρ:Rn) (F:List O):List V→List V→Prop→Prop
 |[],[],K=>K
 |x :: l,y :: m,K=>vEnt ρ F x y (vEntL ρ F l m K)
 |_,_,_=>False
end
def nzK:Bool→Bool→Nat→Prop→Prop
 |true,true,_,K=>K
 |false,false,_,K=>K
 |_,_,n,K=>0<n∧K
def oEnt (ρ:Rn) (F:List O):O→O→Prop→Prop
 |_,.gone,K=>K
 |.cells ty vs,.cells ty' vs',K=>bif Nat.beq ty ty' then vEntL ρ F vs vs' K else False
 |.row ty sz n f nz,.row ty' sz' n' f' nz',K=>bif (Nat.beq ty ty' && Nat.beq sz sz') then n=n'∧(∀i,i<n→f i=f' i)∧nzK nz nz' n K else False
 |.map ks ka va dom val n g,.map ks' ka' va' dom' val' n' g',K=>ks=ks'∧ka=ka'∧va=va'∧n=n'∧allInts ks (fun k=>(dom k↔dom' k)∧(dom k→val k=val' k))∧g=g'∧K
 |.map ks ka va dom val _ _,.mapx ks' ka' va' dom' val',K=>ks=ks'∧ka=ka'∧va=va'∧allInts ks (fun k=>(dom k↔dom' k)∧(dom k→val k=val' k))∧K
 |.iter mid g dom done,.iter mid' g' dom' done',K=>bif isRn ρ mid' mid then g=g'∧dom=dom'∧done=done'∧K else False
 |.loop T ps a b st,.loop T' ps' a' b' st',K=>ps=ps'∧a=a'∧b=b'∧st=st'∧vEntL ρ F T T' K
 |.row ty sz n f nz,.grid ty' _ _ n' m _ β hole nz',K=>bif (Nat.beq ty ty' && Nat.beq sz 1 && (nz == nz')) then n=n'∧hole=none∧(∀i,i<n→f i=[.lit (.slice none 0 0)]∧m i=0∧β i=(none,0))∧K else False
 |.grid ty ety esz n m f β hole nz,.grid ty' ety' esz' n' m' f' β' hole' nz',K=>bif (Nat.beq ty ty' && Nat.beq ety ety' && Nat.beq esz esz' && (nz == nz')) then n=n'∧hole=none∧hole'=none∧(∀i,i<n→m i=m' i∧β i=β' i∧∀j,j<m i→f i j=f' i j)∧K else False
 |_,_,_=>False
def oNew:O→Prop→Prop
 |.row _ _ n _ nz,K=>n=0∧nz=true∧K
 |.grid _ _ _ n _ _ _ hole nz,K=>n=0∧hole=none∧nz=true∧K
 |.gone,K=>K
 |_,_=>False
def noSome (j:Nat):List (Option Nat)→List O→Bool
 |[],_=>true
 |some i :: l,o :: H=>(o.isGone || !Nat.beq i j) && noSome j l H
 |none :: l,_ :: H=>noSome j l H
 |_,[]=>false
def distinct:List (Option Nat)→List O→Bool
 |[],_=>true
 |some i :: l,o :: H=>(o.isGone || noSome i l H) && distinct l H
 |none :: l,_ :: H=>distinct l H
 |_,[]=>false
def fixed:Nat→Nat→List (Option Nat)→Bool
 |0,_,_=>true
 |n+1,i,some j :: l=>Nat.beq j i && fixed n (i+1) l
 |_,_,_=>false
def hEnt (ρ:Rn) (F H:List O):List (Option Nat)→List O→Prop→Prop
 |[],[],K=>K
 |some id :: r,o' :: l,K=>oEnt ρ F (get .gone H id) o' (hEnt ρ F H r l K)
 |none :: r,o' :: l,K=>oNew o' (hEnt ρ F H r l K)
 |_,_,_=>False
def Ent (B:Nat) (ρ:Rn) (T:List V) (H:List O) (T':List V) (H':List O):Prop:=
 match ρ with
 |none=>vEntL none [] T T' (H=H')
 |some l=>bif (fixed B 0 l && distinct l H') then vEntL (some l) (goneAt (namesOf l H') H) T T' (hEnt (some l) (goneAt (namesOf l H') H) H l H' True) else False
def wrOps:List Oper→List Nat→List Nat
 |[],l=>l
 |o :: r,l=>match o.dst with
  |some d=>d :: wrOps r l
  |none=>wrOps r l
def wr:Code→List Nat→List Nat
 |.region _ ops _,l=>wrOps ops.toList l
 |.seq a b,l=>wr a (wr b l)
 |.cond _ a b,l=>wr a (wr b l)
 |.block _ c,l=>wr c l
 |.loop c,l=>wr c l
 |.scope c,l=>wr c l
 |.rangeFunc _ _ a b,l=>wr a (wr b l)
 |_,l=>l
def havK (T:List V):List Nat→(List V→Prop)→Prop
 |[],K=>K T
 |d :: l,K=>setK T d .any fun T=>havK T l K
def ovrVK (T:List V):List (Nat×V)→(List V→Prop)→Prop
 |[],K=>K T
 |(d,v) :: l,K=>force v fun v=>setK T d v fun T=>ovrVK T l K
def ovrHK (H:List O):List (Nat×O)→(List O→Prop)→Prop
 |[],K=>K H
 |(d,o) :: l,K=>setK H d o fun H=>ovrHK H l K
def LoopVC (B:Nat) (dirty:List Nat) (body:(Exit→KT)→KT) (Q:Exit→KT) (T:List V) (H:List O):Prop:=
 havK T dirty fun T₀=>
 ∃(ι:Type) (inv:ι→Prop) (m:ι→Nat) (ov:ι→List (Nat×V)) (oh:ι→List (Nat×O)) (ex:ι→List O) (i₀:ι),(inv i₀∧∃ρ,ovrVK T₀ (ov i₀) fun T₁=>ovrHK H (oh i₀) fun H₁=>appK H₁ (ex i₀) fun H₁=>Ent B ρ T H T₁ H₁)∧
  ∀i,inv i→ovrVK T₀ (ov i) fun T₁=>ovrHK H (oh i) fun H₁=>appK H₁ (ex i) fun H₁=>body (fun e T' H'=>match e with
   |.normal=>∃j,(inv j∧m j<m i)∧∃ρ,ovrVK T₀ (ov j) fun T₂=>ovrHK H (oh j) fun H₂=>appK H₂ (ex j) fun H₂=>Ent B ρ T' H' T₂ H₂
   |e=>Q e T' H') T₁ H₁
variable (S:Sys)
def exec (E:Env) (B:Nat):Code→(Exit→KT)→KT
 |.skip,Q,T,H=>Q .normal T H
 |.label _,Q,T,H=>Q .normal T H
 |.ret,Q,T,H=>Q .ret T H
 |.exit id,Q,T,H=>Q (.exit id) T H
 |.region _ ops false,Q,T,H=>a1c S E ops.toList (Q .normal) ops.toList T H
 |.region _ ops true,Q,T,H=>DrawVC S E ops.toList (Q .normal) T H
 |.seq a b,Q,T,H=>exec E B a (fun e T' H'=>match e with|.normal=>exec E B b Q T' H'|e=>Q e T' H') T H
 |.cond c a b,Q,T,H=>match ev0 T c with
  |.kb true=>exec E B a Q T H
  |.kb false=>exec E B b Q T H
  |.prop p _=>(p→exec E B a Q T H)∧(¬p→exec E B b Q T H)
  |_=>False
 |.block id c,Q,T,H=>exec E B c (fun e T' H'=>match e with
  |.exit j=>bif Nat.beq j id then Q .normal T' H' else Q (.exit j) T' H'
  |e=>Q e T' H') T H
 |.loop c,Q,T,H=>LoopVC B (wr c []) (exec E B c) Q T H
 |.scope c,Q,T,H=>exec E B c (fun e T' H'=>match e with
  |.goto _=>False
  |e=>Q e T' H') T H
 |.rangeFunc g ps assign body,Q,T,H=>match ev0 T g with
  |.fn (.func f) first cap=>lenK H fun n=>pushK H (.loop T ps.toList assign body .ready) fun H'=>forceL (app first (.yld n :: cap)) fun args=>S.callee f args H' fun _ H''=>match get .gone H'' n with
   |.loop _ _ _ _ .ready=>setK H'' n .gone fun H3=>Q .normal T H3
   |.loop _ _ _ _ (.done .ret)=>setK H'' n .gone fun H3=>Q .ret T H3
   |.loop _ _ _ _ (.done (.exit id))=>setK H'' n .gone fun H3=>Q (.exit id) T H3
   |_=>False
  |_=>False
 |_,_,_,_=>False
end
end Go.Sx
