/- Own work: texts of the proof of a law (SzSound, SzOps, SzOps2). No condition. -/
import Derived.ChangeKeysEq
import Derived.Test.YtkgjhinmndcmjaaGreatPart1
import Derived.Test.YtkgjhinmndcmjaaGreatPart0
namespace Go.Sx
open Go
/-! ### the strict forms are the plain ones -/
mutual
theorem force_eq:∀(v:V) (K:V→Prop),force v K=K v
 |.int _ _,_=>rfl
 |.prop _ _,_=>rfl
 |.kb true,_=>rfl
 |.kb false,_=>rfl
 |.ptr _ _,_=>rfl
 |.eptr _ _ _ _,_=>rfl
 |.iptr cs,K=>by simp only[force];exact forceL_eq cs _
 |.sl _ _ _,_=>rfl
 |.osl _ _,_=>rfl
 |.map _,_=>rfl
 |.fn _ a b,K=>by simp only[force];rw[forceL_eq a,forceL_eq b]
 |.agg cs,K=>by simp only[force];exact forceL_eq cs _
 |.tup cs,K=>by simp only[force];exact forceL_eq cs _
 |.lit _,_=>rfl
 |.ite _ v,K=>by simp only[force];exact force_eq v _
 |.sem _,_=>rfl
 |.imap _ _ _ _ _ _,_=>rfl
 |.yld _,_=>rfl
 |.win _ _ _ _,_=>rfl
 |.gsl _ _ _ _,_=>rfl
 |.gptr _ _ _ _ _ _,_=>rfl
 |.x .emp,_=>rfl
 |.x (.stamp _ _),_=>rfl
 |.x (.awin _ _ _ _ _),_=>rfl
 |.x (.twin _ _),_=>rfl
 |.any,_=>rfl
theorem forceL_eq:∀(l:List V) (K:List V→Prop),forceL l K=K l
 |[],_=>rfl
 |v :: l,K=>by simp only[forceL];rw[force_eq v,forceL_eq l]
end
theorem a0p {α:Type}:∀(l:List α) (n:Nat) (y:α) (K:List α→Prop),setK l n y K=K (set l n y)
 |[],_,_,_=>rfl
 |_ :: _,0,_,_=>rfl
 |x :: l,n+1,y,K=>by simp only[setK,set];exact a0p l n y _
theorem a1i {α:Type}:∀(l:List α) (y:α) (K:List α→Prop),pushK l y K=K (l++[y])
 |[],_,_=>rfl
 |x :: l,y,K=>by simp only[pushK,List.cons_append];exact a1i l y _
theorem a1k {α:Type}:∀(l:List α) (K:Nat→Prop),lenK l K=K l.length
 |[],_=>rfl
 |_ :: l,K=>by simp only[lenK,a2R];exact a1k l _
theorem a1j {α:Type}:∀(l:List α),len l=l.length
 |[]=>rfl
 |_ :: l=>by simp[len,a1j l]
theorem a2n {α:Type}:∀(k l:List α),app k l=k++l
 |[],_=>rfl
 |x :: k,l=>by simp[app,a2n k l]
theorem a0z {α:Type} (d:α):∀(l:List α) (n:Nat),get d l n=(l[n]?).getD d
 |[],_=>rfl
 |_ :: _,0=>rfl
 |_ :: l,n+1=>by simp[get,a0z d l n]
theorem a0v {α:Type}:∀(l:List α) (n:Nat) (y:α),set l n y=l.set n y
 |[],_,_=>rfl
 |_ :: _,0,_=>rfl
 |x :: l,n+1,y=>by simp[set,a0v l n y]
theorem a2f {α:Type}:∀(n:Nat) (l:List α),drop n l=l.drop n
 |0,_=>rfl
 |_+1,[]=>rfl
 |n+1,_ :: l=>by simp[drop,a2f n l]
theorem take_eq {α:Type}:∀(n:Nat) (l:List α),take n l=l.take n
 |0,_=>rfl
 |_+1,[]=>rfl
 |n+1,_ :: l=>by simp[take,take_eq n l]
theorem a0n (T:List V) (dst:Option Tmp) (v:V) (K:List V→Prop):putK T dst v K=K (match dst with|some d=>set T d v|none=>T):=by
 cases dst with
 |none=>rfl
 |some d=>simp only[putK];rw[force_eq,a0p]
def a1o (P:Program):TypeDesc→TK
 |.bool=>.bool
 |.int k=>.int k
 |.struct fs=>.struct (fs.toList.map fun f=>(f.offset,P.cellsOf f.type,f.type))
 |.array n e=>.array n e
 |.slice e=>.slice e
 |.map k e=>.map k e
 |.string=>.str
 |_=>.other
def eqOk (P:Program) (t:TypeId):TypeDesc→Bool
 | .struct fs => fs.all (fun f => f.name != "_") && !P.stoodInHeld t && !P.eqGuardType P.depth t
 |.array _ _=>!P.eqGuardType P.depth t
 |_=>false
def isAggV:Value→Bool
 |.agg _=>true
 |_=>false
def zeroOf (ag:Bool) (i:TypeInfo):Option (List V):=
 match i.zero with
 |some z=>bif z.cells.toList.all (·.oneCell') && Nat.beq z.cells.size i.size && bEq ag (isAggV z) then some (z.cells.toList.map ofZ) else none
 |none=>none
def tiOf (P:Program) (t:TypeId):TI:=
 match P.info? t,P.underlying t with
 |some i,some d=>⟨true,i.size,i.bytes,a1o P d,zeroOf (TI.agg {kind:=a1o P d}) i,eqOk P t d⟩
 |_,_=>{}
def a1b (E:Env) (P:Program):Prop:=∀t,(E.ti t).known=true→E.ti t=tiOf P t
theorem a1b.info {E:Env} {P:Program} (h:a1b E P) {t:TypeId} (hk:(E.ti t).known=true) :
  ∃i d,P.info? t=some i∧P.underlying t=some d∧(E.ti t).size=i.size∧(E.ti t).bytes=i.bytes∧(E.ti t).kind=a1o P d∧(E.ti t).zero=zeroOf (E.ti t).agg i∧
   (E.ti t).eq=eqOk P t d:=by
 have e:=h t hk
 unfold tiOf at e
 split at e
 ·rename_i i d hi hd
  refine⟨i,d,hi,hd,?_⟩
  rw[e]
  exact⟨rfl,rfl,rfl,rfl,rfl⟩
 ·rw[e] at hk;cases hk
def SatT (I:Nat→Prop) (η:Eta) (w:World) (T:List V) (tmps:Array Value):Prop:=
 T.length=tmps.size∧∀i,Den I η w (get .any T i) (tmps.getD i undef)
theorem SatT.mono {I I':Nat→Prop} {η η':Eta} {w w':World} {T:List V} {tmps:Array Value} (m:Mono I η w I' η' w') (h:SatT I η w T tmps):SatT I' η' w' T tmps:=
 ⟨h.1,fun i=>Den.mono m _ _ (h.2 i)⟩
theorem SatT.put {I:Nat→Prop} {η:Eta} {w:World} {T:List V} {a:Act} {dst:Option Tmp} {v:V} {x:Value} (h:SatT I η w T a.tmps) (hv:Den I η w v x) :
  SatT I η w (match dst with|some d=>set T d v|none=>T) (a.put dst x).tmps:=by
 cases dst with
 |none=>exact h
 |some d=>
  refine⟨by simp[Act.put,a0v,h.1],fun i=>?_⟩
  have h2:=h.2 i
  have h1:=h.1
  simp only[Act.put,a0v,a0z,a0G] at h2 ⊢
  by_cases hd:d=i
  ·subst hd
   by_cases hlt:d<T.length
   ·simp only[hlt,if_true,a2S]
    have:(a.tmps.setIfInBounds d x).getD d undef=x:=by simp[Array.getD,←h1,hlt]
    rw[this];exact hv
   ·simp[hlt,Den]
  ·simp only[hd,if_false]
   have:(a.tmps.setIfInBounds d x).getD i undef=a.tmps.getD i undef:=by
    simp only[a1W,a3H]
    simp[hd]
   rw[this];exact h2
theorem Act.put_defers' (a:Act) (dst:Option Tmp) (v:Value):(a.put dst v).defers=a.defers:=by cases dst<;>rfl
/-! ### operands -/
theorem den_ofZ (I:Nat→Prop) (η:Eta) (w:World) (v:Value):Den I η w (ofZ v) v:=by
 unfold ofZ
 split<;>first|rfl|simp[Den]
theorem norm_den {I:Nat→Prop} {η:Eta} {w:World} {v:V} {x:Value} (h:Den I η w v x):Den I η w (normV v) x:=by
 unfold normV
 split
 ·simpa [Den] using h
 ·simpa [Den] using h
 ·exact h
theorem normL_den {I:Nat→Prop} {η:Eta} {w:World}:∀{l:List V} {xs:List Value},DenL I η w l xs→DenL I η w (normL l) xs
 |[],_,h=>h
 |_ :: _,_,h=>by
  obtain⟨x,r,h1,h2,h3⟩:=h
  exact⟨x,r,h1,norm_den h2,normL_den h3⟩
theorem den_ofC (I:Nat→Prop) (η:Eta) (w:World) (v:Value):Den I η w (ofC v) v:=by
 cases v<;>simp[ofC,Den]
theorem ev0_den {I:Nat→Prop} {η:Eta} {w:World} {T:List V} {a:Act} (h:SatT I η w T a.tmps) (x:Operand):Den I η w (ev0 T x) (a.eval x):=by
 cases x with
 |tmp t=>exact h.2 t
 |const v=>exact den_ofC I η w v
 |global g=>exact trivial
 |func f=>exact⟨[],[],rfl,rfl,rfl⟩
def a2m (T:List V) (x:Operand):Prop:=∀p,(ev0 T x).isIte=some p→p
theorem a0l {I:Nat→Prop} {η:Eta} {w:World} {T:List V} {a:Act} (h:SatT I η w T a.tmps) {x:Operand} (ht:a2m T x):Den I η w (ev T x) (a.eval x):=by
 have h0:=ev0_den h x
 unfold ev
 unfold a2m at ht
 cases hv:ev0 T x with
 |ite p u=>
  rw[hv] at h0 ht
  exact h0.1 (ht p rfl)
 |_=>rw[hv] at h0;exact h0
theorem a0x {T:List V} {e:Prop} (he:e):∀{l:List Operand} {K:Prop},conds T e l K→(∀x∈l,a2m T x)∧K
 |[],_,h=>⟨fun _ hx=>(by cases hx),h⟩
 |x :: l,K,h=>by
  unfold conds at h
  cases hi:(ev0 T x).isIte with
  |none=>
   rw[hi] at h
   obtain⟨h1,h2⟩:=a0x he h
   refine⟨fun y hy=>?_,h2⟩
   rcases a0Z.1 hy with rfl|hy
   ·intro p hp;rw[hi] at hp;cases hp
   ·exact h1 y hy
  |some q=>
   rw[hi] at h
   obtain⟨h1,h2⟩:=a0x he h.2
   refine⟨fun y hy=>?_,h2⟩
   rcases a0Z.1 hy with rfl|hy
   ·intro p hp;rw[hi] at hp;cases hp;exact h.1 he
   ·exact h1 y hy
theorem a1g {T:List V} {e:Prop}:∀{l:List Operand} {K:Prop},conds T e l K→K
 |[],_,h=>h
 |x :: l,K,h=>by
  unfold conds at h
  cases hi:(ev0 T x).isIte with
  |none=>rw[hi] at h;exact a1g h
  |some q=>rw[hi] at h;exact a1g h.2
end Go.Sx
namespace Go.Sx
open Go
theorem wrap_in (k:IntKind) (n:Int) (h:inR k n):k.wrap n=n:=by
 obtain⟨h1,h2⟩:=h
 cases k<;>simp[IntKind.wrap,IntKind.bits,IntKind.signed,IntKind.min,IntKind.max] at *<;>omega
variable {P:Program} {E:Env}
def Runs (P:Program) (I:Nat→Prop) (η:Eta) (w:World) (s:Sem Value) (v:V):Prop:=∃x,s.run P w=.ok x w∧Den I η w v x
def PR.sound (P:Program) (I:Nat→Prop) (η:Eta) (w:World) (s:Sem Value):PR→Prop
 |.bad=>True
 |.ok v=>Runs P I η w s v
 |.need c v=>c→Runs P I η w s v
theorem binInt_sound (I:Nat→Prop) (η:Eta) (w:World) (op:BinOp) (t:TypeId) (k:IntKind) (a b:Int) :
  (binInt op k a b).sound P I η w (binOp op t (.int k a) (.int k b)):=by
 cases op<;>simp only[binInt,PR.sound,Runs]
 case add=>intro h;exact⟨.int k (a+b),by simp[binOp,Op.intArith,wrap_in k _ h],rfl⟩
 case sub=>intro h;exact⟨.int k (a-b),by simp[binOp,Op.intArith,wrap_in k _ h],rfl⟩
 case mul=>intro h;exact⟨.int k (a*b),by simp[binOp,Op.intArith,wrap_in k _ h],rfl⟩
 case eql=>exact⟨.bool (a == b),by simp[binOp,Op.intCmp],congrArg Value.bool (by rw[Bool.eq_iff_iff];simp)⟩
 case neq=>exact⟨.bool (a != b),by simp[binOp,Op.intCmp],congrArg Value.bool (by rw[Bool.eq_iff_iff];simp)⟩
 case lss=>exact⟨.bool (decide (a<b)),by simp[binOp,Op.intCmp],rfl⟩
 case leq=>exact⟨.bool (decide (a≤b)),by simp[binOp,Op.intCmp],rfl⟩
 case gtr=>exact⟨.bool (decide (a > b)),by simp[binOp,Op.intCmp],rfl⟩
 case geq=>exact⟨.bool (decide (a≥b)),by simp[binOp,Op.intCmp],rfl⟩
 case quo=>intro h;exact⟨.int k (a.tdiv b),by simp[binOp,Op.intDiv,h.1,wrap_in k _ h.2],rfl⟩
 case rem=>intro h;exact⟨.int k (a.tmod b),by simp[binOp,Op.intDiv,h],rfl⟩
 case and=>exact⟨.int k (bitsI .and k a b),by simp only[binOp,Op.intBits,ne_eq,not_true_eq_false,if_false];rfl,rfl⟩
 case or=>exact⟨.int k (bitsI .or k a b),by simp only[binOp,Op.intBits,ne_eq,not_true_eq_false,if_false];rfl,rfl⟩
 case xor=>exact⟨.int k (bitsI .xor k a b),by simp only[binOp,Op.intBits,ne_eq,not_true_eq_false,if_false];rfl,rfl⟩
 case andNot=>exact⟨.int k (bitsI .andNot k a b),by simp only[binOp,Op.intBits,ne_eq,not_true_eq_false,if_false];rfl,rfl⟩
theorem shiftInt_sound (I:Nat→Prop) (η:Eta) (w:World) (op:BinOp) (t:TypeId) (k k':IntKind) (a b:Int) :
  (shiftInt op k a b).sound P I η w (binOp op t (.int k a) (.int k' b)):=by
 cases op<;>simp only[shiftInt,PR.sound,Runs]
 case shl=>
  rintro⟨h1,h2,h3⟩
  have hm:min b.toNat k.bits=b.toNat:=Nat.min_eq_left h2
  exact⟨.int k (a*2 ^ b.toNat),by simp[binOp,Op.shift,Int.not_lt.2 h1,hm,wrap_in k _ h3],rfl⟩
 case shr=>
  rintro⟨h1,h2⟩
  have hm:min b.toNat k.bits=b.toNat:=Nat.min_eq_left h2
  exact⟨.int k (a.fdiv (2 ^ b.toNat)),by simp[binOp,Op.shift,Int.not_lt.2 h1,hm],rfl⟩
theorem asProp_den {I:Nat→Prop} {η:Eta} {w:World} {v:V} {x:Value} {p:Prop} {d:Decidable p} (h:v.asProp=some ⟨p,d⟩) (hd:Den I η w v x):x=.bool (@decide p d):=by
 cases v<;>simp only[V.asProp] at h<;>try cases h
 ·exact hd
 ·rename_i b
  cases b<;>cases h<;>exact hd
theorem equalIn_bool {t:TypeId} (ht:P.underlying t=some .bool) (w:World) (d:Nat) (a b:Bool):(Op.equalIn (d+1) t (.bool a) (.bool b)).run P w=.ok (a == b) w:=by
 simp[Op.equalIn,run_underlying ht]
theorem equal_bool {t:TypeId} (ht:P.underlying t=some .bool) (w:World) (a b:Bool):(Op.equal t (.bool a) (.bool b)).run P w=.ok (a == b) w:=
 equalIn_bool ht w 9999 a b
theorem DenL.length {I:Nat→Prop} {η:Eta} {w:World}:∀{cs:List V} {vs:List Value},DenL I η w cs vs→vs.length=cs.length
 |[],_,h=>by rw[show _=[] from h];rfl
 |_ :: cs,_,h=>by obtain⟨v,r,rfl,_,h3⟩:=h;simp[DenL.length h3]
theorem DenL.getElem? {I:Nat→Prop} {η:Eta} {w:World}:∀{cs:List V} {vs:List Value},DenL I η w cs vs→∀(i:Nat) (c:V),cs[i]? = some c→∃v,vs[i]? = some v∧Den I η w c v
 |[],_,_,i,c,h=>by simp at h
 |_ :: cs,_,h,0,c,hc=>by obtain⟨v,r,rfl,h2,h3⟩:=h;simp at hc;subst hc;exact⟨v,rfl,h2⟩
 |_ :: cs,_,h,i+1,c,hc=>by
  obtain⟨v,r,rfl,h2,h3⟩:=h
  simp only[List.getElem?_cons_succ] at hc ⊢
  exact DenL.getElem? h3 i c hc
theorem DenL.drop {I:Nat→Prop} {η:Eta} {w:World}:∀(n:Nat) {cs:List V} {vs:List Value},DenL I η w cs vs→DenL I η w (cs.drop n) (vs.drop n)
 |0,_,_,h=>by simpa using h
 |n+1,[],_,h=>by rw[show _=[] from h];simp[DenL]
 |n+1,_ :: cs,_,h=>by obtain⟨v,r,rfl,_,h3⟩:=h;simpa using DenL.drop n h3
theorem DenL.take {I:Nat→Prop} {η:Eta} {w:World}:∀(n:Nat) {cs:List V} {vs:List Value},DenL I η w cs vs→DenL I η w (cs.take n) (vs.take n)
 |0,_,_,h=>by simp[DenL]
 |n+1,[],_,h=>by rw[show _=[] from h];simp[DenL]
 |n+1,_ :: cs,_,h=>by obtain⟨v,r,rfl,h2,h3⟩:=h;exact⟨v,r.take n,by simp,h2,DenL.take n h3⟩
theorem DenL.append {I:Nat→Prop} {η:Eta} {w:World}:∀{cs ds:List V} {vs us:List Value},DenL I η w cs vs→DenL I η w ds us→DenL I η w (cs++ds) (vs++us)
 |[],_,_,_,h,k=>by rw[show _=[] from h];exact k
 |_ :: cs,_,_,_,h,k=>by obtain⟨v,r,rfl,h2,h3⟩:=h;exact⟨v,_,rfl,h2,DenL.append h3 k⟩
theorem DenL.set {I:Nat→Prop} {η:Eta} {w:World}:∀{cs:List V} {vs:List Value} (i:Nat) {c:V} {v:Value},DenL I η w cs vs→Den I η w c v→DenL I η w (cs.set i c) (vs.set i v)
 |[],_,_,_,_,h,_=>by rw[show _=[] from h];simp[DenL]
 |_ :: cs,_,0,_,_,h,hc=>by obtain⟨v,r,rfl,h2,h3⟩:=h;exact⟨_,r,rfl,hc,h3⟩
 |_ :: cs,_,i+1,_,_,h,hc=>by obtain⟨v,r,rfl,h2,h3⟩:=h;exact⟨v,_,rfl,h2,DenL.set i h3 hc⟩
def aggD:TypeDesc→Bool
 |.struct _|.array _ _=>true
 |_=>false
theorem run_isAgg {t:TypeId} {d:TypeDesc} (h:P.underlying t=some d) (w:World):(isAgg t).run P w=.ok (aggD d) w:=by
 simp only[isAgg,Sem.run_bind,run_underlying h,Result.andThen_ok]
 cases d<;>rfl
theorem agg_kind (P:Program) (d:TypeDesc) (i:TI) (h:i.kind=a1o P d):i.agg=aggD d:=by
 unfold TI.agg
 rw[h]
 cases d<;>rfl
theorem Addr.add_none (b o n:Nat):(⟨b,o,none⟩:Addr).add n=⟨b,o+n,none⟩:=by
 unfold Addr.add;split<;>simp_all
theorem load_cells (hE:a1b E P) {I:Nat→Prop} {η:Eta} {w:World} (t:TypeId) (b o:Nat) (cs:List V) (vs:List Value)
  (hc:∀j u,vs[j]? = some u→w.cell? ⟨b,o+j,none⟩=some u) (h1:∀u∈vs,u.oneCell'=true) (hd:DenL I η w cs vs) :
  (mkLoad E t cs).sound P I η w (Instr.loadAt t (.pointer (some ⟨b,o,none⟩))):=by
 unfold mkLoad
 split
 ·rename_i hk ha
  obtain⟨i,d,hi,hu,hs,_,hkind,_,_⟩:=hE.info hk
  have hagg:=run_isAgg hu w
  rw[←agg_kind P d _ hkind,ha] at hagg
  simp only[cond_eq_ite]
  split
  ·rename_i hle
   have hle':(E.ti t).size≤cs.length:=by rw[a1j] at hle;exact a0P hle
   simp only[PR.sound,Runs]
   have hl:=hd.length
   refine⟨.agg (vs.take (E.ti t).size).toArray,?_,?_⟩
   ·have hlc:=run_loadCells_list (P:=P) w ⟨b,o,none⟩ (vs.take (E.ti t).size) (fun j u hj=>by
     rw[Addr.add_none]
     refine hc j u ?_
     rw[a1C] at hj
     split at hj
     ·exact hj
     ·cases hj)
    have e1:(vs.take (E.ti t).size).length=i.size:=by simp[hs] at *;omega
    rw[e1] at hlc
    simp[Instr.loadAt,Instr.sureAddr,loadVar,hagg,sizeOf,typeInfo,hi,hlc]
   ·refine⟨_,rfl,fun u hu=>h1 u (a0X hu),?_⟩
    rw[take_eq]
    exact hd.take _
  ·exact trivial
 ·rename_i hk ha
  obtain⟨i,d,hi,hu,hs,_,hkind,_,_⟩:=hE.info hk
  have hagg:=run_isAgg hu w
  rw[←agg_kind P d _ hkind,ha] at hagg
  split
  ·rename_i c cs' 
   obtain⟨v,r,rfl,h2,h3⟩:=hd
   have:=hc 0 v rfl
   simp only[a2O] at this
   exact⟨v,by simp[Instr.loadAt,Instr.sureAddr,loadVar,hagg,this],h2⟩
  ·exact trivial
 ·exact trivial
end Go.Sx
namespace Go.Sx
open Go
variable {P:Program} {E:Env}
theorem a0f {a b:Nat} (h:Nat.beq a b=true):a=b:=Nat.eq_of_beq_eq_true h
/-! equality of structs of integers -/
theorem eqFields_ints (hE:a1b E P) (w:World) (D:Nat) {I:Nat→Prop} {η:Eta}:∀(fs:List Field) (n:Nat) (l m:List V) (xs ys:List Value) (p:Prop) (d:Decidable p),
  fs.all (fun f => f.name != "_") = true → intFieldsL E n (fs.map fun f => (f.offset, P.cellsOf f.type, f.type)) = true → fs.length = l.length →
  eqCells l m=some ⟨p,d⟩→DenL I η w l (xs.drop n)→DenL I η w m (ys.drop n)→
  (Op.eqFields (D+1) xs.toArray ys.toArray fs).run P w=.ok (@decide p d) w
 |[],n,l,m,xs,ys,p,d,_,_,hl,he,_,_=>by
  have:l=[]:=List.eq_nil_of_length_eq_zero (by simpa using hl.symm)
  subst this
  simp[eqCells] at he
 |f :: fs,n,l,m,xs,ys,p,d,hn,hi,hl,he,hx,hy=>by
  simp only[List.all_cons,a0D,a3Y,intFieldsL] at hn hi
  obtain⟨⟨⟨ho,hk⟩,hint⟩,hrest⟩:=hi
  obtain rfl:=a0f ho
  obtain⟨i,dd,hinfo,hu,hs,_,hkind,_,_⟩:=hE.info hk
  have hdd:∃q,dd=.int q:=by
   rw[hkind] at hint
   cases dd<;>simp[a1o,TK.isInt] at hint
   exact⟨_,rfl⟩
  obtain⟨q,rfl⟩:=hdd
  have hname : f.name ≠ "_" := by simpa using hn.1
  have hpart:∀(zs:List Value) (v:Value) (r:List Value),zs.drop f.offset=v :: r→(part f.type zs.toArray f.offset).run P w=.ok v w:=by
   intro zs v r hz
   have hz':zs[f.offset]? = some v:=by
    have:=congrArg (fun l=>l[0]?) hz
    simpa using this
   simp[part,isAgg,run_underlying hu,hz']
  have key:∀(k:IntKind) (a b:Int) (l' m':List V),DenL I η w (.int k a :: l') (xs.drop f.offset)→DenL I η w (.int k b :: m') (ys.drop f.offset)→
    (Op.eqFields (D+1) xs.toArray ys.toArray (f :: fs)).run P w=(if a=b then(Op.eqFields (D+1) xs.toArray ys.toArray fs).run P w else .ok false w)∧
    DenL I η w l' (xs.drop (f.offset+1))∧DenL I η w m' (ys.drop (f.offset+1)):=by
   intro k a b l' m' h1 h2
   obtain⟨v1,r1,e1,hv1,hr1⟩:=h1
   obtain⟨v2,r2,e2,hv2,hr2⟩:=h2
   have hv1':v1=.int k a:=hv1
   have hv2':v2=.int k b:=hv2
   subst hv1' hv2'
   refine⟨?_,?_,?_⟩
   ·have h1:=hpart xs _ _ e1
    have h2:=hpart ys _ _ e2
    have h3:=run_equalIn_int (P:=P) w D f.type k q a b hu
    simp only[Op.eqFields,hname,ne_eq,not_false_eq_true,if_true,Sem.run_bind,h1,h2,Result.andThen_ok,h3,Sem.run_ite,Sem.run_pure]
    by_cases hab:a=b
    ·subst hab;simp
    ·simp[hab]
   ·have:=congrArg List.tail e1
    rw[List.tail_drop] at this
    rw[this];exact hr1
   ·have:=congrArg List.tail e2
    rw[List.tail_drop] at this
    rw[this];exact hr2
  unfold eqCells at he
  split at he
  ·rename_i k a k' b
   split at he
   ·rename_i hk'
    subst hk'
    cases he
    obtain⟨e1,_,_⟩:=key k a b [] [] hx hy
    have hfs:fs=[]:=List.eq_nil_of_length_eq_zero (by simpa using hl)
    subst hfs
    rw[e1]
    by_cases hab:a=b<;>simp[hab,Op.eqFields]
   ·cases he
  ·rename_i k a l' k' b m' hne
   split at he
   ·rename_i hk'
    subst hk'
    split at he
    ·rename_i p' d' he'
     cases he
     obtain⟨e1,h1,h2⟩:=key k a b l' m' hx hy
     rw[e1]
     have ih:=eqFields_ints hE w D fs (f.offset+1) l' m' xs ys p' d' hn.2 hrest (by simpa using hl) he' h1 h2
     by_cases hab:a=b
     ·simp[hab,ih]
     ·simp[hab]
    ·cases he
   ·cases he
  ·cases he
theorem binV_sound (hE:a1b E P) {I:Nat→Prop} {η:Eta} {w:World} (op:BinOp) (t:TypeId) (ox oy:Operand) {a b:V} {x y:Value} (ha:Den I η w a x) (hb:Den I η w b y) :
  (binV E op t a b).sound P I η w (do eqGuard op t ox oy x y;binOp op t x y):=by
 unfold binV
 split
 ·rename_i k m k' n
  have sh:∀(op:BinOp),(shiftInt op k m n).sound P I η w (do eqGuard op t ox oy x y;binOp op t x y):=by
   intro op
   have hx:x=.int k m:=ha
   have hy:y=.int k' n:=hb
   subst hx hy
   have h:=shiftInt_sound (P:=P) I η w op t k k' m n
   unfold PR.sound at h ⊢
   split
   ·trivial
   ·rename_i v hv
    rw[hv] at h
    obtain⟨z,h1,h2⟩:=h
    exact⟨z,by simp[eqGuard_at_int,h1],h2⟩
   ·rename_i c v hv
    rw[hv] at h
    intro hc
    obtain⟨z,h1,h2⟩:=h hc
    exact⟨z,by simp[eqGuard_at_int,h1],h2⟩
  split
  ·exact sh .shl
  ·exact sh .shr
  split
  ·rename_i hk
   subst hk
   have hx:x=.int k m:=ha
   have hy:y=.int k n:=hb
   subst hx hy
   have h:=binInt_sound (P:=P) I η w op t k m n
   unfold PR.sound at h ⊢
   split
   ·trivial
   ·rename_i v hv
    rw[hv] at h
    obtain⟨z,h1,h2⟩:=h
    exact⟨z,by simp[eqGuard_at_int,h1],h2⟩
   ·rename_i c v hv
    rw[hv] at h
    intro hc
    obtain⟨z,h1,h2⟩:=h hc
    exact⟨z,by simp[eqGuard_at_int,h1],h2⟩
  ·trivial
 ·rename_i l m
  obtain⟨xs,rfl,_,hl⟩:=ha
  obtain⟨ys,rfl,_,hm⟩:=hb
  have main:∀(p:Prop) (d:Decidable p),intFields E t (len l)=true→eqCells l m=some ⟨p,d⟩→
    (eqGuard op t ox oy (.agg xs.toArray) (.agg ys.toArray)).run P w=.ok () w∧(Op.equalIn 10000 t (.agg xs.toArray) (.agg ys.toArray)).run P w=.ok (@decide p d) w:=by
   intro p d hi he
   unfold intFields at hi
   split at hi
   ·rename_i fs hk heq hkind
    obtain⟨i,dd,hinfo,hu,hs,_,hkind',_,heq'⟩:=hE.info hk
    rw[hkind'] at hkind
    have:∃fs',dd=.struct fs':=by cases dd<;>simp[a1o] at hkind<;>exact⟨_,rfl⟩
    obtain⟨fs',rfl⟩:=this
    simp only[a1o,TK.struct.injEq] at hkind
    subst hkind
    rw[heq'] at heq
    simp only[eqOk,a0D,a3P] at heq
    obtain⟨⟨hnames,hst⟩,hgd⟩:=heq
    simp only[a0D] at hi
    have hlen:=a0f hi.2
    rw[a1j,a1j,a1L] at hlen
    refine⟨run_eqGuard_agg w op t ox oy _ _ hgd,?_⟩
    have hfo:P.fieldsOf t=fs':=by simp[Program.fieldsOf,hu]
    rw[run_equalIn_struct w 9999 t _ _ (by rw[hfo];exact hu) hst,hfo]
    exact eqFields_ints hE w 9998 fs'.toList 0 l m xs ys p d (by simpa using hnames) hi.1 hlen he (by simpa using hl) (by simpa using hm)
   ·cases hi
  split
  ·rename_i p d hi he
   obtain⟨h1,h2⟩:=main p d hi he
   exact⟨.bool (@decide p d),by simp[h1,run_eql_struct,h2],rfl⟩
  ·rename_i p d hi he
   obtain⟨h1,h2⟩:=main p d hi he
   exact⟨.bool (!@decide p d),by simp[h1,run_neq_struct,h2],by simp only[Den];congr 1;by_cases hp:p<;>simp[hp]⟩
  ·trivial
 ·split
  ·rename_i hk hkind
   obtain⟨i,dd,hinfo,hu,hs,_,hkind',_,_⟩:=hE.info hk
   rw[hkind'] at hkind
   have:dd=.bool:=by cases dd<;>simp[a1o] at hkind<;>rfl
   subst this
   split
   ·rename_i p d q e hp hq
    have hx:=asProp_den hp ha
    have hy:=asProp_den hq hb
    subst hx hy
    refine⟨.bool (@decide p d == @decide q e),?_,?_⟩
    ·simp[eqGuard_at_bool,binOp,equal_bool hu]
    ·simp only[Den];congr 1;by_cases hp:p<;>by_cases hq:q<;>simp[hp,hq]
   ·rename_i p d q e hp hq
    have hx:=asProp_den hp ha
    have hy:=asProp_den hq hb
    subst hx hy
    refine⟨.bool (!(@decide p d == @decide q e)),?_,?_⟩
    ·simp[eqGuard_at_bool,binOp,equal_bool hu]
    ·simp only[Den];congr 1;by_cases hp:p<;>by_cases hq:q<;>simp[hp,hq]
   ·trivial
  ·trivial
end Go.Sx
