/- Own work: texts of the proof of a law (SzKey). No condition. -/
import Derived.ChangeKeysEq
import Derived.WideKeyRuns
import Derived.MapKept
import Derived.Test.YtkgjhinmndcmjaaGreatPart2
import Derived.Test.YtkgjhinmndcmjaaGreatPart0
namespace Go.Sx
open Go
variable {P:Program} {E:Env}
theorem a0y:∀{ks:List IntKind} {k:List Int},k.length=ks.length→(a0o ks k).length=ks.length
 |[],[],_=>rfl
 |_ :: _,_ :: _,h=>by simp[a0o];exact a0y (by simpa using h)
 |[],_ :: _,h=>by simp at h
 |_ :: _,[],h=>by simp at h
theorem keyVals_app:∀{ks ks':List IntKind} {k:List Int},k.length=(ks++ks').length→a0o (ks++ks') k=a0o ks (k.take ks.length)++a0o ks' (k.drop ks.length)
 |[],ks',k,_=>by simp[a0o]
 |q :: ks,ks',[],h=>by simp at h
 |q :: ks,ks',n :: l,h=>by simp[a0o];exact keyVals_app (by simpa using h)
theorem keyVals_inj:∀{ks:List IntKind} {k l:List Int},k.length=ks.length→l.length=ks.length→a0o ks k=a0o ks l→k=l
 |[],[],[],_,_,_=>rfl
 |_ :: _,_ :: _,_ :: _,h,h',e=>by
  simp[a0o] at e
  rw[e.1,keyVals_inj (by simpa using h) (by simpa using h') e.2]
 |[],_ :: _,_,h,_,_=>by simp at h
 |[],[],_ :: _,_,h,_=>by simp at h
 |_ :: _,[],_,h,_,_=>by simp at h
 |_ :: _,_ :: _,[],_,h,_=>by simp at h
theorem app_eq' {α:Type}:∀(a b:List α),app a b=a++b
 |[],_=>rfl
 |x :: a,b=>by simp[app,app_eq' a b]
structure Flat (P:Program) (D:Nat) (t:TypeId) (ks:List IntKind) (ka:Bool):Prop where
 agg:∀w:World,(isAgg t).run P w=.ok ka w
 size:ka=true→∀w:World,(sizeOf t).run P w=.ok ks.length w
 flat:ka=false→ks.length=1
 equal:∀(w:World) (D':Nat) (k l:List Int),D≤D'→k.length=ks.length→l.length=ks.length→(Op.equalIn D' t (encK ks ka k) (encK ks ka l)).run P w=.ok (decide (k=l)) w
 check:∀(w:World) (D':Nat) (em:Bool) (k:List Int),D≤D'→k.length=ks.length→(Instr.checkKey em D' t (encK ks ka k)).run P w=.ok () w
theorem Flat.part {D:Nat} {t:TypeId} {ks:List IntKind} {ka:Bool} (h:Flat P D t ks ka) {xs:List Value} {off:Nat} {k:List Int} (hk:k.length=ks.length) {r:List Value} (hx:xs.drop off=a0o ks k++r) (w:World) :
  (part t xs.toArray off).run P w=.ok (encK ks ka k) w:=by
 have hl:=a0y hk
 cases ka with
 |true=>
  have hs:=h.size rfl w
  simp only[Go.part,Sem.run_bind,h.agg w,Result.andThen_ok,if_true,hs,Sem.run_pure,encK,cond_true]
  have:xs.toArray.extract off (off+ks.length)=(a0o ks k).toArray:=by
   apply Array.ext'
   simp only[Array.toList_extract,List.extract_eq_take_drop,Nat.add_sub_cancel_left]
   rw[hx,a2T (by omega),a3N (by omega)]
  rw[this]
 |false=>
  have h1:=h.flat rfl
  obtain⟨v,hv⟩:∃v,a0o ks k=[v]:=a1K.1 (by rw[hl,h1])
  have hz:xs[off]? = some v:=by
   have:=congrArg (fun l=>l[0]?) hx
   simp[hv] at this
   exact this
  simp[Go.part,h.agg w,Result.andThen_ok,encK,hv,hz]
theorem flat_int {t:TypeId} {q:IntKind} (hu:P.underlying t=some (.int q)):Flat P 1 t [q] false where
 agg w:=by simp[isAgg,run_underlying hu]
 size h:=by cases h
 flat _:=rfl
 equal w D' k l hD hk hl:=by
  obtain⟨a,rfl⟩:=a1K.1 hk
  obtain⟨b,rfl⟩:=a1K.1 hl
  obtain⟨d,rfl⟩:∃d,D'=d+1:=⟨D'-1,by omega⟩
  have:=run_equalIn_int (P:=P) w d t q q a b hu
  simp only[encK,cond_false,a0o,List.headD_cons]
  rw[this]
  simp
  rfl
 check w D' em k hD hk:=by
  obtain⟨a,rfl⟩:=a1K.1 hk
  obtain⟨d,rfl⟩:∃d,D'=d+1:=⟨D'-1,by omega⟩
  simp only[encK,cond_false,a0o,List.headD_cons]
  exact MapKept.run_checkKey hu (d:=.int q) (k:=.int q a) rfl em d
theorem flat_mono {D D':Nat} {t:TypeId} {ks:List IntKind} {ka:Bool} (h:Flat P D t ks ka) (hD:D≤D'):Flat P D' t ks ka:=
 ⟨h.agg,h.size,h.flat,fun w d k l hd=>h.equal w d k l (by omega),fun w d em k hd=>h.check w d em k (by omega)⟩
theorem flat_fields {D : Nat} {kinds : TypeId → Option (List IntKind)} (ih : ∀ t ks, kinds t = some ks → ∃ ka, Flat P D t ks ka) : ∀ (fs : List Field) (n : Nat) (ks : List IntKind), kindsL kinds n (fs.map fun f => (f.offset, P.cellsOf f.type, f.type)) = some ks → fs.all (fun f => f.name != "_") = true →
  ∀(w:World) (D':Nat) (xs:List Value) (k:List Int),D≤D'→k.length=ks.length→xs.drop n=a0o ks k→
   (∀em,(forIn fs PUnit.unit (fun(f:Field) (_:PUnit)=>do
    if f.name ≠ "_" then Instr.checkKey em D' f.type (← part f.type xs.toArray f.offset)
    pure (ForInStep.yield PUnit.unit))).run P w=.ok PUnit.unit w)∧
   ∀(ys:List Value) (l:List Int),l.length=ks.length→ys.drop n=a0o ks l→(Op.eqFields D' xs.toArray ys.toArray fs).run P w=.ok (decide (k=l)) w
 |[],n,ks,hk,_,w,D',xs,k,hD,hl,hx=>by
  simp[kindsL] at hk
  subst hk
  have:k=[]:=a1R hl
  subst this
  refine⟨fun em=>by simp,fun ys l hl' hy=>?_⟩
  have:l=[]:=a1R hl'
  subst this
  simp[Op.eqFields]
 |f :: fs,n,ks,hk,hn,w,D',xs,k,hD,hl,hx=>by
  simp only[a3Y,kindsL,cond_eq_ite] at hk
  split at hk
  ·rename_i ho
   obtain rfl:=a0f ho
   split at hk
   ·rename_i ks1 hk1
    split at hk
    ·rename_i ks2 hk2
     simp only[a1H,app_eq'] at hk
     subst hk
     simp only[List.all_cons,a0D] at hn
     have hname : f.name ≠ "_" := by simpa using hn.1
     obtain⟨ka,hf⟩:=ih f.type ks1 hk1
     rw[a1j] at hk2
     have hl1:(k.take ks1.length).length=ks1.length:=by simp at hl ⊢;omega
     have hl2:(k.drop ks1.length).length=ks2.length:=by simp at hl ⊢;omega
     rw[keyVals_app hl] at hx
     have hp:=hf.part hl1 hx w
     have hx2:xs.drop (f.offset+ks1.length)=a0o ks2 (k.drop ks1.length):=by
      rw[←a3R,hx,a1S (by rw[a0y hl1];exact a0K _),a2J (by rw[a0y hl1];exact a0K _)]
      rfl
     obtain⟨r1,r2⟩:=flat_fields ih fs (f.offset+ks1.length) ks2 hk2 hn.2 w D' xs (k.drop ks1.length) hD hl2 hx2
     refine⟨fun em=>?_,fun ys l hll hy=>?_⟩
     ·have hc:=hf.check w D' em _ hD hl1
      simp only[List.forIn_cons,Sem.run_bind,hname,ne_eq,not_false_eq_true,if_true,Result.andThen_ok,hp,hc,Sem.run_pure]
      exact r1 em
     ·have hl3:(l.take ks1.length).length=ks1.length:=by simp at hll ⊢;omega
      have hl4:(l.drop ks1.length).length=ks2.length:=by simp at hll ⊢;omega
      rw[keyVals_app hll] at hy
      have hp2:=hf.part hl3 hy w
      have hy2:ys.drop (f.offset+ks1.length)=a0o ks2 (l.drop ks1.length):=by
       rw[←a3R,hy,a1S (by rw[a0y hl3];exact a0K _),a2J (by rw[a0y hl3];exact a0K _)]
       rfl
      have he:=hf.equal w D' _ _ hD hl1 hl3
      have hrest:=r2 ys _ hl4 hy2
      simp only[Op.eqFields,hname,ne_eq,not_false_eq_true,if_true,Sem.run_bind,hp,hp2,Result.andThen_ok,he,Sem.run_ite,Sem.run_pure]
      by_cases h1:k.take ks1.length=l.take ks1.length
      ·simp only[h1,decide_true,Bool.not_true,a2N,if_false]
       rw[hrest]
       congr 1
       rw[decide_eq_decide]
       constructor
       ·intro h2;rw[←a1T ks1.length k,←a1T ks1.length l,h1,h2]
       ·intro h2;rw[h2]
      ·have:k≠l:=fun e=>h1 (by rw[e])
       simp[h1,this]
    ·cases hk
   ·cases hk
  ·cases hk
theorem flat_items {D:Nat} {e:TypeId} {ks:List IntKind} {ka:Bool} (hf:Flat P D e ks ka):∀(m j:Nat) (w:World) (D':Nat) (xs:List Value) (k:List Int),D≤D'→k.length=(repK ks m).length→xs.drop (j*ks.length)=a0o (repK ks m) k→
   (∀em (i:TypeInfo),P.info? e=some i→i.size=ks.length→(forIn (List.range' j m) PUnit.unit (fun(i:Nat) (_:PUnit)=>do
    Instr.checkKey em D' e (←part e xs.toArray (i*(←sizeOf e)))
    pure (ForInStep.yield PUnit.unit))).run P w=.ok PUnit.unit w)∧
   ∀(ys:List Value) (l:List Int),l.length=(repK ks m).length→ys.drop (j*ks.length)=a0o (repK ks m) l→(Op.eqItems D' e ks.length xs.toArray ys.toArray (List.range' j m)).run P w=.ok (decide (k=l)) w
 |0,j,w,D',xs,k,hD,hl,hx=>by
  have:k=[]:=a1R hl
  subst this
  refine⟨fun em i _ _=>by simp,fun ys l hl' hy=>?_⟩
  have:l=[]:=a1R hl'
  subst this
  simp[Op.eqItems]
 |m+1,j,w,D',xs,k,hD,hl,hx=>by
  have hr:repK ks (m+1)=ks++repK ks m:=by simp[repK,app_eq']
  rw[hr] at hl hx
  have hl1:(k.take ks.length).length=ks.length:=by simp at hl ⊢;omega
  have hl2:(k.drop ks.length).length=(repK ks m).length:=by simp at hl ⊢;omega
  rw[keyVals_app hl] at hx
  have hp:=hf.part hl1 hx w
  have hx2:xs.drop ((j+1)*ks.length)=a0o (repK ks m) (k.drop ks.length):=by
   rw[a0W,Nat.one_mul,←a3R,hx,a1S (by rw[a0y hl1];exact a0K _),a2J (by rw[a0y hl1];exact a0K _)]
   rfl
  obtain⟨r1,r2⟩:=flat_items hf m (j+1) w D' xs (k.drop ks.length) hD hl2 hx2
  refine⟨fun em i hi hs=>?_,fun ys l hll hy=>?_⟩
  ·have hc:=hf.check w D' em _ hD hl1
   have hsz:=run_sizeOf (P:=P) w hi
   have hcs:P.cellsOf e=ks.length:=by simp[Program.cellsOf,hi,hs]
   simp only[List.range'_succ,List.forIn_cons,Sem.run_bind,hsz,hcs,Result.andThen_ok,hp,hc,Sem.run_pure]
   exact r1 em i hi hs
  ·rw[hr] at hll hy
   have hl3:(l.take ks.length).length=ks.length:=by simp at hll ⊢;omega
   have hl4:(l.drop ks.length).length=(repK ks m).length:=by simp at hll ⊢;omega
   rw[keyVals_app hll] at hy
   have hp2:=hf.part hl3 hy w
   have hy2:ys.drop ((j+1)*ks.length)=a0o (repK ks m) (l.drop ks.length):=by
    rw[a0W,Nat.one_mul,←a3R,hy,a1S (by rw[a0y hl3];exact a0K _),a2J (by rw[a0y hl3];exact a0K _)]
    rfl
   have he:=hf.equal w D' _ _ hD hl1 hl3
   have hrest:=r2 ys _ hl4 hy2
   simp only[List.range'_succ,Op.eqItems,Sem.run_bind,hp,hp2,Result.andThen_ok,he,Sem.run_ite,Sem.run_pure]
   by_cases h1:k.take ks.length=l.take ks.length
   ·simp only[h1,decide_true,Bool.not_true,a2N,if_false]
    rw[hrest]
    congr 1
    rw[decide_eq_decide]
    constructor
    ·intro h2;rw[←a1T ks.length k,←a1T ks.length l,h1,h2]
    ·intro h2;rw[h2]
   ·have:k≠l:=fun e=>h1 (by rw[e])
    simp[h1,this]
theorem flat_of (hE:a1b E P):∀(D:Nat) (t:TypeId) (ks:List IntKind),kindsOf E D t=some ks→∃ka,ka=(E.ti t).agg∧Flat P D t ks ka
 |0,t,ks,h=>by simp[kindsOf] at h
 |D+1,t,ks,h=>by
  unfold kindsOf at h
  split at h
  ·rename_i q hk hkind
   cases h
   obtain⟨i,d,hi,hu,hs,_,hkd,_,_⟩:=hE.info hk
   rw[hkd] at hkind
   have:d=.int q:=by cases d<;>simp[a1o] at hkind;rw[hkind]
   subst this
   exact⟨false,by simp[TI.agg,hkd,a1o],flat_mono (flat_int hu) (by omega)⟩
  ·rename_i fs hk hkind
   simp only[cond_eq_ite] at h
   split at h
   ·rename_i heq
    split at h
    ·rename_i ks' hks
     split at h
     ·rename_i hsz
      cases h
      obtain⟨i,d,hi,hu,hs,_,hkd,_,heq'⟩:=hE.info hk
      have hkd0:=hkd
      rw[hkd] at hkind
      have:∃fs',d=.struct fs':=by cases d<;>simp[a1o] at hkind<;>exact⟨_,rfl⟩
      obtain⟨fs',rfl⟩:=this
      simp only[a1o,TK.struct.injEq] at hkind
      subst hkind
      rw[heq'] at heq
      simp only[eqOk,a0D,a3P] at heq
      obtain⟨⟨hnames,hst⟩,hgd⟩:=heq
      have hsize:i.size=ks.length:=by rw[←hs,←a0f hsz,a1j]
      have hcells:P.cellsOf t=ks.length:=by simp[Program.cellsOf,hi,hsize]
      have hfo:P.fieldsOf t=fs':=by simp[Program.fieldsOf,hu]
      have main:=flat_fields (P:=P) (D:=D) (fun t ks h=>by obtain⟨ka,_,hf⟩:=flat_of hE D t ks h;exact⟨ka,hf⟩) fs'.toList 0 ks hks (by rw[Array.all_toList];exact hnames)
      refine⟨true,by simp[TI.agg,hkd0,a1o],⟨fun w=>by simp[isAgg,run_underlying hu],fun _ w=>by rw[run_sizeOf w hi,hcells],(fun h=>by cases h),?_,?_⟩⟩
      ·intro w D' k l hD hk hl
       obtain⟨d,rfl⟩:∃d,D'=d+1:=⟨D'-1,by omega⟩
       simp only[encK,cond_true]
       rw[run_equalIn_struct w d t _ _ (by rw[hfo];exact hu) hst,hfo]
       exact(main w d (a0o ks k) k (by omega) hk (by simp)).2 (a0o ks l) l hl (by simp)
      ·intro w D' em k hD hk
       obtain⟨d,rfl⟩:∃d,D'=d+1:=⟨D'-1,by omega⟩
       have:=(main w d (a0o ks k) k (by omega) hk (by simp)).1 em
       simp only[encK,cond_true,Instr.checkKey,Sem.run_bind,run_underlying hu,Result.andThen_ok]
       rw[←Array.forIn_toList]
       exact(congrArg (fun r=>Result.andThen r fun _ w'=>Sem.run P (pure ()) w') this)
     ·cases h
    ·cases h
   ·cases h
  ·rename_i m e hk hkind
   split at h
   ·rename_i ks' hks
    simp only[cond_eq_ite,a0D] at h
    split at h
    ·rename_i hsz
     cases h
     obtain⟨i,d,hi,hu,hs,_,hkd,_,_⟩:=hE.info hk
     have hkd0:=hkd
     rw[hkd] at hkind
     have:d=.array m e:=by cases d<;>simp[a1o] at hkind;rw[hkind.1,hkind.2]
     subst this
     obtain⟨ka,hka,hf⟩:=flat_of hE D e ks' hks
     have hke:(E.ti e).known=true:=by
      cases D with
      |zero=>simp[kindsOf] at hks
      |succ D'=>
       unfold kindsOf at hks
       split at hks
       ·rename_i h1 _;exact h1
       ·rename_i h1 _;exact h1
       ·rename_i h1 _;exact h1
       ·cases hks
     obtain⟨ie,de,hie,_,hse,_⟩:=hE.info hke
     have hsize:i.size=(repK ks' m).length:=by rw[←hs,←a0f hsz.1,a1j]
     have hcells:P.cellsOf t=(repK ks' m).length:=by simp[Program.cellsOf,hi,hsize]
     have hsizee:ie.size=ks'.length:=by rw[←hse,←a0f hsz.2,a1j]
     have hcellse:P.cellsOf e=ks'.length:=by simp[Program.cellsOf,hie,hsizee]
     refine⟨true,by simp[TI.agg,hkd0,a1o],⟨fun w=>by simp[isAgg,run_underlying hu],fun _ w=>by rw[run_sizeOf w hi,hcells],(fun h=>by cases h),?_,?_⟩⟩
     ·intro w D' k l hD hk hl
      obtain⟨d,rfl⟩:∃d,D'=d+1:=⟨D'-1,by omega⟩
      simp only[encK,cond_true]
      rw[run_equalIn_array w d _ _ hu hie,hcellse,List.range_eq_range']
      exact(flat_items hf m 0 w d (a0o (repK ks' m) k) k (by omega) hk (by simp)).2 (a0o (repK ks' m) l) l hl (by simp)
     ·intro w D' em k hD hk
      obtain⟨d,rfl⟩:∃d,D'=d+1:=⟨D'-1,by omega⟩
      have:=(flat_items hf m 0 w d (a0o (repK ks' m) k) k (by omega) hk (by simp)).1 em ie hie hsizee
      simp only[encK,cond_true,Instr.checkKey,Sem.run_bind,run_underlying hu,Result.andThen_ok]
      simp only[Std.Legacy.Range.forIn_eq_forIn_range',Std.Legacy.Range.size,Nat.sub_zero,Nat.add_one_sub_one,Nat.div_one]
      exact(congrArg (fun r=>Result.andThen r fun _ w'=>Sem.run P (pure ()) w') this)
    ·cases h
   ·cases h
  ·cases h
/-! ### keys in a list of entries -/
theorem encK_inj {ks:List IntKind} {ka:Bool} {k l:List Int} (hf:ka=false→ks.length=1) (hk:k.length=ks.length) (hl:l.length=ks.length) (h:encK ks ka k=encK ks ka l):k=l:=by
 cases ka with
 |true=>
  simp only[encK,cond_true,Value.agg.injEq] at h
  exact keyVals_inj hk hl (by simpa using congrArg Array.toList h)
 |false=>
  have h1:=hf rfl
  obtain⟨q,rfl⟩:=a1K.1 h1
  obtain⟨a,rfl⟩:=a1K.1 hk
  obtain⟨b,rfl⟩:=a1K.1 hl
  simpa [encK,a0o] using h
theorem sameBits_vals:∀(ks:List IntKind) (k:List Int) (n:Nat),((a0o ks k).zip (a0o ks k)).all (fun(x,y)=>Instr.sameBits n x y)=true
 |[],k,n=>by simp[a0o]
 |_ :: _,[],n=>by simp[a0o]
 |q :: ks,a :: k,n=>by
  simp only[a0o,List.zip_cons_cons,List.all_cons,a0D]
  exact⟨by cases n<;>simp[Instr.sameBits],sameBits_vals ks k n⟩
theorem Flat.stays {D:Nat} {t:TypeId} {ks:List IntKind} {ka:Bool} (h:Flat P D t ks ka) {k:List Int} (hk:k.length=ks.length) (w:World):(Instr.keyThatStays (encK ks ka k) (encK ks ka k)).run P w=.ok (encK ks ka k) w:=by
 have:Instr.sameBits 10000 (encK ks ka k) (encK ks ka k)=true:=by
  cases ka with
  |true=>
   simp only[encK,cond_true]
   have:=sameBits_vals ks k 9999
   simp only[Instr.sameBits,beq_self_eq_true,Bool.true_and]
   exact this
  |false=>
   obtain⟨q,rfl⟩:=a1K.1 (h.flat rfl)
   obtain⟨a,rfl⟩:=a1K.1 hk
   simp[encK,a0o,Instr.sameBits]
 simp[Instr.keyThatStays,this]
theorem Flat.asking {D:Nat} {t:TypeId} {ks:List IntKind} {ka:Bool} (h:Flat P D t ks ka) (hD:D≤10000) {k:List Int} (hk:k.length=ks.length) (w:World):∀(es:List MapEntry) (i:Nat),(∀e∈es,∃l,l.length=ks.length∧e.key=encK ks ka l)→
  ((Instr.findAsking t (encK ks ka k) es i).run P w=.ok none w∧∀e∈es,e.key≠encK ks ka k)∨∃j e,(Instr.findAsking t (encK ks ka k) es i).run P w=.ok (some (i+j,e.val)) w∧es[j]? = some e∧e.key=encK ks ka k
 |[],i,_=>.inl ⟨by simp[Instr.findAsking],by simp⟩
 |e :: es,i,hall=>by
  obtain⟨l,hl,he⟩:=hall e (by simp)
  have heq:=h.equal w 10000 k l hD hk hl
  rw[←he] at heq
  have heq:(Op.equal t (encK ks ka k) e.key).run P w=.ok (decide (k=l)) w:=heq
  by_cases hkl:k=l
  ·subst hkl
   exact .inr ⟨0,e,by simp[Instr.findAsking,heq],rfl,he⟩
  ·have hne:e.key≠encK ks ka k:=fun hh=>hkl (encK_inj h.flat hk hl (hh.symm.trans he))
   rcases Flat.asking h hD hk w es (i+1) (fun x hx=>hall x (by simp[hx])) with⟨h1,h2⟩|⟨j,e',h1,h2,h3⟩
   ·left
    refine⟨by simp[Instr.findAsking,heq,hkl,h1],fun x hx=>?_⟩
    rcases a0Z.1 hx with rfl|hx
    ·exact hne
    ·exact h2 x hx
   ·right
    refine⟨j+1,e',?_,by simpa using h2,h3⟩
    simp[Instr.findAsking,heq,hkl,h1]
    omega
theorem Flat.find {D:Nat} {t:TypeId} {ks:List IntKind} {ka:Bool} (h:Flat P D t ks ka) (hD:D≤10000) {k:List Int} (hk:k.length=ks.length) (w:World) {d:TypeDesc} (hu:P.underlying t=some d) (hd:(ka=false∧∃q,ks=[q]∧d=.int q)∨((match d with|.array _ _|.struct _=>true|_=>false)=true)) (es:List MapEntry) (hes:∀e∈es,∃l,l.length=ks.length∧e.key=encK ks ka l) :
  ((Instr.findKey t (encK ks ka k) es).run P w=.ok none w∧∀e∈es,e.key≠encK ks ka k)∨∃j e,(Instr.findKey t (encK ks ka k) es).run P w=.ok (some (j,e.val)) w∧es[j]? = some e∧e.key=encK ks ka k:=by
 rcases hd with⟨rfl,q,rfl,rfl⟩|hd
 ·have key:∀l:List Int,l.length=1→MapKept.IsKey (.int q) (encK [q] false l):=by
   intro l hl
   obtain⟨a,rfl⟩:=a1K.1 hl
   simp[encK,a0o,MapKept.IsKey]
  rcases MapKept.findNow_spec (key k hk) es 0 (fun e he=>by obtain⟨l,hl,h1⟩:=hes e he;rw[h1];exact key l hl) with⟨h1,h2⟩|⟨j,e,h1,h2,h3⟩
  ·exact .inl ⟨MapKept.run_findKey hu h1,h2⟩
  ·exact .inr ⟨j,e,by simpa using MapKept.run_findKey hu h1,h2,h3⟩
 ·rw[run_findKey_eq w (by rw[hu];cases d<;>simp_all)]
  simpa using h.asking hD hk w es 0 hes
end Go.Sx
