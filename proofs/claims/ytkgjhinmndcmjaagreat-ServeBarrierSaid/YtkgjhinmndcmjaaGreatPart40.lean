/- Own work: texts of the proof of a law (SzRow). No condition. -/
import Derived.Deep.Slices
import Derived.ChangeSame
import Derived.Test.YtkgjhinmndcmjaaGreatPart11
import Derived.Test.YtkgjhinmndcmjaaGreatPart0
set_option linter.unusedVariables false
set_option linter.unusedSimpArgs false
namespace Go.Sx
open Go Go.ChangeShapes
inductive TS where
 |int (k:IntKind)
 |bool
 |slice (e:TS)
 |struct (fs:List TS)
mutual
def TS.Val:TS→Type
 |.int _=>Int
 |.bool=>Bool
 |.slice e=>List (TS.Val e)
 |.struct fs=>TS.Vals fs
def TS.Vals:List TS→Type
 |[]=>Unit
 |t :: l=>TS.Val t×TS.Vals l
end
mutual
def TS.size:TS→Nat
 |.int _=>1
 |.bool=>1
 |.slice _=>1
 |.struct fs=>TS.sizes fs
def TS.sizes:List TS→Nat
 |[]=>0
 |t :: l=>TS.size t+TS.sizes l
end
mutual
def TS.dflt:(t:TS)→TS.Val t
 |.int _=>(0:Int)
 |.bool=>false
 |.slice _=>[]
 |.struct fs=>TS.dflts fs
def TS.dflts:(l:List TS)→TS.Vals l
 |[]=>()
 |t :: l=>(TS.dflt t,TS.dflts l)
end
mutual
def TS.enc:(t:TS)→TS.Val t→List V
 |.int k,(n:Int)=>[.int k n]
 |.bool,(b:Bool)=>[.prop (b=true) inferInstance]
 |.slice e,(l:List (TS.Val e))=>[.sl (TS.size e) l.length (a0e (TS.enc e) (TS.dflt e) l)]
 |.struct fs,x=>TS.encs fs x
def TS.encs:(l:List TS)→TS.Vals l→List V
 |[],_=>[]
 |t :: l,x=>app (TS.enc t x.1) (TS.encs l x.2)
end
mutual
def TS.wf:(t:TS)→TS.Val t→Prop
 |.int k,(n:Int)=>k.min≤n∧n≤k.max
 |.bool,_=>True
 |.slice e,(l:List (TS.Val e))=>l.length≤maxLen∧∀x∈l,TS.wf e x
 |.struct fs,x=>TS.wfs fs x
def TS.wfs:(l:List TS)→TS.Vals l→Prop
 |[],_=>True
 |t :: l,x=>TS.wf t x.1∧TS.wfs l x.2
end
mutual
def TS.ok (P:Program):TS→TypeId→Bool
 |.int k,t=>(match P.underlying t with|some (.int k')=>decide (k'=k)|_=>false) && Nat.beq (P.cellsOf t) 1
 |.bool,t=>(match P.underlying t with|some .bool=>true|_=>false) && Nat.beq (P.cellsOf t) 1
 |.slice e,t=>(match P.underlying t with|some (.slice u)=>TS.ok P e u && Nat.ble 1 (TS.size e)|_=>false) && Nat.beq (P.cellsOf t) 1
 |.struct fs,t=>(match P.underlying t with|some (.struct F)=>TS.oks P fs 0 F.toList|_=>false) && Nat.beq (P.cellsOf t) (TS.sizes fs)
def TS.oks (P:Program):List TS→Nat→List Field→Bool
 |[],_,F=>F.isEmpty
 |s :: l,o,F=>match F with
  |f :: r=>Nat.beq f.offset o && TS.ok P s f.type && TS.oks P l (o+TS.size s) r
  |[]=>false
end
variable {P:Program}
theorem TS.ok_size:∀{s:TS} {t:TypeId},s.ok P t=true→P.cellsOf t=s.size
 |.int _,t,h=>by simp only[TS.ok,a0D] at h;exact a0f h.2
 |.bool,t,h=>by simp only[TS.ok,a0D] at h;exact a0f h.2
 |.slice _,t,h=>by simp only[TS.ok,a0D] at h;exact a0f h.2
 |.struct _,t,h=>by simp only[TS.ok,a0D] at h;exact a0f h.2
section
variable {H:Type} {enc:TypeId×Value→H} {w:World} {sp:Nat→Bool} {held:Bool}
def allB (w:World) (b:Nat):Prop:=b<w.heap.size
mutual
theorem TS.rd (hsp:∀b,sp b=true):∀(s:TS) (fuel:Nat) (t:TypeId) (cs:List Value) (x:DataW H×List MemPlace),s.ok P t=true→DataW.trod enc P w 0 sp held fuel t cs=some x→
  ∃y:s.Val,s.wf y∧DenL (allB w) [] w (s.enc y) cs∧cs.length=s.size∧∀u∈cs,u.oneCell'=true
 |.int k,fuel,t,cs,x,hok,h=>by
  simp only[TS.ok,a0D] at hok
  have hu:P.underlying t=some (.int k):=by
   have:=hok.1
   split at this
   ·rename_i k' hk';rw[hk',of_decide_eq_true this]
   ·cases this
  cases fuel with
  |zero=>simp[DataW.trod] at h
  |succ n=>
   unfold DataW.trod at h
   rw[hu] at h
   split at h<;>simp_all
   rename_i m
   obtain⟨⟨rfl,hwf⟩,_⟩:=h
   exact⟨(m:Int),by simpa [TS.wf,Lit.wf] using hwf,⟨_,[],rfl,rfl,rfl⟩,rfl,rfl⟩
 |.bool,fuel,t,cs,x,hok,h=>by
  simp only[TS.ok,a0D] at hok
  have hu:P.underlying t=some .bool:=by
   have:=hok.1
   split at this
   ·rename_i hk';exact hk'
   ·cases this
  cases fuel with
  |zero=>simp[DataW.trod] at h
  |succ n=>
   unfold DataW.trod at h
   rw[hu] at h
   split at h<;>simp_all
   rename_i b
   exact⟨(b:Bool),by simp[TS.wf],⟨_,[],rfl,by simp[Den],rfl⟩,rfl,rfl⟩
 |.slice e,fuel,t,cs,x,hok,h=>by
  simp only[TS.ok,a0D] at hok
  obtain⟨u,hu,hoe,hs1⟩:∃u,P.underlying t=some (.slice u)∧e.ok P u=true∧1≤e.size:=by
   have:=hok.1
   split at this
   ·rename_i u hk';simp only[a0D] at this;exact⟨u,hk',this.1,a0P this.2⟩
   ·cases this
  have hC:=TS.ok_size hoe
  rcases Deep.open_slice hu h with⟨rfl,_⟩|⟨a,len,cap,m,n,D,Pl,rfl,_,hlc,hcm,hm,_,hi⟩
  ·exact⟨([]:List e.Val),⟨a1X _,fun _ h=>by simp at h⟩,⟨_,[],rfl,.inl ⟨rfl,none,0,rfl⟩,rfl⟩,rfl,by simp[Value.oneCell']⟩
  ·rw[hsp a.block] at hm
   simp only[if_true] at hm
   subst hm
   rw[hC] at hi
   have hx:∀i,i<len→∃y:e.Val,e.wf y∧∃cs',w.cells? 0 (a.add (i*e.size)) e.size=some cs'∧DenL (allB w) [] w (e.enc y) cs'∧∀u∈cs',u.oneCell'=true:=by
    intro i hil
    obtain⟨cs',h1,h2⟩:=hi i (by omega)
    obtain⟨y,g1,g2,_,g4⟩:=TS.rd hsp e n u cs' _ hoe h2
    exact⟨y,g1,cs',h1,g2,g4⟩
   let f:Nat→e.Val:=fun i=>@dite _ (i<len) inferInstance (fun h=>(hx i h).choose) (fun _=>e.dflt)
   have hf:∀i (h:i<len),f i=(hx i h).choose:=fun i h=>by simp only[f];rw[dif_pos h]
   refine⟨((List.range len).map f:List e.Val),⟨by simp;omega,fun y hy=>?_⟩,⟨_,[],rfl,?_,rfl⟩,rfl,by simp[Value.oneCell']⟩
   ·obtain⟨i,hi',rfl⟩:=a2V.1 hy
    have hlt:=a1F.1 hi'
    rw[hf i hlt]
    exact(hx i hlt).choose_spec.1
   ·by_cases h0:len=0
    ·subst h0;exact .inl ⟨rfl,_,_,rfl⟩
    ·have hcell:∃v,w.cell? a=some v:=by
      obtain⟨cs',h1,_⟩:=hi 0 (by omega)
      obtain⟨_,h3,h4⟩:=World.cells?_some h1
      have:=h4 0 (by omega)
      rw[a0C (by omega)] at this
      simp only[Nat.zero_mul,Addr.add,if_true] at this
      exact⟨_,this⟩
     obtain⟨v,hv⟩:=hcell
     obtain⟨ab,ao,asp⟩:=a
     have hsn:asp=none:=by
      unfold World.cell? at hv
      split at hv
      ·split at hv
       ·cases hv
       ·rename_i h5;simpa using h5
      ·cases hv
     subst hsn
     have hab:ab<w.heap.size:=by
      unfold World.cell? at hv
      split at hv
      ·rename_i hh;exact(a0L.1 hh).1
      ·cases hv
     refine .inr ⟨ab,ao,_,by simp;rfl,hab,by simp;exact hlc,fun i hil=>?_⟩
     have hil:i<len:=by simpa using hil
     obtain⟨h1,cs',h2,h3,h4⟩:=(hx i hil).choose_spec
     obtain⟨_,h6,h7⟩:=World.cells?_some h2
     refine⟨cs',h6,fun j v hj=>?_,h4,?_⟩
     ·have hjl:j<e.size:=by rw[←h6];exact(a0B.1 hj).1
      have:=h7 j hjl
      rw[hj] at this
      rw[←this]
      simp only[Addr.add_none]
      congr 2
      omega
     ·have:a0e (TS.enc e) (TS.dflt e) ((List.range len).map f) i=TS.enc e (hx i hil).choose:=by
       unfold a0e
       rw[a0A,a1O,List.getElem?_range hil]
       simp[hf i hil]
      rw[this]
      exact h3
 |.struct fs,fuel,t,cs,x,hok,h=>by
  simp only[TS.ok,a0D] at hok
  obtain⟨F,hu,hF⟩:∃F,P.underlying t=some (.struct F)∧TS.oks P fs 0 F.toList=true:=by
   have:=hok.1
   split at this
   ·rename_i F hk';exact⟨F,hk',this⟩
   ·cases this
  obtain⟨xs,n,_,_,hl,_,hf⟩:=DataW.trod_struct hu h
  rw[a0f hok.2] at hl
  obtain⟨y,h1,h2,h3⟩:=TS.rds hsp fs n 0 F.toList cs hF (by omega) (fun i f hi=>by
   have hi':F[i]? = some f:=by simpa using hi
   have hlt:=(a0L.1 hi').1
   have:=hf i f hi'
   exact⟨_,this.trans (a0C (by omega))⟩)
  simp only[List.drop_zero] at h2 h3
  rw[a3N (by omega)] at h2 h3
  exact⟨y,h1,h2,hl,h3⟩
theorem TS.rds (hsp:∀b,sp b=true):∀(fs:List TS) (n o:Nat) (F:List Field) (cs:List Value),TS.oks P fs o F=true→o+TS.sizes fs≤cs.length→(∀(i:Nat) (f:Field),F[i]? = some f→∃x,DataW.trod enc P w 0 sp held n f.type ((cs.drop f.offset).take (P.cellsOf f.type))=some x)→
  ∃y:TS.Vals fs,TS.wfs fs y∧DenL (allB w) [] w (TS.encs fs y) ((cs.drop o).take (TS.sizes fs))∧∀u∈(cs.drop o).take (TS.sizes fs),u.oneCell'=true
 |[],n,o,F,cs,_,_,_=>⟨(),trivial,by simp[TS.encs,TS.sizes,DenL],by simp[TS.sizes]⟩
 |s :: l,n,o,F,cs,hok,hl,hF=>by
  simp only[TS.oks] at hok
  split at hok
  ·rename_i f r
   simp only[a0D] at hok
   obtain⟨⟨h1,h2⟩,h3⟩:=hok
   have ho:=a0f h1
   simp only[TS.sizes] at hl
   obtain⟨x,hx⟩:=hF 0 f rfl
   rw[TS.ok_size h2,ho] at hx
   obtain⟨y,g1,g2,g3,g4⟩:=TS.rd hsp s n f.type _ x h2 hx
   obtain⟨ys,k1,k2,k3⟩:=TS.rds hsp l n (o+s.size) r cs h3 (by omega) (fun i f' hi=>hF (i+1) f' (by simpa using hi))
   have hsplit:(cs.drop o).take (s.size+TS.sizes l)=(cs.drop o).take s.size++(cs.drop (o+s.size)).take (TS.sizes l):=by
    rw[List.take_add,a3R]
   refine⟨(y,ys),⟨g1,k1⟩,?_,?_⟩
   ·simp only[TS.encs,TS.sizes]
    rw[a2n,hsplit]
    exact g2.append k2
   ·simp only[TS.sizes]
    rw[hsplit]
    intro u hu
    rcases a0U.1 hu with hu|hu
    ·exact g4 u hu
    ·exact k3 u hu
  ·cases hok
end
end
end Go.Sx
