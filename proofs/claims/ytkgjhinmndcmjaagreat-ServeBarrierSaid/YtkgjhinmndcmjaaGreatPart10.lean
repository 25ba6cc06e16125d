/- Own work: texts of the proof of a law (SzSide). No condition. -/
import Derived.RangeFuncLeaves
import Derived.RangeFuncRecord
import Derived.Test.YtkgjhinmndcmjaaGreatPart9
import Derived.Test.YtkgjhinmndcmjaaGreatPart0
namespace Go.Sx
open Go
variable {P:Program} {E:Env}
theorem Sat.aside {I:Nat→Prop} {η:Eta} {w:World} {H:List O} (h:Sat I η w H) (ob:Obj) :
  Sat I η (w.alloc ob) H∧Mono I η w I η (w.alloc ob)∧Step I (own η H) w I (own η H) (w.alloc ob):=by
 have hblk:∀b,b<w.heap.size→(w.alloc ob).heap[b]? = w.heap[b]?:=by
  intro b hb
  rw[World.alloc_heap,a3E]
  have:b≠w.heap.size:=by omega
  simp[this]
 have m:Mono I η w I η (w.alloc ob):=⟨fun _ _ he _=>he,fun _ hb=>hb,fun b hb=>hblk b (h.ilt b hb)⟩
 have hsz:(w.alloc ob).heap.size=w.heap.size+1:=by rw[World.alloc_heap];simp
 refine⟨⟨h.len,fun id e o he ho=>(h.obj id e o he ho).mono m (fun b hb=>hblk b (h.lt b ⟨id,e,o,he,ho,hb⟩)),h.apart,h.notI,fun b hb=>by rw[hsz];have:=h.lt b hb;omega,fun b hb=>by rw[hsz];have:=h.ilt b hb;omega⟩,m,
  ⟨rfl,rfl,rfl,by rw[hsz];omega,fun b hb _=>hblk b hb,fun _ hb=>hb,fun _ hb=>.inl hb,fun _ hb=>.inl hb,m.eta⟩⟩
theorem Sat.putAside {I:Nat→Prop} {η:Eta} {w:World} {H:List O} (h:Sat I η w H) {b:Nat} (ob:Obj) (hI:¬I b) (ho:¬own η H b):Sat I η (w.putObj b ob) H∧Mono I η w I η (w.putObj b ob):=by
 have m:Mono I η w I η (w.putObj b ob):=⟨fun _ _ he _=>he,fun _ hb=>hb,fun k hk=>World.putObj_heap_other (fun e=>hI (e▸hk))⟩
 refine⟨⟨h.len,fun id e o he ho'=>(h.obj id e o he ho').mono m (fun k hb=>World.putObj_heap_other (fun g=>ho (g▸⟨id,e,o,he,ho',hb⟩))),h.apart,h.notI,fun b hb=>by rw[World.putObj_size];exact h.lt b hb,fun b hb=>by rw[World.putObj_size];exact h.ilt b hb⟩,m⟩
theorem Sat.kill {I:Nat→Prop} {η:Eta} {w:World} {H:List O} (h:Sat I η w H) {id b c:Nat} {o:O} (hη:η[id]? = some (some b,c)) (hH:H[id]? = some o) (hl:o.live) (ob:Obj) :
  Sat I η (w.putObj b ob) (H.set id .gone)∧Mono I η w I η (w.putObj b ob)∧Step I (own η H) w I (own η (H.set id .gone)) (w.putObj b ob):=
 h.turnG hη hH (fun k hk=>(O.has_live hk).elim) rfl rfl rfl (by simp) (fun k hk=>World.putObj_heap_other (fun e=>hk (.inl ⟨hl,by rw[e]⟩))) (fun _=>trivial)
def mark (D:Nat):Deferred:={target:=.collected D,args:=#[]}
structure Marks (N:Nat) (I:Nat→Prop) (W:Own) (w:World) (Ds:List Nat):Prop where
 nodup:Ds.Nodup
 all:∀D∈Ds,N≤D∧w.heap[D]? = some (.deferred (some []))∧¬W D∧¬I D
theorem Marks.nil (N:Nat) (I:Nat→Prop) (W:Own) (w:World):Marks N I W w []:=⟨List.nodup_nil,fun _ h=>by simp at h⟩
theorem Marks.step {N:Nat} {I I':Nat→Prop} {W W':Own} {w w':World} {B:Nat} {Ds:List Nat} (h:Marks N I W w Ds) (s:StepB B I W w I' W' w'):Marks N I' W' w' Ds:=
 ⟨h.nodup,fun D hD=>by
  obtain⟨h1,h2,h3,h4⟩:=h.all D hD
  have hlt:D<w.heap.size:=(a0L.1 h2).1
  refine⟨h1,by rw[s.block D hlt h3];exact h2,fun hW=>?_,fun hI=>?_⟩
  ·rcases s.wnew D hW with h|h
   ·exact h3 h
   ·omega
  ·rcases s.inew D hI with h|h|h
   ·exact h4 h
   ·exact h3 h
   ·omega⟩
theorem Marks.append {N N':Nat} {I:Nat→Prop} {W:Own} {w:World} {Ds Ds':List Nat} (h:Marks N I W w Ds) (h':Marks N' I W w Ds') (hN:N≤N') (hlt:∀D∈Ds,D<N'):Marks N I W w (Ds'++Ds):=
 ⟨List.nodup_append.2 ⟨h'.nodup,h.nodup,fun a ha b hb e=>by subst e;have:=(h'.all a ha).1;have:=hlt a hb;omega⟩,fun D hD=>by
  rcases a0U.1 hD with hD|hD
  ·obtain⟨h1,h2⟩:=h'.all D hD;exact⟨a3S hN h1,h2⟩
  ·exact h.all D hD⟩
theorem Marks.lt {N:Nat} {I:Nat→Prop} {W:Own} {w:World} {Ds:List Nat} (h:Marks N I W w Ds):∀D∈Ds,D<w.heap.size:=fun D hD=>(a0L.1 (h.all D hD).2.1).1
def plainC:Code→Bool
 |.rangeFunc _ _ _ _=>false
 |.seq a b=>plainC a && plainC b
 |.cond _ a b=>plainC a && plainC b
 |.block _ c=>plainC c
 |.loop c=>plainC c
 |.scope c=>plainC c
 |_=>true
def AfterM (B:Nat) (I:Nat→Prop) (W:Own) (w:World) (ds:List Deferred) (K:KT) (a':Act) (w':World):Prop:=
 ∃I' η' T' H' Ds,a'.defers=List.map mark Ds++ds∧Marks w.heap.size I' (own η' H') w' Ds∧K T' H'∧Good I' η' w' T' H' a'∧StepB B I W w I' (own η' H') w'
theorem a1r.toM {B:Nat} {I:Nat→Prop} {W:Own} {w:World} {ds:List Deferred} {K:KT} {a':Act} {w':World} (h:a1r (StepB B) I W w ds K a' w'):AfterM B I W w ds K a' w':=by
 obtain⟨h1,I',η',T',H',h2,h3,h4⟩:=h
 exact⟨I',η',T',H',[],by simpa using h1,Marks.nil _ _ _ _,h2,h3,h4⟩
theorem AfterM.trans {B:Nat} {I I':Nat→Prop} {W W':Own} {w w' w'':World} {ds:List Deferred} {K:KT} {a' a'':Act} {Ds:List Nat}
  (hd:a'.defers=List.map mark Ds++ds) (hm:Marks w.heap.size I' W' w' Ds) (hs:StepB B I W w I' W' w') (h:AfterM B I' W' w' a'.defers K a'' w''):AfterM B I W w ds K a'' w'':=by
 obtain⟨I2,η2,T2,H2,Ds2,h1,h2,h3,h4,h5⟩:=h
 refine⟨I2,η2,T2,H2,Ds2++Ds,by rw[h1,hd,List.map_append,a1P],(hm.step h5).append h2 hs.size hm.lt,h3,h4,hs.trans h5⟩
end Go.Sx
