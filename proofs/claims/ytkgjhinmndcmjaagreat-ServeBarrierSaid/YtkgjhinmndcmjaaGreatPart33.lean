/- Own work: texts of the proof of a law (SzSort). No condition. -/
import Derived.Sort.OwnSortedInts
import Derived.Test.YtkgjhinmndcmjaaGreatPart11
import Derived.Test.YtkgjhinmndcmjaaGreatPart0
set_option linter.unusedVariables false
set_option linter.unusedSimpArgs false
namespace Go.Sx
open Go
def SortsInt (P:Program) (g:FuncId):Prop:=∀(blk cap:Nat) (l:List Int) (w:World),Sort.Holds (Value.int .i64) w blk 0 l.toArray→blk<w.heap.size→l.length<4611686018427387904→
 Calls P g #[.slice (some ⟨blk,0,none⟩) l.length cap] w fun e w'=>e=.returned (.tuple #[])∧∃n os,w'=Sort.grow (Sort.putRow (Value.int .i64) (Sort.ahead w n) blk 0 (l.mergeSort fun x y=>decide (x≤y)).toArray) os
theorem row_vals {I:Nat→Prop} {w:World} {l:List Int} {xs:List Value} (hlen:xs.length=l.length*1) (h:∀i,i<l.length→DenL I [] w [.int .i64 (l.getD i 0)] ((xs.drop (i*1)).take 1)):xs=l.map (Value.int .i64):=by
 apply a1J
 intro j
 by_cases hj:j<l.length
 ·obtain⟨v,r,h1,h2,h3⟩:=h j hj
  have h3:r=[]:=h3
  have h2:v=.int .i64 (l.getD j 0):=h2
  subst h3 h2
  have:((xs.drop (j*1)).take 1)[0]? = some (.int .i64 (l.getD j 0)):=by rw[h1];rfl
  rw[a1U (by omega),a0R] at this
  rw[show j*1+0=j by omega] at this
  rw[this,a1O,a0C hj]
  simp[List.getD,a0C hj]
 ·rw[a0V (by omega),a0V (by simp;omega)]
theorem callee_sort {P:Program} {g:FuncId} (hp:Plain P g) (hs:SortsInt P g) {ty:TypeId} {l:List Int} {nz:Bool} (hl:0<l.length) (h62:l.length<4611686018427387904) :
  Callee P g [.osl 0 l.length] [.row ty 1 l.length (fun i=>[.int .i64 (l.getD i 0)]) nz] (fun v H=>v=.tup []∧H=[.row ty 1 l.length (fun i=>[.int .i64 ((l.mergeSort fun x y=>decide (x≤y)).getD i 0)]) nz]):=by
 unfold Callee
 refine⟨hp,fun I η w vals hS hd=>?_⟩
 obtain⟨v,r,rfl,⟨e,he,hne,rfl⟩,hr⟩:=hd
 have hr:r=[]:=hr
 subst hr
 obtain⟨xs,hown,hone,hnil,hel⟩:=hS.obj 0 e _ he rfl
 obtain⟨eb,ec⟩:=e
 cases eb with
 |none=>exact absurd (hne rfl).1 (by omega)
 |some b=>
 have hxs:=row_vals hown.1 hel
 subst hxs
 rcases hown.2 with⟨h0,_⟩|⟨b',cap,cur,hv,_,hheap,hncap,hcapm,hcur,htake⟩
 ·cases h0
 cases hv
 rw[Nat.mul_one] at htake
 have hb:b<w.heap.size:=(a0L.1 hheap).1
 refine(hs b ec l w (holds_of_blockI hheap (by rw[htake])) hb h62).mono ?_
 rintro e w' ⟨rfl,n,os,rfl⟩
 have hms:(l.mergeSort fun x y=>decide (x≤y)).length=l.length:=List.length_mergeSort _
 have hgr:=grownBy_sortedI (w:=w) (g:=b) (n:=n) (os:=os) (l.mergeSort fun x y=>decide (x≤y)).toArray
 have hro:=ownsRow_sortedI (n:=n) (os:=os) hms (Nat.zero_le b) hheap hncap hcapm (by simpa using hcur)
 have hself:own η [.row ty 1 l.length (fun i=>[.int .i64 (l.getD i 0)]) nz] b:=own_mk he rfl trivial
 have hownb:∀(k:Nat) (o:O),own η [o] k→o.live→(∀j,¬o.inner j)→k=b:=by
  rintro k o ⟨id,e2,o2,h1,h2,h3⟩ _ hin
  have:id=0:=by
   have:=(a0B.1 h2).1
   simp at this
   exact this
  subst this
  rw[he] at h1
  cases h1
  cases h2
  rcases h3 with⟨_,h3⟩|h3
  ·cases h3;rfl
  ·exact absurd h3 (hin _)
 generalize hw':Sort.grow (Sort.putRow (Value.int .i64) (Sort.ahead w n) b 0 (l.mergeSort fun x y=>decide (x≤y)).toArray) os=w' at hgr hro
 have hIb:∀k,I k→w'.heap[k]? = w.heap[k]?:=fun k hk=>hgr.block k (hS.ilt k hk) (fun h=>by cases h;exact hS.notI _ hself hk)
 have m:Mono I η w I η w':=⟨fun _ _ h _=>h,fun _ h=>h,hIb⟩
 refine⟨I,η,_,.tup [],_,rfl,⟨rfl,rfl⟩,⟨hS.len,?_,?_,?_,?_,fun k hk=>a1M (hS.ilt k hk) hgr.size⟩,⟨[],rfl,rfl⟩,m,⟨hgr.os,hgr.tape,hgr.output,hgr.size,fun k hk hk2=>hgr.block k hk (fun h=>by cases h;exact hk2 hself),fun _ h=>h,fun _ h=>.inl h,?_,fun _ _ h _=>h⟩⟩
 ·intro id e2 o h1 h2
  have:id=0:=by
   have:=(a0B.1 h2).1
   simp at this
   exact this
  subst this
  rw[he] at h1
  cases h1
  cases h2
  refine⟨_,hro,?_,⟨fun h=>(by cases h),fun h=>(by omega)⟩,?_⟩
  ·intro u hu
   obtain⟨x,_,rfl⟩:=a2V.1 hu
   rfl
  ·intro i hi
   refine⟨.int .i64 ((l.mergeSort fun x y=>decide (x≤y)).getD i 0),[],?_,rfl,rfl⟩
   rw[Nat.mul_one]
   have hi':i<(l.mergeSort fun x y=>decide (x≤y)).length:=by omega
   rw[List.take_one,List.head?_drop,a1O,a0C hi']
   simp[List.getD,a0C hi']
 ·intro id id' k e1 e2 o o' h1 h2 h3 h4 _ _
  have a1:=(a0B.1 h3).1
  have a2:=(a0B.1 h4).1
  simp at a1 a2
  omega
 ·intro k hk
  have:=hownb k _ hk trivial (fun _ h=>h)
  subst this
  exact hS.notI _ hself
 ·intro k hk
  have:=hownb k _ hk trivial (fun _ h=>h)
  subst this
  exact a1M hb hgr.size
 ·intro k hk
  have:=hownb k _ hk trivial (fun _ h=>h)
  subst this
  exact .inl hself
end Go.Sx
