/- Own work: texts of the proof of a law (Gk3, Gk4, GwK0, GwK, SySort, GwM0). No condition. -/
import Derived.Test.YtbdcjkcmpcdipaaGreatPart25
import Derived.Shelf.SlSortCmp.Whole1
import Derived.Sort.OwnSortedInts
set_option linter.unusedVariables false
set_option linter.unusedSimpArgs false
namespace Go.Sx
open Go Go.Sort Go.Proofs Go.Proofs.Ho
set_option maxRecDepth 100000
set_option maxHeartbeats 4000000
def GoodV (I:Nat→Prop) (w:World) (k:Nat) (p:C6×Value):Prop:=Den I [] w (.sl 1 k (fun b=>[.int .i64 (p.1.get b)])) p.2∧∃b o cap,p.2=.slice (some ⟨b,o,none⟩) k cap∧I b∧k≤cap∧∀j,j<k→w.cell? ⟨b,o+j,none⟩=some (.int .i64 (p.1.get j))
theorem goodL {Q:C6×Value→Prop}:∀(L:List C6) (xs:List Value),xs.length=L.length→(∀i (h1:i<L.length) (h2:i<xs.length),Q (L[i],xs[i]))→∃ds:List {p // Q p},ds.map (fun p=>p.1.1)=L∧ds.map (fun p=>p.1.2)=xs
 |[],[],_,_=>⟨[],rfl,rfl⟩
 |[],_ :: _,h,_=>by simp at h
 |_ :: _,[],h,_=>by simp at h
 |c :: L,v :: xs,h,hq=>by
  obtain⟨ds,h1,h2⟩:=goodL L xs (by simpa using h) fun i a b=>hq (i+1) (by simpa using a) (by simpa using b)
  exact⟨⟨(c,v),hq 0 (by simp) (by simp)⟩ :: ds,by simp[h1],by simp[h2]⟩
def CmpOk (P:Program) (cb:FuncId) (cf:List Int→List Int→Int):Prop:=∀(xs ys:List Int) (b1 o1 c1 b2 o2 c2:Nat) (w:World),ys.length=xs.length→xs.length≤1000000→
 (∀j,j<xs.length→w.cell? ⟨b1,o1+j,none⟩=some (.int .i64 xs[j]!))→(∀j,j<xs.length→w.cell? ⟨b2,o2+j,none⟩=some (.int .i64 ys[j]!))→
 Calls P cb #[.slice (some ⟨b1,o1,none⟩) xs.length c1,.slice (some ⟨b2,o2,none⟩) xs.length c2] w fun e w'=>e=.returned (.int .i64 (cf xs ys))∧w'=w
def SortsF (P:Program) (g cb:FuncId):Prop:=∀(α:Type) [Inhabited α] (enc:α→Value) (_:OneCell enc) (cf:α→α→Int) (_:SWO (ltOf cf)) (blk cap:Nat) (d:Array α) (w:World),CmpLays1 P cb #[] enc cf blk 0 d.size w→Holds enc w blk 0 d→blk<w.heap.size→d.size<4611686018427387904→
 Calls P g #[.slice (some ⟨blk,0,none⟩) d.size cap,.func (.func cb) #[] #[]] w fun e w'=>e=.returned (.tuple #[])∧∃d' n os,PermIn 0 d.size d d'∧SortedIn (ltOf cf) 0 d.size d'∧w'=sortWorld enc w blk 0 n d' os
theorem callee_sortF {P:Program} {g cb:FuncId} (hp:Plain P g) (hs:SortsF P g cb) {cf:List Int→List Int→Int} (hc:CmpOk P cb cf) {k:Nat} (hk:0<k∧k≤6) (hO:SWO (ltOf fun x y:C6=>cf (a0r x k) (a0r y k)))
  {ty:TypeId} {L:List C6} (hl:0<L.length) (h62:L.length<4611686018427387904) :
  Callee P g [.osl 0 L.length,.fn (.func cb) [] []] [.row ty 1 L.length (a0u (fun c=>[.sl 1 k (fun b=>[.int .i64 (c.get b)])]) (C6.all 0) L) true]
   (fun v H=>v=.tup []∧∃L':List C6,L'.Perm L∧L'.Pairwise (fun x y=>¬cf (a0r y k) (a0r x k)<0)∧H=[.row ty 1 L.length (a0u (fun c=>[.sl 1 k (fun b=>[.int .i64 (c.get b)])]) (C6.all 0) L') true]):=by
 unfold Callee
 refine⟨hp,fun I η w vals hS hd=>?_⟩
 obtain⟨v,r,rfl,⟨e,he,hne,rfl⟩,v2,r2,rfl,⟨aa,bs,rfl,has,hbs⟩,hr⟩:=hd
 have hr:r2=[]:=hr
 have has:aa=[]:=has
 have hbs:bs=[]:=hbs
 subst hr has hbs
 obtain⟨xs,hown,hone,hnil,hel⟩:=hS.obj 0 e _ he rfl
 obtain⟨eb,ec⟩:=e
 cases eb with
 |none=>exact absurd (hne rfl).1 (by omega)
 |some b=>
 have hxl:xs.length=L.length:=by have:=hown.1;omega
 have hgood:∀i (h1:i<L.length) (h2:i<xs.length),GoodV I w k (L[i],xs[i]):=by
  intro i h1 h2
  have hd:=hel i h1
  obtain⟨v,r,hv,hd1,hr⟩:=hd
  have hr:r=[]:=hr
  subst hr
  have hvx:v=xs[i]:=by
   have:((xs.drop (i*1)).take 1)[0]? = some v:=by rw[hv];rfl
   rw[a3S (by omega),a0S,a3T,a2S,a0D h2] at this
   exact(a1V this).symm
  subst hvx
  have eL:L.getD i (C6.all 0)=L[i]:=by simp[a0A,h1]
  rw[eL] at hd1
  refine⟨hd1,?_⟩
  rcases hd1 with⟨h0,_⟩|⟨b',o,cap,hv',hI,hcap,hcell⟩
  ·omega
  ·refine⟨b',o,cap,hv',hI,hcap,fun j hj=>?_⟩
   obtain⟨vs,g1,g2,_,g4⟩:=hcell j hj
   obtain⟨u,r,rfl,hu,hr⟩:=g4
   have hu:u=.int .i64 (L[i].get j):=hu
   have:=g2 0 u rfl
   rw[hu] at this
   simpa using this
 obtain⟨ds,hd1,hd2⟩:=goodL (Q:=GoodV I w k) L xs hxl hgood
 have hdl:ds.length=L.length:=by rw[←hd1,a2M]
 haveI:Inhabited {p // GoodV I w k p}:=⟨ds[0]'(by omega)⟩
 rcases hown.2 with⟨h0,_⟩|⟨b',cap,cur,hv,_,hheap,hncap,hcapm,hcur,htake⟩
 ·cases h0
 cases hv
 rw[a3T] at htake
 have hb:b<w.heap.size:=(a0K.1 hheap).1
 have hself:own η [.row ty 1 L.length (a0u (fun c=>[.sl 1 k (fun b=>[.int .i64 (c.get b)])]) (C6.all 0) L) true] b:=own_mk he rfl trivial
 have hIne:∀b',I b'→b'≠b:=fun b' hI q=>hS.notI _ hself (q▸hI)
 have hone:OneCell (fun p:{p // GoodV I w k p}=>p.1.2):=fun p=>by
  obtain⟨⟨c,v⟩,_,b',o,cap,hv,_⟩:=p
  show v.oneCell'=true
  rw[show v=_ from hv]
  rfl
 have hcells:∀(m:Nat) (os:Array Obj) (dk:Array {p // GoodV I w k p}) (b' o:Nat),I b'→(sortWorld (fun p:{p // GoodV I w k p}=>p.1.2) w b 0 m dk os).cell? ⟨b',o,none⟩=w.cell? ⟨b',o,none⟩:=by
  intro m os dk b' o hI
  have hgr:=grownBy_sortedE (enc:=fun p:{p // GoodV I w k p}=>p.1.2) (w:=w) (g:=b) (n:=m) (os:=os) dk
  exact World.cell?_of_block (hgr.block b' (hS.ilt b' hI) (fun h=>hIne b' hI (a1V h)))
 have hlay:CmpLays1 P cb #[] (fun p:{p // GoodV I w k p}=>p.1.2) (fun x y=>cf (a0r x.1.1 k) (a0r y.1.1 k)) b 0 ds.toArray.size w:=by
  intro m os dk _ x y
  obtain⟨⟨cx,vx⟩,_,b1,o1,c1,hx,hI1,_,hx2⟩:=x
  obtain⟨⟨cy,vy⟩,_,b2,o2,c2,hy,hI2,_,hy2⟩:=y
  dsimp only at hx hy hx2 hy2 ⊢
  subst hx hy
  have hfl:∀c:C6,(a0r c k).length=k:=fun c=>by simp[a0r]
  have hfg:∀(c:C6) j,j<k→(a0r c k)[j]! = c.get j:=fun c j hj=>by simp[a0r,hj]
  have:=hc (a0r cx k) (a0r cy k) b1 o1 c1 b2 o2 c2 (sortWorld (fun p:{p // GoodV I w k p}=>p.1.2) w b 0 m dk os) (by rw[hfl,hfl]) (by rw[hfl];omega)
   (fun j hj=>by rw[hfl] at hj;rw[hcells _ _ _ _ _ hI1,hx2 j hj,hfg _ _ hj]) (fun j hj=>by rw[hfl] at hj;rw[hcells _ _ _ _ _ hI2,hy2 j hj,hfg _ _ hj])
  rw[hfl] at this
  refine this.mono ?_
  rintro e w' ⟨he,rfl⟩
  exact⟨he,0,#[],by rw[grow_empty];rfl⟩
 have hO':SWO (ltOf fun x y:{p // GoodV I w k p}=>cf (a0r x.1.1 k) (a0r y.1.1 k)):=⟨fun x=>hO.irrefl x.1.1,fun x y z=>hO.trans x.1.1 y.1.1 z.1.1,fun x y z=>hO.ntrans x.1.1 y.1.1 z.1.1⟩
 have hholds:Holds (fun p:{p // GoodV I w k p}=>p.1.2) w b 0 ds.toArray:=holds_of_blockE hheap (by rw[hdl,htake,hd2])
 have hcall:=hs {p // GoodV I w k p} (fun p=>p.1.2) hone _ hO' b ec ds.toArray w hlay hholds hb (by simpa [hdl] using h62)
 have hsz:ds.toArray.size=L.length:=by simp[hdl]
 rw[hsz] at hcall
 refine hcall.mono ?_
 rintro e w' ⟨rfl,d',n,os,hperm,hsrt,rfl⟩
 obtain⟨dl,rfl⟩:∃dl:List {p // GoodV I w k p},d'=dl.toArray:=⟨d'.toList,by simp⟩
 have hms:dl.length=ds.length:=by simpa using hperm.1
 have hpl:dl.Perm ds:=by
  have h:=hperm.2.2
  simp only[List.extract_toArray,List.extract_eq_drop_take',List.drop_zero] at h
  rwa [a3O (by omega),a3O (by omega)] at h
 have hpw:(dl.map (fun p=>p.1.1)).Pairwise (fun x y=>¬cf (a0r y k) (a0r x k)<0):=by
  rw[a1P,a2C]
  intro i j hi hj hij
  have:=hsrt i j (a2A _) hij (by omega)
  unfold ltOf at this
  rw[decide_eq_false_iff_not] at this
  simpa [hi,hj] using this
 have hgr:=grownBy_sortedE (enc:=fun p:{p // GoodV I w k p}=>p.1.2) (w:=w) (g:=b) (n:=n) (os:=os) dl.toArray
 have hro:=ownsRow_sortedE (enc:=fun p:{p // GoodV I w k p}=>p.1.2) (n:=n) (os:=os) hms (Nat.zero_le b) hheap (by rw[hdl];exact hncap) hcapm (by simpa using hcur)
 have hownb:∀(k:Nat) (o:O),own η [o] k→o.live→(∀j,¬o.inner j)→k=b:=by
  rintro k o ⟨id,e2,o2,h1,h2,h3⟩ _ hin
  have:id=0:=by
   have:=(a0B.1 h2).1
   simp at this
   exact this
  subst this
  rw[he] at h1
  cases h1
  cases h2
  rcases h3 with⟨_,h3⟩|h3
  ·cases h3;rfl
  ·exact absurd h3 (hin _)
 change World.grownBy w (sortWorld (fun p:{p // GoodV I w k p}=>p.1.2) w b 0 n dl.toArray os) (some b) at hgr
 change World.ownsRow (sortWorld (fun p:{p // GoodV I w k p}=>p.1.2) w b 0 n dl.toArray os) _ _ _ _ _ _ at hro
 generalize sortWorld (fun p:{p // GoodV I w k p}=>p.1.2) w b 0 n dl.toArray os=w' at hgr hro
 have hIb:∀k,I k→w'.heap[k]? = w.heap[k]?:=fun k hk=>hgr.block k (hS.ilt k hk) (fun h=>by cases h;exact hS.notI _ hself hk)
 have m:Mono I η w I η w':=⟨fun _ _ h _=>h,fun _ h=>h,hIb⟩
 have m0:Mono I [] w I [] w':=⟨fun _ _ h _=>h,fun _ h=>h,hIb⟩
 refine⟨I,η,_,.tup [],_,rfl,⟨rfl,dl.map (fun p=>p.1.1),by rw[←hd1];exact hpl.map _,hpw,rfl⟩,⟨hS.len,?_,?_,?_,?_,fun k hk=>a0Y (hS.ilt k hk) hgr.size⟩,⟨[],rfl,rfl⟩,m,⟨hgr.os,hgr.tape,hgr.output,hgr.size,fun k hk hk2=>hgr.block k hk (fun h=>by cases h;exact hk2 hself),fun _ h=>h,fun _ h=>.inl h,?_,fun _ _ h _=>h⟩⟩
 ·intro id e2 o h1 h2
  have:id=0:=by
   have:=(a0B.1 h2).1
   simp at this
   exact this
  subst this
  rw[he] at h1
  cases h1
  cases h2
  rw[hdl] at hro
  refine⟨_,hro,?_,⟨fun h=>(by cases h),fun h=>(by omega)⟩,?_⟩
  ·intro u hu
   obtain⟨x,_,rfl⟩:=a1C.1 hu
   exact hone x
  ·intro i hi
   have hi':i<dl.length:=by omega
   refine⟨dl[i].1.2,[],?_,?_,rfl⟩
   ·rw[a3T,List.take_one,List.head?_drop,a2G,a0D hi']
    rfl
   ·have e:(dl.map fun p=>p.1.1).getD i (C6.all 0)=dl[i].1.1:=by simp[a0A,hi']
    show Den I [] w' (.sl 1 k (fun b=>[.int .i64 (((dl.map fun p=>p.1.1).getD i (C6.all 0)).get b)])) _
    rw[e]
    exact Den.mono m0 _ _ dl[i].2.1
 ·intro id id' k e1 e2 o o' h1 h2 h3 h4 _ _
  have a1:=(a0B.1 h3).1
  have a2:=(a0B.1 h4).1
  simp at a1 a2
  omega
 ·intro k hk
  have:=hownb k _ hk trivial (fun _ h=>h)
  subst this
  exact hS.notI _ hself
 ·intro k hk
  have:=hownb k _ hk trivial (fun _ h=>h)
  subst this
  exact a0Y hb hgr.size
 ·intro k hk
  have:=hownb k _ hk trivial (fun _ h=>h)
  subst this
  exact .inl hself
end Go.Sx
namespace Go.Proofs
open Go Go.Shelf
set_option maxRecDepth 100000
set_option maxHeartbeats 40000000
def Tryz.laysF_ren:Go.Shelf.Ren:=⟨fun|6=>89|15=>74|14=>121|28=>112|29=>113|20=>154|21=>155|22=>156|23=>157|24=>158|25=>159|26=>160|27=>161|46=>181|47=>141|48=>142|49=>182|50=>183|57=>189|n=>n,fun|22=>39|24=>38|25=>138|3=>3|39=>118|0=>0|53=>159|55=>161|4=>4|46=>152|45=>151|50=>156|5=>5|9=>9|66=>192|70=>196|76=>220|77=>221|n=>n,fun|n=>n⟩
theorem Tryz.laysF:Go.Proofs.SlLaysF.n6 Tryz.prog Tryz.laysF_ren:={
 mixed:=by kernel_rfl
 f6 := ⟨"slices.SortFunc[[][]int,[]int]", by decide, Tryz.func89.trans (congrArg some (by kernel_rfl))⟩
 f14 := ⟨"slices.pdqsortCmpFunc[[]int]", by decide, Tryz.func121.trans (congrArg some (by kernel_rfl))⟩
 f15:=Tryz.func74.trans (congrArg some (by kernel_rfl))
 f20 := ⟨"slices.insertionSortCmpFunc[[]int]", by decide, Tryz.func154.trans (congrArg some (by kernel_rfl))⟩
 f21 := ⟨"slices.heapSortCmpFunc[[]int]", by decide, Tryz.func155.trans (congrArg some (by kernel_rfl))⟩
 f22 := ⟨"slices.breakPatternsCmpFunc[[]int]", by decide, Tryz.func156.trans (congrArg some (by kernel_rfl))⟩
 f23 := ⟨"slices.choosePivotCmpFunc[[]int]", by decide, Tryz.func157.trans (congrArg some (by kernel_rfl))⟩
 f24 := ⟨"slices.reverseRangeCmpFunc[[]int]", by decide, Tryz.func158.trans (congrArg some (by kernel_rfl))⟩
 f25 := ⟨"slices.partialInsertionSortCmpFunc[[]int]", by decide, Tryz.func159.trans (congrArg some (by kernel_rfl))⟩
 f26 := ⟨"slices.partitionEqualCmpFunc[[]int]", by decide, Tryz.func160.trans (congrArg some (by kernel_rfl))⟩
 f27 := ⟨"slices.partitionCmpFunc[[]int]", by decide, Tryz.func161.trans (congrArg some (by kernel_rfl))⟩
 f28:=Tryz.func112.trans (congrArg some (by kernel_rfl))
 f29:=Tryz.func113.trans (congrArg some (by kernel_rfl))
 f46 := ⟨"slices.siftDownCmpFunc[[]int]", by decide, Tryz.func181.trans (congrArg some (by kernel_rfl))⟩
 f47:=Tryz.func141.trans (congrArg some (by kernel_rfl))
 f48:=Tryz.func142.trans (congrArg some (by kernel_rfl))
 f49 := ⟨"slices.medianAdjacentCmpFunc[[]int]", by decide, Tryz.func182.trans (congrArg some (by kernel_rfl))⟩
 f50 := ⟨"slices.medianCmpFunc[[]int]", by decide, Tryz.func183.trans (congrArg some (by kernel_rfl))⟩
 f57 := ⟨"slices.order2CmpFunc[[]int]", by decide, Tryz.func189.trans (congrArg some (by kernel_rfl))⟩
 t0:=Tryz.underlying0
 a0:=Tryz.isAgg0
 z0:=Tryz.sizeOf0
 v0:=Tryz.zeroValue0
 t3:=Tryz.underlying3
 a3:=Tryz.isAgg3
 z3:=Tryz.sizeOf3
 v3:=Tryz.zeroValue3
 t4:=Tryz.underlying4
 a4:=Tryz.isAgg4
 z4:=Tryz.sizeOf4
 v4:=Tryz.zeroValue4
 t5:=Tryz.underlying5
 a5:=Tryz.isAgg5
 z5:=Tryz.sizeOf5
 v5:=Tryz.zeroValue5
 t9:=Tryz.underlying9
 a9:=Tryz.isAgg9
 z9:=Tryz.sizeOf9
 v9:=Tryz.zeroValue9
 t22:=Tryz.underlying39
 a22:=Tryz.isAgg39
 z22:=Tryz.sizeOf39
 v22:=Tryz.zeroValue39
 a24:=Tryz.isAgg38
 z24:=Tryz.sizeOf38
 t25:=Tryz.underlying138
 a25:=Tryz.isAgg138
 z25:=Tryz.sizeOf138
 v25:=Tryz.zeroValue138
 t39:=Tryz.underlying118
 a39:=Tryz.isAgg118
 z39:=Tryz.sizeOf118
 v39:=Tryz.zeroValue118
 t45:=Tryz.underlying151
 a45:=Tryz.isAgg151
 z45:=Tryz.sizeOf151
 v45:=Tryz.zeroValue151
 t46:=Tryz.underlying152
 a46:=Tryz.isAgg152
 z46:=Tryz.sizeOf152
 v46:=Tryz.zeroValue152
 t50:=Tryz.underlying156
 a50:=Tryz.isAgg156
 z50:=Tryz.sizeOf156
 v50:=Tryz.zeroValue156
 t53:=Tryz.underlying159
 a53:=Tryz.isAgg159
 z53:=Tryz.sizeOf159
 v53:=Tryz.zeroValue159
 t55:=Tryz.underlying161
 a55:=Tryz.isAgg161
 z55:=Tryz.sizeOf161
 v55:=Tryz.zeroValue161
 t66:=Tryz.underlying192
 a66:=Tryz.isAgg192
 z66:=Tryz.sizeOf192
 v66:=Tryz.zeroValue192
 t70:=Tryz.underlying196
 a70:=Tryz.isAgg196
 z70:=Tryz.sizeOf196
 v70:=Tryz.zeroValue196
 t76:=Tryz.underlying220
 a76:=Tryz.isAgg220
 z76:=Tryz.sizeOf220
 v76:=Tryz.zeroValue220
 t77:=Tryz.underlying221
 a77:=Tryz.isAgg221
 z77:=Tryz.sizeOf221
 v77:=Tryz.zeroValue221}
namespace Ho
open Go.Sx Go.Sort
theorem swo_lex (k:Nat):SWO (ltOf fun x y:C6=>lexC (a0r x k) (a0r y k)):=by
 refine⟨fun x=>?_,fun x y z h1 h2=>?_,fun x y z h1 h2=>?_⟩
 ·have h:=lexC_self (a0r x k)
  unfold ltOf
  rw[decide_eq_false_iff_not]
  dsimp only
  omega
 ·unfold ltOf at *
  rw[decide_eq_true_iff] at *
  dsimp only at *
  exact(lexC_trans _ _ _ (by rw[a1h,a1h]) (by rw[a1h,a1h])).2 h1 h2
 ·unfold ltOf at *
  rw[decide_eq_false_iff_not] at *
  dsimp only at *
  have e1:=lexC_neg (a0r x k) (a0r y k)
  have e2:=lexC_neg (a0r y k) (a0r z k)
  have e3:=lexC_neg (a0r x k) (a0r z k)
  have:=(lexC_trans (a0r z k) (a0r y k) (a0r x k) (by rw[a1h,a1h]) (by rw[a1h,a1h])).1 (by omega) (by omega)
  omega
theorem sortsF:SortsF Tryz.prog 89 90:=by
 intro α _ enc h1 cf hO blk cap d w hc hH hb hs
 exact Any.slices_SortFunc Tryz.laysF enc h1 cf hO _ #[] blk 0 cap d w (enters_of Tryz.func90 (by kernel_rfl) rfl) hc hH hb hs
theorem sortIm:SortIm:=by
 intro n h0 h6 L hl hL
 exact callee_sortF (plain_of Tryz.func89 (by kernel_rfl) (by kernel_rfl)) sortsF (cf:=lexC) (fun xs ys b1 o1 c1 b2 o2 c2 w e1 e2 e3 e4=>Tryz.cmp55 xs ys b1 o1 c1 b2 o2 c2 w e1 e2 e3 e4) ⟨h0,h6⟩ (swo_lex n) hl (by omega)
end Ho
end Go.Proofs
namespace Go.Proofs
open Go Go.Sx
set_option maxRecDepth 100000
set_option maxHeartbeats 40000000
namespace Ho
def swapAt:Nat→List Nat→List Nat
 |0,x :: y :: l=>y :: x :: l
 |k+1,x :: l=>x :: swapAt k l
 |_,l=>l
theorem swapAt_perm:∀(k:Nat) (l:List Nat),(swapAt k l).Perm l
 |0,[]=>.refl _
 |0,[_]=>.refl _
 |0,x :: y :: l=>.swap x y l
 |_+1,[]=>.refl _
 |k+1,x :: l=>(swapAt_perm k l).cons x
theorem swapAt_getD:∀(k:Nat) (l:List Nat),k+1<l.length→∀i,(swapAt k l).getD i 0=if i=k then l.getD (k+1) 0 else if i=k+1 then l.getD k 0 else l.getD i 0
 |0,[],h,_=>by simp at h
 |0,[_],h,_=>by simp at h
 |0,x :: y :: l,_,i=>by
  match i with
  |0=>simp[swapAt]
  |1=>simp[swapAt]
  |i+2=>simp[swapAt]
 |k+1,[],h,_=>by simp at h
 |k+1,x :: l,h,i=>by
  match i with
  |0=>simp[swapAt]
  |i+1=>
   have:=swapAt_getD k l (by simpa using h) i
   simp only[swapAt,List.getD_cons_succ]
   rw[this]
   simp
def κ (h:Hist) (i:Nat):Int:=(h.at' i).t
theorem cmp26 (h:Hist) (g:h.Ok) (a b:Nat) (ha:a<h.l.length) (hb:b<h.l.length):a0q Tryz.prog 47 false [.int .i64 a,.int .i64 b,.iptr h.c] (·=.int .i64 (κ h a-κ h b)):=by
 have h1:=g.cmd a ha
 have h2:=g.cmd b hb
 have ha0:((a:Nat):Int).toNat=a:=by omega
 have hb0:((b:Nat):Int).toNat=b:=by omega
 have e1:h.l.getD ((a:Nat):Int).toNat c0=h.at' a:=by rw[ha0];rfl
 have e2:h.l.getD ((b:Nat):Int).toNat c0=h.at' b:=by rw[hb0];rfl
 rw[←e1] at h1
 rw[←e2] at h2
 unfold κ
 rw[←e1,←e2]
 unfold Cmd.Ok at h1 h2
 refine a0c Tryz.E_ok Tryz.func47 rfl (by kernel_rfl) ?_
 refine x13 ?_
 refine⟨_,rfl,?_⟩
 exact xc17
theorem isort60 (h:Hist) (g:h.Ok) (l:List Nat) (hll:∀i∈l,i<h.l.length) (hl:l.length≤12):Sx.Callee Tryz.prog 104 [.osl 0 l.length,.int .i64 0,.int .i64 l.length,.fn (.func 47) [] [.ptr 1 0]] [.row 3 1 l.length (a0u natC 0 l) true,.cells 24 h.c]
  (fun r H=>r=.tup []∧∃m:List Nat,m.Perm l∧(∀p q,p<q→q<l.length→κ h (m.getD p 0)≤κ h (m.getD q 0))∧H=[.row 3 1 l.length (a0u natC 0 m) true,.cells 24 h.c]):=by
 refine callee_ent Tryz.E_ok Tryz.func104 rfl (by kernel_rfl) ?_
 refine x13 ?_
 refine⟨Nat×List Nat,fun i=>i.2.Perm l∧1≤i.1∧(i.1≤l.length∨i.1=1)∧∀p q,p<q→q<i.1→q<l.length→κ h (i.2.getD p 0)≤κ h (i.2.getD q 0),fun i=>l.length-i.1,fun i=>[(8,.int .i64 i.1)],fun i=>[(0,.row 3 1 l.length (a0u natC 0 i.2) true)],fun _=>[],(1,l),⟨⟨.refl _,by simp,.inr rfl,fun p q h1 h2 _=>by dsimp only at h2;omega⟩,some [some 0,some 1],?_⟩,?_⟩
 ·exact xc17
 ·rintro⟨i,m⟩ ⟨h1,h2,h3,h4⟩
  dsimp only at h1 h2 h3 h4
  refine x30 (fun hc=>?_) (fun hc=>?_)
  ·have hi:i<l.length:=by dsimp only at hc;omega
   refine⟨Nat×List Nat,fun j=>j.2.Perm l∧j.1≤i∧(∀p q,p<q→q≤i→p≠j.1→q≠j.1→κ h (j.2.getD p 0)≤κ h (j.2.getD q 0))∧∀q,j.1<q→q≤i→κ h (j.2.getD j.1 0)≤κ h (j.2.getD q 0),fun j=>j.1,fun j=>[(9,.int .i64 j.1)],fun j=>[(0,.row 3 1 l.length (a0u natC 0 j.2) true)],fun _=>[],(i,m),⟨⟨h1,a0U _,fun p q g1 g2 g3 g4=>?_,fun q g1 g2=>?_⟩,some [some 0,some 1],?_⟩,?_⟩
   ·dsimp only at *
    exact h4 p q g1 (by omega) (by omega)
   ·dsimp only at *
    omega
   ·exact xc17
   ·rintro⟨j,n⟩ ⟨g1,g2,g3,g4⟩
    dsimp only at g1 g2 g3 g4
    have hnl:n.length=l.length:=g1.length_eq
    refine x30 (fun hc=>?_) (fun hc=>?_)
    ·have hmem:∀p,p<n.length→n.getD p 0<h.l.length:=fun p hp=>hll _ (g1.mem_iff.1 (by
      rw[a0A,a0D hp]
      exact a1F hp))
     dsimp only at hc
     refine callee_view (cmp26 h g (n.getD ((j:Nat):Int).toNat 0) (n.getD (((j:Nat):Int)-1).toNat 0) (hmem _ (by omega)) (hmem _ (by omega))) ?_
     clear hmem
     refine x13 ?_
     rintro _ rfl
     have hti:(j:Int).toNat=j:=a1N j
     refine x30 (fun hc=>?_) (fun hc=>?_)
     ·try dsimp only at hc
      rw[hti] at hc
      have hj0:0<j:=by omega
      have e1:((j:Int)-1).toNat=j-1:=by omega
      rw[e1] at hc
      have hsw:=swapAt_getD (j-1) n (by omega)
      have e2:j-1+1=j:=by omega
      rw[e2] at hsw
      refine⟨(j-1,swapAt (j-1) n),⟨⟨(swapAt_perm _ _).trans g1,by dsimp only;omega,fun p q k1 k2 k3 k4=>?_,fun q k1 k2=>?_⟩,by dsimp only;omega⟩,some [some 0,some 1],?_⟩
      ·dsimp only at *
       rw[hsw p,hsw q,if_neg k3,if_neg k4]
       by_cases c1:p=j
       ·rw[if_pos c1,if_neg (by omega)]
        exact g3 (j-1) q (by omega) k2 (by omega) (by omega)
       ·rw[if_neg c1]
        by_cases c2:q=j
        ·rw[if_pos c2]
         exact g3 p (j-1) (by omega) (by omega) c1 (by omega)
        ·rw[if_neg c2]
         exact g3 p q k1 k2 c1 c2
      ·dsimp only at *
       rw[hsw (j-1),hsw q,if_pos rfl,if_neg (by omega)]
       by_cases c2:q=j
       ·rw[if_pos c2];omega
       ·rw[if_neg c2]
        exact g4 q (by omega) k2
      ·refine x13 ?_
       refine⟨fun k _=>?_,?_⟩
       ·dsimp only
        rw[hti,e1]
        unfold a0u
        rw[hsw k]
        by_cases c1:k=j-1
        ·rw[a2u c1,if_pos c1,a2a (show ¬k=j by omega)];rfl
        ·rw[a2a c1,if_neg c1]
         by_cases c2:k=j
         ·rw[a2u c2,if_pos c2];rfl
         ·rw[a2a c2,if_neg c2]
       ·exact xc17
     ·try dsimp only at hc
      rw[hti] at hc
      have hi:i<l.length:=by omega
      refine⟨(i+1,n),⟨⟨g1,by dsimp only;omega,by dsimp only;omega,fun p q k1 k2 k3=>?_⟩,by dsimp only;omega⟩,some [some 0,some 1],?_⟩
      ·dsimp only at *
       by_cases c1:p=j
       ·subst c1;exact g4 q k1 (by omega)
       ·by_cases c2:q=j
        ·subst c2
         have e1:((q:Int)-1).toNat=q-1:=by omega
         rw[e1] at hc
         have:κ h (n.getD (q-1) 0)≤κ h (n.getD q 0):=by omega
         by_cases c3:p=q-1
         ·rw[c3];exact this
         ·exact Int.le_trans (g3 p (q-1) (by omega) (by omega) c1 (by omega)) this
        ·exact g3 p q k1 (by omega) c1 c2
      ·exact xc17
    ·dsimp only at hc
     have hi:i<l.length:=by omega
     refine⟨(i+1,n),⟨⟨g1,by dsimp only;omega,by dsimp only;omega,fun p q k1 k2 k3=>?_⟩,by dsimp only;omega⟩,some [some 0,some 1],?_⟩
     ·dsimp only at *
      by_cases c1:p=j
      ·subst c1;exact g4 q k1 (by omega)
      ·by_cases c2:q=j
       ·subst c2
        exfalso
        omega
       ·exact g3 p q k1 (by omega) c1 c2
     ·exact xc17
  ·refine⟨_,_,⟨rfl,m,h1,fun p q g1 g2=>h4 p q g1 (by dsimp only at hc;omega) g2,rfl⟩,some [some 0,some 1],?_⟩
   exact xc17
theorem byteAt_le (s:ByteArray) (i:Nat):0≤byteAt s i∧byteAt s i≤255:=by
 unfold byteAt
 cases s[i]? with
 |none=>simp
 |some b=>
  simp only[Option.map_some,a2Z]
  have:=b.toNat_lt
  omega
theorem len86 (n:Nat) (h:n≤12):a0q Tryz.prog 74 false [.int .u64 n] (fun r=>∃k:Int,r=.int .i64 k):=by
 refine a0c Tryz.E_ok Tryz.func74 rfl (by kernel_rfl) ?_
 refine x13 ?_
 refine a2k Tryz.E_ok Tryz.func113 rfl (by kernel_rfl) ?_
 refine x13 (fun hc hc hc=>?_)
 refine⟨⟨by show(0:Int)≤n;omega,by show(n:Int)≤255;omega⟩,?_⟩
 refine x13 ?_
 refine⟨⟨by omega,Int.lt_of_lt_of_le (show(n:Int)<256 by omega) (by decide +kernel)⟩,?_⟩
 generalize hby:byteAt _ _=y
 have hy:0≤y∧y≤255:=by rw[←hby];exact byteAt_le _ _
 refine x13 ?_
 exact⟨_,⟨_,rfl⟩,rfl,trivial⟩
theorem sortE25 (h:Hist) (g:h.Ok) (l:List Nat) (hll:∀i∈l,i<h.l.length) (hl:l.length≤12):Sx.Callee Tryz.prog 46 [.osl 0 l.length,.fn (.func 47) [] [.ptr 1 0]] [.row 3 1 l.length (a0u natC 0 l) true,.cells 24 h.c]
  (fun r H=>r=.tup []∧∃m:List Nat,m.Perm l∧(∀p q,p<q→q<l.length→κ h (m.getD p 0)≤κ h (m.getD q 0))∧H=[.row 3 1 l.length (a0u natC 0 m) true,.cells 24 h.c]):=by
 refine callee_ent Tryz.E_ok Tryz.func46 rfl (by kernel_rfl) ?_
 refine x13 ?_
 refine⟨⟨by show(0:Int)≤l.length;omega,by show(l.length:Int)≤18446744073709551615;omega⟩,?_⟩
 refine x13 ?_
 refine a0d (len86 l.length hl) rfl ?_
 rintro _ ⟨k,rfl⟩
 refine x13 ?_
 refine a2k Tryz.E_ok Tryz.func73 rfl (by kernel_rfl) ?_
 refine x13 ?_
 refine⟨Unit,fun _=>True,fun _=>0,fun _=>[(1,.int .i64 0),(2,.int .i64 l.length),(3,.int .i64 k)],fun _=>[],fun _=>[],(),⟨trivial,some [some 0,some 1],?_⟩,?_⟩
 ·exact xc17
 ·rintro⟨⟩ _
  refine x13 (fun hc=>?_)
  refine a0e [0,1] (isort60 h g l hll hl) rfl ?_ ?_
  ·exact xc17
  ·rintro _ _ ⟨rfl,m,h1,h2,rfl⟩
   refine x13 ?_
   refine⟨_,_,⟨rfl,m,h1,h2,rfl⟩,some [some 0,some 1],?_⟩
   exact xc17
theorem EndL.legal {h:Hist} {L:List SR} (e:EndL h L):0<L.length↔h.Legal:=by
 constructor
 ·intro hl
  exact⟨_,(e.ends _).2 ⟨L[0],a1F hl,rfl⟩⟩
 ·rintro⟨s,hs⟩
  obtain⟨r,hr,_⟩:=(e.ends s).1 hs
  exact a3P hr
theorem legal9 (h:Hist) (hf:h.Near):a0q Tryz.prog 16 false [h.w] (·=.tup [.prop (h.Ok∧h.Legal) (Classical.propDecidable _),.int .i64 h.chk]):=by
 have h40:=hf.1
 refine a0c Tryz.E_ok Tryz.func16 rfl (by kernel_rfl) ?_
 refine x1 ?_
 refine a0d (Check22 h (by omega)) rfl ?_
 rintro _ rfl
 refine x7 (fun hc=>?_) (fun hc=>?_)
 ·have hno:¬h.Ok:=fun g=>hc (Hist.chk_of g)
  refine⟨_,rfl,?_⟩
  refine x1 ?_
  refine⟨fun q=>hno q.1,?_⟩
  exact xc3
 ·have g:h.Ok:=Hist.chk_ok (a0T.1 hc)
  obtain⟨h2,h6⟩:=hf.2 g
  refine a0d (ends23 sortIm h g h2 h6) rfl ?_
  rintro _ ⟨L,hL,rfl⟩
  have hl:=hL.len
  have hg:=hL.legal
  rw[Hist.chk_of g]
  refine x1 ?_
  refine⟨_,rfl,?_⟩
  refine⟨?_,rfl,trivial⟩
  rw[←hg]
  exact⟨fun q=>⟨g,by omega⟩,fun q=>by omega⟩
def endL (h:Hist) (i:Nat):List Nat:=(List.range i).filter fun j=>decide ((h.at' j).t≠-1)
theorem endL_yes {h:Hist} {i:Nat} (e:(h.at' i).t≠-1):endL h (i+1)=endL h i++[i]:=by
 unfold endL
 rw[List.range_succ,a2J]
 simp[e]
theorem endL_no {h:Hist} {i:Nat} (e:(h.at' i).t=-1):endL h (i+1)=endL h i:=by
 unfold endL
 rw[List.range_succ,a2J]
 simp[e]
theorem mem_endL {h:Hist} {i j:Nat}:j∈endL h i↔j<i∧(h.at' j).t≠-1:=by
 unfold endL
 rw[a3R,a1D,decide_eq_true_iff]
theorem endL_len (h:Hist) (i:Nat):(endL h i).length≤i:=by
 unfold endL
 have:=List.length_filter_le (fun j=>decide ((h.at' j).t≠-1)) (List.range i)
 rwa [List.length_range] at this
theorem lie10 (h:Hist) (hf:h.Near):a0q Tryz.prog 18 false [h.w] (fun r=>∃n:Int,(h.Ok→h.isLie n)∧(¬h.Ok→n=0)∧r=.tup [.int .i64 n,.int .i64 h.chk]):=by
 have h40:=hf.1
 refine a0c Tryz.E_ok Tryz.func18 rfl (by kernel_rfl) ?_
 refine x1 ?_
 refine a0d (Check22 h (by omega)) rfl ?_
 rintro _ rfl
 refine x7 (fun hc=>?_) (fun hc=>?_)
 ·have hno:¬h.Ok:=fun g=>hc (Hist.chk_of g)
  refine⟨_,⟨0,fun g=>absurd g hno,fun _=>rfl,rfl⟩,?_⟩
  exact xc3
 ·have g:h.Ok:=Hist.chk_ok (a0T.1 hc)
  obtain⟨h2,h6⟩:=hf.2 g
  refine a0d (ends23 sortIm h g h2 h6) rfl ?_
  rintro _ ⟨L,hL,rfl⟩
  have hl:=hL.len
  have hg:=hL.legal
  clear hc hf
  rw[Hist.chk_of g]
  refine x7 (fun hc=>?_) (fun hc=>?_)
  ·refine⟨_,⟨-1,fun _=>.inl ⟨hg.1 (by omega),rfl⟩,fun q=>absurd g q,rfl⟩,?_⟩
   exact xc3
  ·have hnl:¬h.Legal:=fun q=>by have:=hg.2 q;omega
   refine⟨Nat,fun i=>i≤h.l.length,fun i=>h.l.length-i,fun i=>[(22,.int .i64 (i:Nat)),(5,.osl 1 (endL h i).length)],fun _=>[],fun i=>[.row 3 1 (endL h i).length (a0u natC 0 (endL h i)) true],0,⟨by omega,some [some 0,none],?_⟩,?_⟩
   ·exact xc3
   ·intro i hi
    have hi0:((i:Nat):Int).toNat=i:=by omega
    have hel:=endL_len h i
    refine x7 (fun hc=>?_) (fun hc=>?_)
    ·have hil:i<h.l.length:=by omega
     have hcm:=g.cmd i hil
     have e0:h.l.getD ((i:Nat):Int).toNat c0=h.at' i:=by rw[hi0];rfl
     refine x1 ?_;(repeat' ((first|(refine a0d (a1n (h.at' i)) rfl ?_;rintro _ rfl)|(refine a0f (a1n (h.at' i)) rfl ?_)|(refine a0l (fun _=>a1n (h.at' i)) rfl ?_));refine x7 (fun hc=>?_) (fun hc=>?_)))
     ·have ht:(h.at' i).t≠-1:=by omega
      have key:=endL_yes (h:=h) ht
      refine⟨i+1,⟨hil,by dsimp only;omega⟩,some [some 0,some 4],?_⟩
      dsimp only
      rw[key]
      refine x1 ?_
      refine⟨by rw[a0F,a1A],?_⟩
      refine x1 ?_
      refine⟨by rw[a0F,a1A],a2d (c:=natC) (a:=i) (l:=endL h i) rfl (fun _ _=>rfl),?_⟩
      exact xc3
     ·have ht:(h.at' i).t=-1:=by unfold Cmd.Ok at hcm;omega
      have key:=endL_no (h:=h) ht
      refine⟨i+1,⟨hil,by dsimp only;omega⟩,some [some 0,some 1],?_⟩
      dsimp only
      rw[key]
      exact xc3
    ·obtain rfl:i=h.l.length:=by omega
     have hmem:=fun j=>mem_endL (h:=h) (i:=h.l.length) (j:=j)
     clear hi0 hi
     generalize endL h h.l.length=l at *
     refine x1 ?_
     refine a0e [1,0] (sortE25 h g l (fun i hi=>((hmem i).1 hi).1) (by omega)) rfl ?_ ?_
     ·exact xc3
     ·rintro _ _ ⟨rfl,m,hp,hs,rfl⟩
      have hml:=hp.length_eq
      refine x1 ?_
      refine⟨Nat,fun i=>i≤m.length∧∀p,p<i→(h.upto (κ h (m.getD p 0))).Legal,fun i=>m.length-i,fun i=>[(40,.int .i64 (i:Nat))],fun _=>[],fun _=>[],0,⟨⟨by omega,fun p hp=>by omega⟩,some [some 0,some 1],?_⟩,?_⟩
      ·exact xc3
      ·rintro i ⟨hi,hI⟩
       have hi0:((i:Nat):Int).toNat=i:=by omega
       have hr:i<l.length→m.getD ((i:Nat):Int).toNat 0<h.l.length∧(h.at' (m.getD ((i:Nat):Int).toNat 0)).t≠-1:=fun q=>by
        rw[hi0,a0A,a0D (by omega)]
        exact(hmem _).1 (hp.mem_iff.1 (a1F _))
       have hr1:i<l.length→((m.getD ((i:Nat):Int).toNat 0:Nat):Int)<h.l.length:=fun q=>by have:=(hr q).1;omega
       (repeat' ((conv=>whnf);first|(with_reducible first|apply spl|apply spl'|refine iJ ?_)<;>intro hc<;>try(exfalso;omega)|refine vcq ?_|refine dr 8 ?_));all_goals(try conv=>whnf);try exact trivial
       ·have hil:i<l.length:=by omega
        obtain⟨r1,r2⟩:=hr hil
        clear hr hr1
        have hid:((m.getD ((i:Nat):Int).toNat 0:Nat):Int).toNat=m.getD ((i:Nat):Int).toNat 0:=by omega
        have e0:h.l.getD ((m.getD ((i:Nat):Int).toNat 0:Nat):Int).toNat c0=h.at' (m.getD ((i:Nat):Int).toNat 0):=by rw[hid];rfl
        rw[e0]
        rw[hi0] at *
        have hk:κ h (m.getD i 0)=(h.at' (m.getD i 0)).t:=rfl
        have hset:∀j,j<h.l.length→(h.at' j).t≠-1→(h.at' j).t<(h.at' (m.getD i 0)).t→(h.upto (h.at' j).t).Legal:=by
         intro j hj htj hlt
         have hjm:j∈m:=hp.mem_iff.2 ((hmem j).2 ⟨hj,htj⟩)
         obtain⟨p,hp1,rfl⟩:=a1G hjm
         have e:m.getD p 0=m[p]:=by simp[a0A,hp1]
         rcases Nat.lt_trichotomy p i with q|rfl|q
         ·have:=hI p q
          rw[e] at this
          exact this
         ·rw[e] at hlt;omega
         ·have:=hs i p q (by omega)
          rw[e,hk] at this
          unfold κ at this
          omega
        generalize hjm:m.getD i 0=jm at *
        have gu:=g.upto (h.at' jm).t
        have hul:(h.upto (h.at' jm).t).l.length≤h.l.length:=by unfold Hist.upto;rw[List.length_map];exact List.length_filter_le ..
        refine a0f (until27 h g (h.at' jm).t) rfl ?_
        refine x33 ?_
        refine a0d (ends23 sortIm (h.upto (h.at' jm).t) gu h2 (by omega)) rfl ?_
        rintro _ ⟨L2,hL2,rfl⟩
        have hl2:=hL2.len
        have hg2:=hL2.legal
        refine x7 (fun hc=>?_) (fun hc=>?_)
        ·refine⟨_,⟨jm,fun _=>.inr ⟨hnl,jm,r1,rfl,r2,fun q=>by have:=hg2.2 q;omega,hset⟩,fun q=>absurd g q,rfl⟩,?_⟩
         exact xc3
        ·refine⟨i+1,⟨⟨by omega,fun p hp2=>?_⟩,by dsimp only;omega⟩,some [some 0,some 1],?_⟩
         ·rcases a0J (show p≤i by omega) with q|rfl
          ·exact hI p q
          ·rw[hjm]
           exact hg2.1 (by omega)
         ·exact xc3
       ·have:i=m.length:=by omega
        subst this
        exfalso
        refine hnl (g.legal_of_ends fun j hj htj=>?_)
        obtain⟨p,hp1,rfl⟩:=a1G (hp.mem_iff.2 ((hmem j).2 ⟨hj,htj⟩))
        have:=hI p hp1
        rw[show m.getD p 0=m[p] by simp[a0A,hp1]] at this
        exact this
theorem lie10v (h:Hist) (hf:h.Near):a0q Tryz.prog 18 false [h.w] (·=.tup [.int .i64 (if h.chk=0 then h.lie else 0),.int .i64 h.chk]):=by
 refine(lie10 h hf).mono ?_
 rintro _ ⟨n,h1,h2,rfl⟩
 by_cases g:h.Ok
 ·rw[if_pos (Hist.chk_of g),g.lie_eq (h1 g)]
 ·rw[if_neg (fun q=>g (Hist.chk_ok q)),h2 g]
end Ho
end Go.Proofs
namespace Go.Sx
open Go
def SortsInt (P:Program) (g:FuncId):Prop:=∀(blk cap:Nat) (l:List Int) (w:World),Sort.Holds (Value.int .i64) w blk 0 l.toArray→blk<w.heap.size→l.length<4611686018427387904→
 Calls P g #[.slice (some ⟨blk,0,none⟩) l.length cap] w fun e w'=>e=.returned (.tuple #[])∧∃n os,w'=Sort.grow (Sort.putRow (Value.int .i64) (Sort.ahead w n) blk 0 (l.mergeSort fun x y=>decide (x≤y)).toArray) os
theorem row_vals {I:Nat→Prop} {w:World} {l:List Int} {xs:List Value} (hlen:xs.length=l.length*1) (h:∀i,i<l.length→DenL I [] w [.int .i64 (l.getD i 0)] ((xs.drop (i*1)).take 1)):xs=l.map (Value.int .i64):=by
 apply a1M
 intro j
 by_cases hj:j<l.length
 ·obtain⟨v,r,h1,h2,h3⟩:=h j hj
  have h3:r=[]:=h3
  have h2:v=.int .i64 (l.getD j 0):=h2
  subst h3 h2
  have:((xs.drop (j*1)).take 1)[0]? = some (.int .i64 (l.getD j 0)):=by rw[h1];rfl
  rw[a3S (by omega),a0S] at this
  rw[show j*1+0=j by omega] at this
  rw[this,a2G,a0D hj]
  simp[List.getD,a0D hj]
 ·rw[a0P (by omega),a0P (by simp;omega)]
theorem callee_sort {P:Program} {g:FuncId} (hp:Plain P g) (hs:SortsInt P g) {ty:TypeId} {l:List Int} {nz:Bool} (hl:0<l.length) (h62:l.length<4611686018427387904) :
  Callee P g [.osl 0 l.length] [.row ty 1 l.length (fun i=>[.int .i64 (l.getD i 0)]) nz] (fun v H=>v=.tup []∧H=[.row ty 1 l.length (fun i=>[.int .i64 ((l.mergeSort fun x y=>decide (x≤y)).getD i 0)]) nz]):=by
 unfold Callee
 refine⟨hp,fun I η w vals hS hd=>?_⟩
 obtain⟨v,r,rfl,⟨e,he,hne,rfl⟩,hr⟩:=hd
 have hr:r=[]:=hr
 subst hr
 obtain⟨xs,hown,hone,hnil,hel⟩:=hS.obj 0 e _ he rfl
 obtain⟨eb,ec⟩:=e
 cases eb with
 |none=>exact absurd (hne rfl).1 (by omega)
 |some b=>
 have hxs:=row_vals hown.1 hel
 subst hxs
 rcases hown.2 with⟨h0,_⟩|⟨b',cap,cur,hv,_,hheap,hncap,hcapm,hcur,htake⟩
 ·cases h0
 cases hv
 rw[a3T] at htake
 have hb:b<w.heap.size:=(a0K.1 hheap).1
 refine(hs b ec l w (holds_of_blockI hheap (by rw[htake])) hb h62).mono ?_
 rintro e w' ⟨rfl,n,os,rfl⟩
 have hms:(l.mergeSort fun x y=>decide (x≤y)).length=l.length:=List.length_mergeSort _
 have hgr:=grownBy_sortedI (w:=w) (g:=b) (n:=n) (os:=os) (l.mergeSort fun x y=>decide (x≤y)).toArray
 have hro:=ownsRow_sortedI (n:=n) (os:=os) hms (Nat.zero_le b) hheap hncap hcapm (by simpa using hcur)
 have hself:own η [.row ty 1 l.length (fun i=>[.int .i64 (l.getD i 0)]) nz] b:=own_mk he rfl trivial
 have hownb:∀(k:Nat) (o:O),own η [o] k→o.live→(∀j,¬o.inner j)→k=b:=by
  rintro k o ⟨id,e2,o2,h1,h2,h3⟩ _ hin
  have:id=0:=by
   have:=(a0B.1 h2).1
   simp at this
   exact this
  subst this
  rw[he] at h1
  cases h1
  cases h2
  rcases h3 with⟨_,h3⟩|h3
  ·cases h3;rfl
  ·exact absurd h3 (hin _)
 generalize hw':Sort.grow (Sort.putRow (Value.int .i64) (Sort.ahead w n) b 0 (l.mergeSort fun x y=>decide (x≤y)).toArray) os=w' at hgr hro
 have hIb:∀k,I k→w'.heap[k]? = w.heap[k]?:=fun k hk=>hgr.block k (hS.ilt k hk) (fun h=>by cases h;exact hS.notI _ hself hk)
 have m:Mono I η w I η w':=⟨fun _ _ h _=>h,fun _ h=>h,hIb⟩
 refine⟨I,η,_,.tup [],_,rfl,⟨rfl,rfl⟩,⟨hS.len,?_,?_,?_,?_,fun k hk=>a0Y (hS.ilt k hk) hgr.size⟩,⟨[],rfl,rfl⟩,m,⟨hgr.os,hgr.tape,hgr.output,hgr.size,fun k hk hk2=>hgr.block k hk (fun h=>by cases h;exact hk2 hself),fun _ h=>h,fun _ h=>.inl h,?_,fun _ _ h _=>h⟩⟩
 ·intro id e2 o h1 h2
  have:id=0:=by
   have:=(a0B.1 h2).1
   simp at this
   exact this
  subst this
  rw[he] at h1
  cases h1
  cases h2
  refine⟨_,hro,?_,⟨fun h=>(by cases h),fun h=>(by omega)⟩,?_⟩
  ·intro u hu
   obtain⟨x,_,rfl⟩:=a1C.1 hu
   rfl
  ·intro i hi
   refine⟨.int .i64 ((l.mergeSort fun x y=>decide (x≤y)).getD i 0),[],?_,rfl,rfl⟩
   rw[a3T]
   have hi':i<(l.mergeSort fun x y=>decide (x≤y)).length:=by omega
   rw[List.take_one,List.head?_drop,a2G,a0D hi']
   simp[List.getD,a0D hi']
 ·intro id id' k e1 e2 o o' h1 h2 h3 h4 _ _
  have a1:=(a0B.1 h3).1
  have a2:=(a0B.1 h4).1
  simp at a1 a2
  omega
 ·intro k hk
  have:=hownb k _ hk trivial (fun _ h=>h)
  subst this
  exact hS.notI _ hself
 ·intro k hk
  have:=hownb k _ hk trivial (fun _ h=>h)
  subst this
  exact a0Y hb hgr.size
 ·intro k hk
  have:=hownb k _ hk trivial (fun _ h=>h)
  subst this
  exact .inl hself
end Go.Sx
namespace Go.Proofs
open Go Go.Sx
set_option maxRecDepth 100000
set_option maxHeartbeats 40000000
namespace Ho
def rdV (h:Hist) (b:Nat) (r:SR):List Int:=[h.res (r.st h) b]
theorem rowOf_app {α:Type} {c:α→List V} {d:α} {l m:List α}:∀i,i<l.length+m.length→appF l.length (a0u c d l) (a0u c d m) i=a0u c d (l++m) i:=by
 intro i hi
 unfold appF a0u
 by_cases q:i<l.length
 ·rw[if_pos q]
  simp[a0A,a0E q]
 ·rw[if_neg q]
  simp[a0A,a0R (show l.length≤i by omega)]
theorem reads33 (h:Hist) (r:SR) (k:Known h r) (b:Nat) (hb:b<h.nn):a0q Tryz.prog 57 false [.iptr (r.c h),.iptr h.c,.iptr [.int .i64 b]] (·=.sl 1 (rdV h b r).length (a0u intC 0 (rdV h b r))):=by
 have hnn:=k.g.nn
 have hr:=a0q.weak (result34_ne h k.g (r.st h).D (r.st h).O (r.st h).K (r.bf h) (.int .i64 r.cm) (imV h r.im) b (by omega) (fun i hi=>(k.ord.hO i hi).1) (by have:=k.ord.len;omega)) (fun _ _ _ hd=>SR.weak k.good hd)
 refine a0c Tryz.E_ok Tryz.func57 rfl (by kernel_rfl) ?_
 refine x33 ?_
 refine a0d hr rfl ?_
 rintro _ rfl
 refine x33 ?_
 refine⟨_,rfl,?_⟩
 refine⟨rfl,rfl,fun i hi=>?_,.inr fun i _=>rfl,trivial⟩
 obtain rfl:i=0:=by omega
 rfl
end Ho
end Go.Proofs
