/- Own work: texts of the proof of a law (SzSlice, SzPure, SzShift, SzMapF, SzGrid). No condition. -/
import Derived.Laws.MakeOwn
import Derived.Great.BuildSlice
import Derived.Test.YtkgjhinmndcmjaaGreatPart6
import Derived.Test.YtkgjhinmndcmjaaGreatPart0
namespace Go.Sx
open Go
variable {P:Program} {E:Env}
theorem run_append_ex (w:World) (t ty e:TypeId) (i:TypeInfo) (z:Value) (ht:P.underlying t=some (.slice e)) (hi:P.info? e=some i) (hz:i.zero=some z)
  (hzs:z.cells.size=i.size) (hsz:0<i.size) (v:Value) (n:Nat) (xs:List Value) (hown:w.ownsRow 0 e i.size v n xs)
  (a:Addr) (m c:Nat) (news:List Value) (hl:news.length=m*i.size) (hnews:∀j u,news[j]? = some u→w.cell? (a.add j)=some u) (h1:∀u∈news,u.oneCell'=true)
  (h63:n+m≤140737488355328) (hbytes:(n+m)*i.bytes≤140737488355328) :
  ∃v' w',(Builtin.append_ #[t,t] ty #[v,.slice (some a) m c]).run P w=.ok v' w'∧w'.ownsRow 0 e i.size v' (n+m) (xs++news)∧w.grownBy w' v.ownBlock∧
   (v'=.slice none 0 0↔v=.slice none 0 0∧m=0)∧(∀g,v'.ownBlock=some g→v.ownBlock=some g∨g=w.heap.size):=by
 have hm:n+m≤maxLen:=by simp only[maxLen];omega
 obtain⟨v',w',hrun,ho,hg,hn⟩:=run_append_own (P:=P) w 0 t ty e i z i.size i.bytes ht hi hz rfl rfl hzs hsz v n xs hown a m c news hl hnews h1 hm hbytes (a1X _)
 refine⟨v',w',hrun,ho,hg,hn,fun g hgb=>?_⟩
 rcases hown.2 with⟨rfl,rfl⟩|⟨g',cap,cur,rfl,hbg,hgh,hnc,hcm,hcs,htake⟩
 ·by_cases hm0:m=0
  ·have:v'=.slice none 0 0:=hn.2 ⟨rfl,hm0⟩
   subst this
   simp[Value.ownBlock] at hgb
  ·have hr:=run_append_nil (P:=P) w t ty e i z ht hi hz a m c news hl hnews (by omega) (by omega) (by simp only[a3B] at hbytes;omega)
   rw[hrun] at hr
   simp only[Result.ok.injEq] at hr
   rw[hr.1] at hgb
   simp only[Value.ownBlock,a1H] at hgb
   exact .inr hgb.symm
 ·by_cases hroom:n+m≤cap
  ·have hfit:n*i.size+news.length≤cur.size:=by rw[hl,hcs,←a0W];exact a0H _ hroom
   have hr:=run_append_room (P:=P) w t ty e i ht hi g' n cap cur hgh a m c news hl hnews h1 hroom hfit
   rw[hrun] at hr
   simp only[Result.ok.injEq] at hr
   rw[hr.1] at hgb
   exact .inl hgb
  ·have holds:∀j u,xs[j]? = some u→w.cell? ((⟨g',0,none⟩:Addr).add j)=some u:=hown.cells (g:=g') rfl
   have hr:=run_append_grow (P:=P) w t ty e i z ht hi hz ⟨g',0,none⟩ n cap xs hown.1 holds a m c news hl hnews (by omega) (by omega) (growslice_fits (by omega) hbytes)
   rw[hrun] at hr
   simp only[Result.ok.injEq] at hr
   rw[hr.1] at hgb
   simp only[Value.ownBlock,a1H] at hgb
   exact .inr hgb.symm
theorem Sat.renewG {I:Nat→Prop} {η:Eta} {w w':World} {H:List O} (h:Sat I η w H) (H₁:List O) (hl:H₁.length=H.length) (hlive:∀(id:Nat) (o:O),H₁[id]? = some o→o.live→H[id]? = some o)
  (row:Option Nat) (hg:w.grownBy w' row) (hrow:∀b,row=some b→own η H b∧¬own η H₁ b) (e:Option Nat×Nat) (o:O)
  (heb:∀b,o.has e b→((own η H b∧¬own η H₁ b)∨b=w.heap.size)∧b<w'.heap.size) (ho:Mono I η w I (η++[e]) w'→SatO I (η++[e]) w' e o) :
  Sat I (η++[e]) w' (H₁++[o])∧Mono I η w I (η++[e]) w'∧Step I (own η H) w I (own (η++[e]) (H₁++[o])) w':=by
 have hblk:∀b,b<w.heap.size→row≠some b→w'.heap[b]? = w.heap[b]?:=fun b hb hr=>hg.block b hb (fun e=>hr e.symm)
 have own1:∀b,own η H₁ b→own η H b:=fun b ⟨id,c,o',h1,h2,h3⟩=>⟨id,c,o',h1,hlive id o' h2 (O.has_live h3),h3⟩
 have m:Mono I η w I (η++[e]) w':=
  ⟨fun id e he _=>by rw[a0F (a0B.1 he).1];exact he,fun _ hb=>hb,fun b hb=>hblk b (h.ilt b hb) (fun er=>h.notI b (hrow b er).1 hb)⟩
 have split:∀(j:Nat) (ee:Option Nat×Nat) (oo:O),(η++[e])[j]? = some ee→(H₁++[o])[j]? = some oo→(η[j]? = some ee∧H₁[j]? = some oo)∨(j=η.length∧ee=e∧oo=o):=by
  intro j ee oo h1 h2
  by_cases hj:j<η.length
  ·rw[a0F hj] at h1
   rw[a0F (by rw[hl,←h.len];exact hj)] at h2
   exact .inl ⟨h1,h2⟩
  ·have hlt:=(a0B.1 h1).1
   simp at hlt
   have hj':j=η.length:=by omega
   subst hj'
   have hlen:η.length=H₁.length:=by rw[hl,h.len]
   rw[hlen] at h2
   simp at h1 h2
   exact .inr ⟨rfl,h1.symm,h2.symm⟩
 have hown:∀b,own (η++[e]) (H₁++[o]) b→own η H₁ b∨(((own η H b∧¬own η H₁ b)∨b=w.heap.size)∧b<w'.heap.size):=by
  rintro b ⟨id,c',o',h1,h2,h3⟩
  rcases split id _ o' h1 h2 with⟨g1,g2⟩|⟨rfl,rfl,rfl⟩
  ·exact .inl ⟨id,c',o',g1,g2,h3⟩
  ·exact .inr (heb b h3)
 refine⟨⟨by simp[h.len,hl],?_,?_,?_,?_,?_⟩,m,⟨hg.os,hg.tape,hg.output,hg.size,fun b hb hw=>hblk b hb (fun er=>hw (hrow b er).1),fun _ hb=>hb,fun _ hb=>.inl hb,?_,m.eta⟩⟩
 ·intro id ee oo h1 h2
  rcases split id ee oo h1 h2 with⟨g1,g2⟩|⟨rfl,rfl,rfl⟩
  ·by_cases hlv:oo.live
   ·refine(h.obj id ee oo g1 (hlive id oo g2 hlv)).mono m ?_
    intro b hb
    exact hblk b (h.lt b (own1 b ⟨id,ee,oo,g1,g2,hb⟩)) (fun er=>(hrow b er).2 ⟨id,ee,oo,g1,g2,hb⟩)
   ·cases oo<;>first|exact(hlv trivial).elim|trivial
  ·exact ho m
 ·intro id id' b c1 c2 o1 o2 h1 h2 h3 h4 l1 l2
  rcases split id _ o1 h1 h3 with⟨g1,g2⟩|⟨rfl,rfl,rfl⟩<;>rcases split id' _ o2 h2 h4 with⟨k1,k2⟩|⟨rfl,rfl,rfl⟩
  ·exact h.apart id id' b c1 c2 o1 o2 g1 k1 (hlive id o1 g2 (O.has_live l1)) (hlive id' o2 k2 (O.has_live l2)) l1 l2
  ·exfalso
   have hb1:own η H₁ b:=⟨id,c1,o1,g1,g2,l1⟩
   rcases(heb b l2).1 with er|er
   ·exact er.2 hb1
   ·have:=h.lt b (own1 b hb1);omega
  ·exfalso
   have hb1:own η H₁ b:=⟨id',c2,o2,k1,k2,l2⟩
   rcases(heb b l1).1 with er|er
   ·exact er.2 hb1
   ·have:=h.lt b (own1 b hb1);omega
  ·rfl
 ·intro b hb hI
  rcases hown b hb with h1|⟨h1|h1,_⟩
  ·exact h.notI b (own1 b h1) hI
  ·exact h.notI b h1.1 hI
  ·have:=h.ilt b hI;omega
 ·intro b hb
  rcases hown b hb with h1|⟨_,h1⟩
  ·exact a1M (h.lt b (own1 b h1)) hg.size
  ·exact h1
 ·intro b hb
  exact a1M (h.ilt b hb) hg.size
 ·intro b hb
  rcases hown b hb with h1|⟨h1|h1,_⟩
  ·exact .inl (own1 b h1)
  ·exact .inl h1.1
  ·exact .inr (by omega)
theorem Sat.renew {I:Nat→Prop} {η:Eta} {w w':World} {H:List O} (h:Sat I η w H) (H₁:List O) (hl:H₁.length=H.length) (hlive:∀(id:Nat) (o:O),H₁[id]? = some o→o.live→H[id]? = some o)
  (row:Option Nat) (hg:w.grownBy w' row) (hrow:∀b,row=some b→own η H b∧¬own η H₁ b) (e:Option Nat×Nat) (o:O)
  (heb:∀b c,e=(some b,c)→(row=some b∨b=w.heap.size)∧b<w'.heap.size) (ho:Mono I η w I (η++[e]) w'→SatO I (η++[e]) w' e o) (hin:∀b,¬o.inner b:=by exact fun _ h=>h) :
  Sat I (η++[e]) w' (H₁++[o])∧Mono I η w I (η++[e]) w'∧Step I (own η H) w I (own (η++[e]) (H₁++[o])) w':=by
 refine h.renewG H₁ hl hlive row hg hrow e o (fun b hb=>?_) ho
 rcases hb with⟨_,hb⟩|hb
 ·obtain⟨bb,c⟩:=e
  simp only at hb
  subst hb
  obtain⟨g1,g2⟩:=heb b c rfl
  exact⟨g1.imp (fun er=>hrow b er) id,g2⟩
 ·exact(hin b hb).elim
theorem flat_rows {I:Nat→Prop} {w:World} {b o sz:Nat} {g:Nat→List V}:∀(m:Nat),(∀i,i<m→∃vs:List Value,vs.length=sz∧(∀j u,vs[j]? = some u→w.cell? ⟨b,o+(i*sz+j),none⟩=some u)∧(∀u∈vs,u.oneCell'=true)∧DenL I [] w (g i) vs)→
  ∃news:List Value,news.length=m*sz∧(∀j u,news[j]? = some u→w.cell? ⟨b,o+j,none⟩=some u)∧(∀u∈news,u.oneCell'=true)∧∀i,i<m→DenL I [] w (g i) ((news.drop (i*sz)).take sz)
 |0,_=>⟨[],by simp,by simp,by simp,fun i hi=>by omega⟩
 |m+1,h=>by
  obtain⟨news,h1,h2,h3,h4⟩:=flat_rows m (fun i hi=>h i (by omega))
  obtain⟨vs,k1,k2,k3,k4⟩:=h m (by omega)
  refine⟨news++vs,by simp[h1,k1,a0W],fun j u hj=>?_,fun u hu=>?_,fun i hi=>?_⟩
  ·by_cases hjl:j<news.length
   ·rw[a0F hjl] at hj;exact h2 j u hj
   ·rw[a0S (by omega)] at hj
    have:=k2 _ u hj
    rw[h1] at this
    rw[show m*sz+(j-m*sz)=j by omega] at this
    exact this
  ·rcases a0U.1 hu with hu|hu
   ·exact h3 u hu
   ·exact k3 u hu
  ·by_cases him:i<m
   ·have hle:(i+1)*sz≤m*sz:=a0H _ him
    rw[a0W] at hle
    have:((news++vs).drop (i*sz)).take sz=(news.drop (i*sz)).take sz:=by
     rw[a1S (by omega),a2T (by simp;omega)]
    rw[this]
    exact h4 i him
   ·have:i=m:=by omega
    subst this
    have:((news++vs).drop (i*sz)).take sz=vs:=by
     rw[←h1,List.drop_left,a3N (by omega)]
    rw[this]
    exact k4
theorem a2o {I:Nat→Prop} {η:Eta} {w:World} {H:List O} (hS:Sat I η w H) {sz:Nat} {x:V} {v:Value} {m:Nat} {g:Nat→List V} {c:Option Prop} (h:srcOf H sz x=some (m,g,c)) (hc:∀p,c=some p→p) (hd:Den I η w x v) :
  (m=0∧∃a cap,v=.slice a 0 cap)∨∃b o cap,v=.slice (some ⟨b,o,none⟩) m cap∧∃news:List Value,news.length=m*sz∧(∀j u,news[j]? = some u→w.cell? ((⟨b,o,none⟩:Addr).add j)=some u)∧(∀u∈news,u.oneCell'=true)∧
   ∀i,i<m→DenL I [] w (g i) ((news.drop (i*sz)).take sz):=by
 unfold srcOf at h
 split at h
 ·simp only[cond_eq_ite] at h
  split at h
  ·rename_i hsz
   obtain rfl:=a0f hsz
   cases h
   rcases hd with hd|⟨b,o,cap,rfl,_,hr⟩
   ·exact .inl hd
   ·obtain⟨news,h1,h2,h3,h4⟩:=flat_rows _ hr.2
    exact .inr ⟨b,o,cap,rfl,news,h1,fun j u hj=>by rw[Addr.add_none];exact h2 j u hj,h3,h4⟩
  ·cases h
 ·split at h
  ·rename_i ty sz' m' g' nz hgt
   simp only[cond_eq_ite] at h
   split at h
   ·rename_i hsz
    obtain rfl:=a0f hsz
    cases h
    obtain rfl:=hc _ rfl
    obtain⟨⟨bb,cp⟩,hη,hz,rfl⟩:=hd
    obtain⟨xs,hown,h1,hnil,hden⟩:=hS.obj _ _ _ hη (a0j hgt trivial)
    cases bb with
    |none=>exact .inl ⟨(hz rfl).1,none,0,by rfl⟩
    |some b=>
     refine .inr ⟨b,0,cp,rfl,xs,hown.1,fun j u hj=>?_,h1,hden⟩
     rw[Addr.add_none,a3B]
     exact a2h hown j u hj
   ·cases h
  ·cases h
 ·rename_i id sz' off m2
  split at h
  ·rename_i ty sz2 m' g' nz hgt
   simp only[cond_eq_ite,a0D] at h
   split at h
   ·rename_i hsz
    obtain rfl:=a0f hsz.1
    obtain rfl:=a0f hsz.2
    cases h
    have hle:=hc _ rfl
    rcases hd.2 with hd|⟨b,cc,cap,hη,_,rfl⟩
    ·exact .inl hd
    ·obtain⟨xs,hown,h1,hnil,hden⟩:=hS.obj _ _ _ hη (a0j hgt trivial)
     have hxl:=hown.1
     have hle2:(off+m)*sz≤m'*sz:=a0H _ hle
     rw[a0W] at hle2
     refine .inr ⟨b,off*sz,cap,rfl,(xs.drop (off*sz)).take (m*sz),by simp[hxl];omega,fun j u hj=>?_,fun u hu=>h1 u (a0Y (a0X hu)),fun i hi=>?_⟩
     ·rw[Addr.add_none]
      rw[a1C] at hj
      split at hj
      ·rw[a0R] at hj
       exact a2h hown _ u hj
      ·cases hj
     ·have:=hden (off+i) (by omega)
      have e1:(((xs.drop (off*sz)).take (m*sz)).drop (i*sz)).take sz=(xs.drop ((off+i)*sz)).take sz:=by
       have hi2:(i+1)*sz≤m*sz:=a0H _ hi
       rw[a0W] at hi2
       rw[a3I,a2F,a3R,a0W]
       congr 1
       omega
      rw[e1]
      exact this
   ·cases h
  ·cases h
 ·cases h
  obtain⟨ad,rfl⟩:=hd
  exact .inl ⟨rfl,ad,0,rfl⟩
 ·cases h
  exact .inl ⟨rfl,_,_,hd⟩
 ·rename_i id off sz' m2 cp
  split at h
  ·rename_i ty vs hgt
   simp only[cond_eq_ite,a0D] at h
   split at h
   ·rename_i hcc
    obtain⟨⟨hsz,hle⟩,hfo⟩:=hcc
    obtain rfl:=a0f hsz
    have hle:=a0P hle
    rw[a1j] at hle
    rw[a2f,take_eq] at hfo
    cases h
    obtain⟨b,c,hη,hnc,rfl⟩:=hd
    obtain⟨b',c',he,xs,h1,h2,h3⟩:=hS.obj id _ _ hη (a0j hgt trivial)
    cases he
    have hl3:=h3.length
    have hmc:m*sz≤cp*sz:=a0H _ hnc
    refine .inr ⟨b,off,cp,rfl,(xs.drop off).take (m*sz),by simp;omega,fun j u hj=>?_,fun u hu=>h2 u (a0Y (a0X hu)),fun i hi=>?_⟩
    ·rw[Addr.add_none]
     rw[a1C] at hj
     split at hj
     ·rw[a0R] at hj
      simp[World.cell?,h1,hj]
     ·cases hj
    ·have hi2:(i+1)*sz≤m*sz:=a0H _ hi
     rw[a0W] at hi2
     have hfd:DenL I [] w ((vs.drop off).take (cp*sz)) ((xs.drop off).take (cp*sz)):=fo_nil_list _ _ hfo ((h3.drop off).take _)
     have hfd2:=(hfd.drop (i*sz)).take sz
     show DenL I [] w (take sz (drop (off+i*sz) vs)) _
     rw[a2f,take_eq]
     have e1:(((xs.drop off).take (m*sz)).drop (i*sz)).take sz=(((xs.drop off).take (cp*sz)).drop (i*sz)).take sz:=by
      rw[a3I,a3I,a2F,a2F]
      congr 1
      omega
     have e2:(vs.drop (off+i*sz)).take sz=(((vs.drop off).take (cp*sz)).drop (i*sz)).take sz:=by
      rw[a3I,a2F,a3R]
      congr 1
      omega
     rw[e1,e2]
     exact hfd2
   ·cases h
  ·cases h
 ·cases h
theorem a2b {w:World} {e:TypeId} {sz n:Nat} {v:Value} {xs:List Value} (h:w.ownsRow 0 e sz v n xs):∃ee:Option Nat×Nat,v=slVal ee n∧(ee.1=none↔v=.slice none 0 0)∧ee.1=v.ownBlock∧(∀b c,ee=(some b,c)→b<w.heap.size)∧(ee.1=none→n=0∧ee.2=0):=by
 rcases h.2 with⟨rfl,rfl⟩|⟨g,cap,cur,rfl,_,hg,_⟩
 ·exact⟨(none,0),rfl,by simp,rfl,fun b c h=>by simp at h,fun _=>⟨rfl,rfl⟩⟩
 ·refine⟨(some g,cap),rfl,by simp,rfl,fun b c h=>?_,fun h=>by simp at h⟩
  simp at h
  obtain⟨rfl,_⟩:=h
  exact(a0L.1 hg).1
theorem run_append_none (w:World) (t ty e:TypeId) (i:TypeInfo) (ht:P.underlying t=some (.slice e)) (hi:P.info? e=some i) {v:Value} {n:Nat} {xs:List Value} (hown:w.ownsRow 0 e i.size v n xs) (a:Option Addr) (cap:Nat) :
  (Builtin.append_ #[t,t] ty #[v,.slice a 0 cap]).run P w=.ok v w:=by
 rcases hown.2 with⟨rfl,rfl⟩|⟨g,cap,cur,rfl,_,hg,hnc,_⟩<;>cases a
 ·simp[Builtin.append_,run_underlying ht,sizeOf,typeInfo,hi,Builtin.lenOf,Builtin.firstCells]
 ·simp[Builtin.append_,run_underlying ht,sizeOf,typeInfo,hi,Builtin.lenOf,Builtin.firstCells,loadCells,loadCellsFrom]
 ·simp[Builtin.append_,run_underlying ht,sizeOf,typeInfo,hi,Builtin.lenOf,Builtin.firstCells,hnc,storeCells]
 ·simp[Builtin.append_,run_underlying ht,sizeOf,typeInfo,hi,Builtin.lenOf,Builtin.firstCells,hnc,storeCells,loadCells,loadCellsFrom]
theorem srcC_spec {c:Option Prop} {K:Prop} (h:srcC c K):(∀p,c=some p→p)∧K:=by
 cases c with
 |none=>exact⟨fun _ h=>by simp at h,h⟩
 |some p=>exact⟨fun _ hm=>by cases hm;exact h.1,h.2⟩
theorem natK_eq (n:Nat) (K:Nat→Prop):natK n K=K n:=by
 unfold natK
 split<;>rfl
theorem a3b {I:Nat→Prop} {η:Eta} {w:World} {H:List O} (hS:Sat I η w H) (t ty e:TypeId) (i:TypeInfo) (z:Value) (ht:P.underlying t=some (.slice e)) (hi:P.info? e=some i) (hz:i.zero=some z)
  (hzs:z.cells.size=i.size) (hsz:0<i.size) {v:Value} {n:Nat} {xs:List Value} (hown:w.ownsRow 0 e i.size v n xs) {x:V} {xv:Value} {m:Nat} {g:Nat→List V} {c:Option Prop} (h:srcOf H i.size x=some (m,g,c)) (hc:∀p,c=some p→p) (hd:Den I η w x xv)
  (h63:n+m≤140737488355328) (hbytes:(n+m)*i.bytes≤140737488355328) :
  ∃v' w' news,(Builtin.append_ #[t,t] ty #[v,xv]).run P w=.ok v' w'∧w'.ownsRow 0 e i.size v' (n+m) (xs++news)∧w.grownBy w' v.ownBlock∧
   (v'=.slice none 0 0↔v=.slice none 0 0∧m=0)∧(∀g,v'.ownBlock=some g→v.ownBlock=some g∨g=w.heap.size)∧
   news.length=m*i.size∧(∀u∈news,u.oneCell'=true)∧∀k,k<m→DenL I [] w (g k) ((news.drop (k*i.size)).take i.size):=by
 rcases a2o hS h hc hd with⟨rfl,a0,cap0,rfl⟩|⟨b,o,cap,rfl,news,h1,h2,h3,h4⟩
 ·exact⟨v,w,[],run_append_none w t ty e i ht hi hown a0 cap0,by simpa using hown,⟨rfl,rfl,rfl,Nat.le_refl _,fun _ _ _=>rfl⟩,by simp,fun g hg=>.inl hg,by simp,by simp,fun k hk=>by omega⟩
 ·obtain⟨v',w',g1,g2,g3,g4,g5⟩:=run_append_ex w t ty e i z ht hi hz hzs hsz v n xs hown ⟨b,o,none⟩ m cap news h1 h2 h3 h63 hbytes
  exact⟨v',w',news,g1,g2,g3,g4,g5,h1,h3,h4⟩
theorem slVal_nil {e:Option Nat×Nat} {n:Nat}:slVal e n=.slice none 0 0↔e.1=none:=by
 obtain⟨bb,c⟩:=e
 cases bb<;>simp[slVal]
theorem slVal_own (e:Option Nat×Nat) (n:Nat):(slVal e n).ownBlock=e.1:=by
 obtain⟨bb,c⟩:=e
 cases bb<;>rfl
theorem appended_rows {I:Nat→Prop} {w:World} {n m sz:Nat} {f g:Nat→List V} {xs news:List Value} (hx:xs.length=n*sz) (_hn:news.length=m*sz) (hf:∀i,i<n→DenL I [] w (f i) ((xs.drop (i*sz)).take sz))
  (hg:∀i,i<m→DenL I [] w (g i) ((news.drop (i*sz)).take sz)):∀i,i<n+m→DenL I [] w (appF n f g i) (((xs++news).drop (i*sz)).take sz):=by
 intro i hi
 unfold appF
 by_cases hin:i<n
 ·rw[if_pos hin]
  have hle:(i+1)*sz≤n*sz:=a0H _ hin
  rw[a0W] at hle
  have:((xs++news).drop (i*sz)).take sz=(xs.drop (i*sz)).take sz:=by
   rw[a1S (by omega),a2T (by simp;omega)]
  rw[this]
  exact hf i hin
 ·rw[if_neg hin]
  have hsub:(i-n)*sz=i*sz-n*sz:=Nat.sub_mul _ _ _
  have hle:n*sz≤i*sz:=a0H _ (by omega)
  have:(xs++news).drop (i*sz)=news.drop ((i-n)*sz):=by
   rw[List.drop_append,a2J (by omega),a4A,hx,hsub]
  rw[this]
  exact hg (i-n) (by omega)
theorem rows_splice {I:Nat→Prop} {w:World} {sz n' off n:Nat} {f g:Nat→List V} {xs zs:List Value} (hx:xs.length=n'*sz) (hz:zs.length=n*sz) (hfit:off+n≤n') (hf:∀i,i<n'→DenL I [] w (f i) ((xs.drop (i*sz)).take sz))
  (hg:∀i,i<n→DenL I [] w (g i) ((zs.drop (i*sz)).take sz)):∀i,i<n'→DenL I [] w (if off≤i∧i<off+n then g (i-off) else f i) (((xs.take (off*sz)++zs++xs.drop ((off+n)*sz)).drop (i*sz)).take sz):=by
 intro i hi
 have h1:(i+1)*sz≤n'*sz:=a0H _ hi
 have h2:(off+n)*sz≤n'*sz:=a0H _ hfit
 rw[a0W] at h1 h2
 have key:∀k,(xs.take (off*sz)++zs++xs.drop ((off+n)*sz))[k]? = if k<off*sz then xs[k]? else if k<off*sz+n*sz then zs[k-off*sz]? else xs[k]?:=by
  intro k
  have e0:min (off*sz) (n'*sz)=off*sz:=by omega
  simp only[a1G,a0M,a0J,a1C,a0R,hx,hz,e0,a0W]
  by_cases c1:k<off*sz
  ·simp[c1,show k<off*sz+n*sz by omega]
  ·by_cases c2:k<off*sz+n*sz
   ·simp[c1,c2]
   ·simp only[c1,c2,if_false]
    congr 1
    omega
 by_cases c:off≤i∧i<off+n
 ·rw[if_pos c]
  have:=hg (i-off) (by omega)
  refine Eq.mp ?_ this
  congr 1
  apply a1J
  intro k
  have h3:(i-off)*sz=i*sz-off*sz:=Nat.sub_mul _ _ _
  have h4:off*sz≤i*sz:=a0H _ c.1
  have h5:(i+1)*sz≤(off+n)*sz:=a0H _ c.2
  rw[a0W,a0W] at h5
  simp only[a1C,a0R,key]
  by_cases ck:k<sz
  ·simp only[ck,if_true]
   rw[if_neg (by omega),if_pos (by omega),h3]
   congr 1
   omega
  ·simp[ck]
 ·rw[if_neg c]
  refine Eq.mp ?_ (hf i hi)
  congr 1
  apply a1J
  intro k
  simp only[a1C,a0R,key]
  by_cases ck:k<sz
  ·simp only[ck,if_true]
   by_cases c1:i<off
   ·have h5:(i+1)*sz≤off*sz:=a0H _ c1
    rw[a0W] at h5
    rw[if_pos (by omega)]
   ·have h5:(off+n)*sz≤i*sz:=a0H _ (by omega)
    rw[a0W] at h5
    rw[if_neg (by omega),if_neg (by omega)]
  ·simp[ck]
theorem zero_rows {I:Nat→Prop} {w:World} {zv:Value} {sz:Nat} (hzs:zv.cells.size=sz) (n:Nat):∀i,i<n→DenL I [] w (zv.cells.toList.map ofZ) (((Builtin.zeroCells zv.cells n).toList.drop (i*sz)).take sz):=by
 intro i hi
 have h1:(i+1)*sz≤n*sz:=a0H _ hi
 rw[a0W] at h1
 have e:((Builtin.zeroCells zv.cells n).toList.drop (i*sz)).take sz=zv.cells.toList:=by
  apply a1J
  intro k
  simp only[a1C,a0R]
  by_cases ck:k<sz
  ·rw[if_pos ck]
   have hlt:i*sz+k<n*zv.cells.size:=by rw[hzs];omega
   have hk:k<zv.cells.size:=by omega
   have hmod:(i*sz+k) % zv.cells.size=k:=by rw[hzs,Nat.mul_comm,Nat.mul_add_mod,Nat.mod_eq_of_lt ck]
   simp[Builtin.zeroCells,hlt,hmod,hk]
  ·rw[if_neg ck]
   simp
   omega
 rw[e]
 exact a2c I [] w _
theorem fillRows {I:Nat→Prop} {η:Eta} {w:World} {T:List V} {a:Act} (hT:SatT I η w T a.tmps) (sz:Nat):∀(l:List (Nat×Operand)) (k:Nat) (rows:List (List V)) (cs:List Value),
  (∀p∈l,a2m T p.2)→rowsOf sz T k l=some rows→(k+l.length)*sz≤cs.length→(∀u∈cs,u.oneCell'=true)→
  ∃cells:List Value,Instr.fill (fun i=>some (i*sz,sz)) cs.toArray (l.map fun p=>(p.1,a.eval p.2))=some cells.toArray∧cells.length=cs.length∧cells.take (k*sz)=cs.take (k*sz)∧(∀u∈cells,u.oneCell'=true)∧
   rows.length=l.length∧∀(j:Nat) (z:List V),rows[j]? = some z→DenL I [] w z ((cells.drop ((k+j)*sz)).take sz)
 |[],k,rows,cs,_,h,_,h1=>by
  simp only[rowsOf,a1H] at h
  subst h
  exact⟨cs,rfl,rfl,rfl,h1,rfl,fun j z hj=>by simp at hj⟩
 |(i,x) :: l,k,rows,cs,ht,h,hle,h1=>by
  simp only[rowsOf] at h
  split at h
  ·rename_i z rs hz hr
   simp only[cond_eq_ite,a0D] at h
   split at h
   ·rename_i hc
    obtain⟨⟨hc1,hc2⟩,hfo⟩:=hc
    obtain rfl:=a0f hc1
    rw[a1j] at hc2
    have hzl:=a0f hc2
    cases h
    have hx:=a0l hT (ht (i,x) (by simp))
    obtain⟨ws,hws,hw1,hwd⟩:=a2g hz hx
    have hwl:=hwd.length
    simp only[a2R] at hle
    have hle':i*sz+sz≤cs.length:=by
     have:(i+1)*sz≤(i+(l.length+1))*sz:=a0H _ (by omega)
     rw[a0W] at this
     omega
    have hspl:(Sx.splice cs (i*sz) ws)=cs.take (i*sz)++ws++cs.drop (i*sz+ws.length):=splice_eq ws cs (i*sz) (by omega)
    obtain⟨cells,g1,g2,g3,g4,g5,g6⟩:=fillRows hT sz l (i+1) rs (cs.take (i*sz)++ws++cs.drop (i*sz+ws.length)) (fun p hp=>ht p (by simp[hp])) hr (by
      simp only[a0M,a0J,a1E]
      have:(i+1+l.length)*sz=(i+(l.length+1))*sz:=by rw[show i+1+l.length=i+(l.length+1) by omega]
      omega) (by
     intro u hu
     simp only[a0U] at hu
     rcases hu with(hu|hu)|hu
     ·exact h1 u (a0X hu)
     ·exact hw1 u hu
     ·exact h1 u (a0Y hu))
    have hlen:(cs.take (i*sz)++ws++cs.drop (i*sz+ws.length)).length=cs.length:=by
     simp only[a0M,a0J,a1E];omega
    refine⟨cells,?_,g2.trans hlen,?_,g4,by simp[g5],?_⟩
    ·simp only[a3Y,Instr.fill]
     rw[hws]
     simp only[a2B]
     rw[if_neg (by simp;omega)]
     have:=foldl_set ws (i*sz) cs 0 (by omega)
     simp only[a2O] at this
     have e2:(Array.foldl (fun cs (x:Value×Nat)=>cs.setIfInBounds (i*sz+x.2) x.1) cs.toArray ws.toArray.zipIdx)=(Sx.splice cs (i*sz) ws).toArray:=by
      rw[←this]
      simp
     rw[e2,hspl]
     exact g1
    ·have hh:(cells.take ((i+1)*sz)).take (i*sz)=cells.take (i*sz):=by rw[a2F];congr 1;rw[a0W];omega
     rw[←hh,g3,a2F]
     have:min (i*sz) ((i+1)*sz)=i*sz:=by rw[a0W];omega
     rw[this,a1P,a2T (by simp;omega),a2F]
     congr 1
     omega
    ·intro j zz hj
     cases j with
     |succ j=>
      have:=g6 j zz (by simpa using hj)
      rw[show i+1+j=i+(j+1) by omega] at this
      exact this
     |zero=>
      simp at hj
      subst hj
      have e3:(cells.drop ((i+0)*sz)).take sz=ws:=by
       have hh:((cells.take ((i+1)*sz)).drop (i*sz))=(cells.drop (i*sz)).take sz:=by
        rw[a3I];congr 1;rw[a0W];omega
       rw[a2O,←hh,g3]
       have e4:(i+1)*sz=i*sz+ws.length:=by rw[a0W];omega
       rw[e4,a2T (by simp;omega),a3N (by simp;omega),a1S (by simp;omega),a2J (by simp;omega),a4A]
      rw[e3]
      exact fo_nil_list _ _ hfo hwd
   ·cases h
  ·cases h
theorem forceLL_eq:∀(l:List (List V)) (K:List (List V)→Prop),forceLL l K=K l
 |[],_=>rfl
 |z :: l,K=>by simp only[forceLL];rw[forceL_eq,forceLL_eq l]
theorem built_run {I:Nat→Prop} {η:Eta} {w:World} {T:List V} {a:Act} (hT:SatT I η w T a.tmps) {o:Oper} {t e:TypeId} {k:Nat} {parts:Array (Nat×Operand)} (hop:o.op=.buildSlice t k parts) {i:TypeInfo} {zv:Value}
  (hu:P.underlying t=some (.slice e)) (hinfo:P.info? e=some i) (hzv:i.zero=some zv) (hz1:∀u∈zv.cells.toList,u.oneCell'=true) (hzs:zv.cells.size=i.size) (ht:∀p∈parts.toList,a2m T p.2) {rows:List (List V)}
  (hrows:rowsOf i.size T 0 parts.toList=some rows) (hc1:rows.length=k) (hc2:1≤i.size) (hc3:k*i.size≤16777216) :
  ∃cells:List Value,(execOp a.eval o).run P w=.ok (.value (.slice (some ⟨w.heap.size,0,none⟩) k k)) (w.alloc (.cells cells.toArray e))∧cells.length=k*i.size∧(∀u∈cells,u.oneCell'=true)∧
   ∀(j:Nat) (z:List V),rows[j]? = some z→DenL I [] w z ((cells.drop ((0+j)*i.size)).take i.size):=by
 have hcs1:∀u∈((Array.range (k*i.size)).map (zv.cells[· % zv.cells.size]!)).toList,u.oneCell'=true:=by
  intro u hu
  simp only[a3M,Array.toList_range,a2V,a1F] at hu
  obtain⟨j,hj,rfl⟩:=hu
  have hmod:j % zv.cells.size<zv.cells.size:=Nat.mod_lt _ (by omega)
  rw[getElem!_pos zv.cells _ hmod]
  exact hz1 _ (by simp)
 obtain⟨cells,g1,g2,g3,g4,g5,g6⟩:=fillRows hT i.size parts.toList 0 rows _ ht hrows (by
  have:(rowsOf i.size T 0 parts.toList).isSome:=by rw[hrows];rfl
  have hlr:∀(l:List (Nat×Operand)) (q:Nat) (rs:List (List V)),rowsOf i.size T q l=some rs→rs.length=l.length:=by
   intro l
   induction l with
   |nil=>intro q rs hq;simp only[rowsOf,a1H] at hq;subst hq;rfl
   |cons p l ih=>
    intro q rs hq
    simp only[rowsOf] at hq
    split at hq
    ·rename_i z' r' hz' hr'
     simp only[cond_eq_ite] at hq
     split at hq
     ·cases hq;simp[ih _ _ hr']
     ·cases hq
    ·cases hq
  have:=hlr _ _ _ hrows
  simp only[a3M,Array.toList_range,a1L,a3Q,a3B]
  rw[←this,hc1]
  exact a0K _) hcs1
 have hlen:cells.length=k*i.size:=by rw[g2];simp
 have hrun:(execOp a.eval o).run P w=.ok (.value (.slice (some ⟨w.heap.size,0,none⟩) k k)) (w.alloc (.cells cells.toArray e)):=by
  by_cases hk0:k*i.size=0
  ·have hk:k=0:=by
    rcases Nat.mul_eq_zero.1 hk0 with h0|h0
    ·exact h0
    ·omega
   subst hk
   have hcn:cells=[]:=List.eq_nil_of_length_eq_zero (by simpa using hlen)
   subst hcn
   have hr0:parts.toList=[]:=by
    have:rows.length=parts.toList.length:=g5
    exact a1R (by omega)
   have hp0:parts=#[]:=by rw[←Array.toList_eq_nil_iff];exact hr0
   subst hp0
   simp[execOp,hop,Instr.buildSlice,run_underlying hu,sizeOf,typeInfo,hinfo,Instr.fill,newRow,newObj,Sem.run,Array.range_zero']
  ·have hb:=run_buildSlice (P:=P) w t e k (parts.map fun(p:Nat×Operand)=>(p.1,a.eval p.2)) cells.toArray i zv hu hinfo hzv (by omega) hk0 (by
    rw[←g1]
    congr 1
    simp)
   simp only[execOp,hop,Sem.run_bind]
   rw[show(Array.map (fun x=>match x with|(i,x)=>(i,a.eval x)) parts)=parts.map (fun(p:Nat×Operand)=>(p.1,a.eval p.2)) from rfl,hb]
   simp
 exact⟨cells,hrun,hlen,g4,g6⟩
theorem made_run {I:Nat→Prop} {w:World} {t e:TypeId} {i:TypeInfo} {zv:Value} (hu:P.underlying t=some (.slice e)) (hinfo:P.info? e=some i) (hzv:i.zero=some zv) (hz1:∀u∈zv.cells.toList,u.oneCell'=true) (hzs:zv.cells.size=i.size)
  (kl kc:IntKind) {lv cv:Int} (h0:0≤lv) (hlc:lv≤cv) (hc2:cv≤137438953472) (hb1:i.bytes≤1024) :
  ∃cells:List Value,(Instr.makeSlice t (.int kl lv) (.int kc cv)).run P w=.ok (.slice (some ⟨w.heap.size,0,none⟩) lv.toNat cv.toNat) (w.alloc (.cells cells.toArray e))∧cells.length=cv.toNat*i.size∧(∀u∈cells,u.oneCell'=true)∧
   ∀k,k<lv.toNat→DenL I [] w (zv.cells.toList.map ofZ) ((cells.drop (k*i.size)).take i.size):=by
 have hbytes:cv*(i.bytes:Int)≤137438953472*1024:=Int.mul_le_mul hc2 (by omega) (by omega) (by omega)
 have hrun:=run_make (P:=P) w t e i zv hu hinfo hzv kl kc lv cv h0 hlc (by rw[Int.mul_comm];omega) (by omega)
 have hcells:∀j,j<cv.toNat*i.size→(madeCells zv.cells (cv.toNat*i.size)).toList[j]? = some (zv.cells[j % zv.cells.size]!):=by
  intro j hj
  simp[madeCells,hj]
 refine⟨(madeCells zv.cells (cv.toNat*i.size)).toList,by simpa using hrun,by simp[madeCells],?_,?_⟩
 ·intro u hu
  obtain⟨j,hj,rfl⟩:=a1A hu
  have hj':j<cv.toNat*i.size:=by simpa [madeCells] using hj
  have:=hcells j hj'
  rw[a0C hj] at this
  rw[a1Z this]
  have hpos:0<i.size:=by
   rcases a3C i.size with h0|h0
   ·rw[h0] at hj';simp at hj'
   ·exact h0
  have hmod:j % zv.cells.size<zv.cells.size:=Nat.mod_lt _ (by omega)
  rw[getElem!_pos zv.cells _ hmod]
  exact hz1 _ (by simp)
 ·intro k hk
  have:((madeCells zv.cells (cv.toNat*i.size)).toList.drop (k*i.size)).take i.size=zv.cells.toList:=by
   apply a1J
   intro j
   rw[a1C,a0R]
   have hle:(k+1)*i.size≤cv.toNat*i.size:=a0H _ (by omega)
   rw[a0W] at hle
   by_cases hj:j<i.size
   ·rw[if_pos hj,hcells _ (by omega),hzs]
    have:(k*i.size+j) % i.size=j:=by rw[Nat.mul_comm,Nat.mul_add_mod,Nat.mod_eq_of_lt hj]
    rw[this,getElem!_pos zv.cells j (by omega)]
    simp[hzs,hj]
   ·rw[if_neg hj,a0V (by simp;omega)]
  rw[this]
  exact a2c I [] w _
section
variable {R:Rel} (hR:RelH R) (hE:a1b E P) {r:Option Nat} {n:Nat} {Q:Exit→Act→World→Prop}
include hR hE
omit hE in
theorem builtAt {T:List V} {H:List O} {o:Oper} {K:KT} {I:Nat→Prop} {η:Eta} {w:World} {a:Act} (hg:Good I η w T H a) (hd:∀c,o.op≠.defer c) (ty sz k cap:Nat) (hkc:k≤cap) (hcap:cap≤maxLen) (f:Nat→List V) (cells:List Value)
  (hrun:(execOp a.eval o).run P w=.ok (.value (.slice (some ⟨w.heap.size,0,none⟩) k cap)) (w.alloc (.cells cells.toArray ty))) (hl:cells.length=cap*sz) (h1:∀u∈cells,u.oneCell'=true)
  (hrow:∀i,i<k→DenL I [] w (f i) ((cells.drop (i*sz)).take sz)) (hk:K (match o.dst with|some d=>set T d (.osl H.length k)|none=>T) (H++[.row ty sz k f false])) :
  o.wpIn (Fw r) n P a w (a1r R I (own η H) w a.defers K) Q:=by
 have hlt:∀i,i<k→(i+1)*sz≤k*sz:=fun i hi=>a0H _ hi
 have hkm:k*sz≤cap*sz:=a0H _ hkc
 have m0:Mono I [] w I [] (w.alloc (.cells cells.toArray ty)):=⟨fun _ _ he _=>he,fun _ hb=>hb,fun b hb=>by
  have:=hg.sat.ilt b hb
  rw[World.alloc_heap,a3E]
  have:b≠w.heap.size:=by omega
  simp[this]⟩
 obtain⟨s1,s2,s3⟩:=hg.sat.push (.cells cells.toArray ty) (.row ty sz k f false) cap (by
  refine⟨cells.take (k*sz),⟨by rw[List.length_take,hl];omega,.inr ⟨w.heap.size,cap,cells.toArray,rfl,Nat.zero_le _,by rw[World.alloc_heap];simp,hkc,hcap,by simpa using hl,by simp⟩⟩,fun u hu=>h1 u (List.mem_of_mem_take hu),by simp,fun i hi=>?_⟩
  have:=hlt i hi
  rw[a0W] at this
  have e1:((cells.take (k*sz)).drop (i*sz)).take sz=(cells.drop (i*sz)).take sz:=by
   rw[a3I,a2F]
   congr 1
   omega
  rw[e1]
  exact DenL.mono m0 _ _ (hrow i hi))
 refine a0m hd hrun ⟨Act.put_defers' _ _ _,I,_,_,_,hk,⟨s1,(hg.tmp.mono s2).put ⟨(some w.heap.size,cap),?_,fun h=>by simp at h,rfl⟩⟩,hR.step s3 (fun _ _ hh=>by rw[a0F (a0B.1 hh).1];exact hh)⟩
 rw[←hg.sat.len]
 simp
theorem a1y {T:List V} {H:List O} {o:Oper} {K:KT} {I:Nat→Prop} {η:Eta} {w:World} {a:Act} (hg:Good I η w T H a) (h:sliceOp E T H o K) (ht:∀x∈o.op.operands.toList,a2m T x) :
  o.wpIn (Fw r) n P a w (a1r R I (own η H) w a.defers K) Q:=by
 have hd:∀c,o.op≠.defer c:=by
  intro c hc
  unfold sliceOp at h
  rw[hc] at h
  exact h
 unfold sliceOp at h
 split at h
 ·rename_i t k parts hop
  split at h
  ·rename_i e he
   obtain⟨hu,i,hinfo,hs,hby,hke,hzz⟩:=a0q hE he
   split at h
   ·rename_i z rows hz hrows
    rw[hzz] at hz
    obtain⟨zv,hzv,_,hz1,hzs⟩:=a1d hz
    rw[←hs] at *
    simp only[cond_eq_ite,a0D] at h
    split at h
    ·rename_i hc
     obtain⟨⟨hc1,hc2⟩,hc3⟩:=hc
     rw[a1j] at hc1
     have hc1:=a0f hc1
     have hc2:=a0P hc2
     have hc3:=a0P hc3
     obtain⟨cells,hrun,hlen,g4,g6⟩:=built_run (P:=P) hg.tmp hop hu hinfo hzv hz1 hzs (fun p hp=>ht p.2 (by simp[hop,Op.operands];exact⟨p.1,by simpa using hp⟩)) hrows hc1 hc2 hc3
     rw[natK_eq,a1k,forceLL_eq] at h
     have hkm:k≤maxLen:=by
      have:k*1≤k*i.size:=Nat.mul_le_mul_left _ hc2
      simp only[maxLen]
      omega
     match rows,h,hc1,g6 with
     |[c],h,hc1,g6=>
      simp only at h
      rw[a1i,a0n] at h
      refine builtAt hR hg hd e i.size k k (a0K _) hkm (fun _=>c) cells hrun hlen g4 (fun q hq=>?_) h
      have hk1:k=1:=by simpa using hc1.symm
      have:q=0:=by omega
      subst this
      have:=g6 0 c rfl
      simpa using this
     |[],h,hc1,g6=>
      simp only at h
      rw[a1i,a0n] at h
      exact builtAt hR hg hd e i.size k k (a0K _) hkm (fun q=>get [] [] q) cells hrun hlen g4 (fun q hq=>by simp at hc1;omega) h
     |r1 :: r2 :: rs,h,hc1,g6=>
      simp only at h
      rw[a1i,a0n] at h
      refine builtAt hR hg hd e i.size k k (a0K _) hkm (fun q=>get [] (r1 :: r2 :: rs) q) cells hrun hlen g4 (fun q hq=>?_) h
      have hq':q<(r1 :: r2 :: rs).length:=by omega
      have:=g6 q (r1 :: r2 :: rs)[q] (by rw[a0C hq'])
      rw[a0z,a0C hq']
      simpa using this
    ·exact h.elim
   ·exact h.elim
  ·exact h.elim
 ·rename_i t l c hop
  have hl:=a0l hg.tmp (ht l (by simp[hop,Op.operands]))
  have hc:=a0l hg.tmp (ht c (by simp[hop,Op.operands]))
  split at h
  ·rename_i e kl lv kc cv he hlv hcv
   rw[hlv] at hl
   rw[hcv] at hc
   have hl:a.eval l=.int kl lv:=hl
   have hc:a.eval c=.int kc cv:=hc
   obtain⟨hu,i,hinfo,hs,hby,hke,hzz⟩:=a0q hE he
   split at h
   ·rename_i z hz
    rw[hzz] at hz
    obtain⟨zv,hzv,rfl,hz1,hzs⟩:=a1d hz
    simp only[cond_eq_ite] at h
    split at h
    ·rename_i hfo
     simp only[a0D] at hfo
     have hb1:=a0P hfo.2
     obtain⟨h0,hlc,hc2,h⟩:=h
     rw[natK_eq,a1k,forceL_eq,a1i,a0n] at h
     rw[←hs] at *
     rw[←hby] at *
     obtain⟨cells,hrun,hlen,g4,g6⟩:=made_run (P:=P) (I:=I) (w:=w) hu hinfo hzv hz1 hzs kl kc h0 hlc hc2 hb1
     refine builtAt hR hg hd e i.size lv.toNat cv.toNat (by omega) (by simp only[maxLen];omega) (fun _=>zv.cells.toList.map ofZ) cells ?_ hlen g4 g6 h
     simp[execOp,hop,hl,hc,hrun]
    ·exact h.elim
   ·exact h.elim
  ·exact h.elim
 ·rename_i sx x t t' hop
  have hs:=a0l hg.tmp (ht sx (by simp[hop,Op.operands,Call.operands]))
  have hx:=a0l hg.tmp (ht x (by simp[hop,Op.operands,Call.operands]))
  split at h
  ·rename_i e he htt
   obtain rfl:=a0f htt
   obtain⟨hu,i,hinfo,hsz,hby,hke,hzz⟩:=a0q hE he
   split at h
   ·rename_i z m g c hz hsrc hpos
    rw[hzz] at hz
    obtain⟨zv,hzv,_,hz1,hzs⟩:=a1d hz
    simp only[a0D] at hpos
    have hb1024:=a0P hpos.2
    have hpos:=a0P hpos.1
    rw[←hsz] at *
    rw[←hby] at *
    have hrunof:∀v' w',(Builtin.append_ #[t,t] o.type #[a.eval sx,a.eval x]).run P w=.ok v' w'→(execOp a.eval o).run P w=.ok (.value v') w':=by
     intro v' w' hr
     simp[execOp,hop,resolve,invoke,builtin,hr]
    split at h
    ·rename_i id n0 hsv
     rw[hsv] at hs
     split at h
     ·rename_i ty sz n' f nz hgt
      simp only[cond_eq_ite,a0D] at h
      split at h
      ·rename_i hcc
       obtain rfl:=a0f hcc.1
       obtain rfl:=a0f hcc.2
       have h0:=srcC_spec h
       clear h
       obtain⟨hc,hnn,hb2,h⟩:=h0
       subst hnn
       have hb1:(n0+m)*i.bytes≤137438953472*1024:=a2I hb2 hb1024
       rw[a1k,a0p,a1i,a0n,a0v] at h
       obtain⟨ee,hη,hnz,hsval⟩:=hs
       have hH:=a0j hgt trivial
       obtain⟨xs,hown,h1,hnil,hden⟩:=hg.sat.obj id _ _ hη hH
       obtain⟨v',w',news,g1,g2,g3,g4,g5,g6,g7,g8⟩:=a3b (P:=P) hg.sat t o.type ty i zv hu hinfo hzv hzs hpos hown hsrc hc hx (by omega) (by omega)
       obtain⟨e',k1,k2,k3,k4,k5⟩:=a2b g2
       rw[slVal_own] at g3 g5
       obtain⟨s1,s2,s3⟩:=hg.sat.renew (H.set id .gone) (by simp) (fun j o1 hj hl=>by
        rw[a0G] at hj
        by_cases hji:id=j
        ·rw[if_pos hji] at hj
         split at hj
         ·cases hj;exact hl.elim
         ·cases hj
        ·rw[if_neg hji] at hj;exact hj) ee.1 g3 (fun b hb=>by
        obtain⟨bb,cp⟩:=ee
        simp only at hb
        subst hb
        refine⟨own_mk hη hH trivial,?_⟩
        rintro⟨j,c2,o2,q1,q2,q3⟩
        rw[a0G] at q2
        by_cases hji:id=j
        ·rw[if_pos hji] at q2
         split at q2
         ·cases q2;exact(O.has_live q3).elim
         ·cases q2
        ·rw[if_neg hji] at q2
         exact hji (hg.sat.apart id j b _ c2 _ o2 hη q1 hH q2 (.inl ⟨trivial,rfl⟩) q3)) e' (.row ty i.size (n0+m) (appF n0 f g) nz) (fun b c2 hb=>by
        refine⟨?_,k4 b c2 hb⟩
        rw[k1,slVal_own] at g5
        have:=g5 b (by rw[hb])
        exact this) (fun m0=>by
        refine⟨xs++news,by rw[←k1];exact g2,fun u hu=>?_,?_,?_⟩
        ·rcases a0U.1 hu with hu|hu
         ·exact h1 u hu
         ·exact g7 u hu
        ·rw[k2,g4,slVal_nil,hnil]
         constructor
         ·rintro⟨⟨q1,q2⟩,q3⟩;exact⟨q1,by omega⟩
         ·rintro⟨q1,q2⟩;exact⟨⟨q1,by omega⟩,by omega⟩
        ·intro k hk
         exact DenL.mono m0.nil _ _ (appended_rows hown.1 g6 hden g8 k hk))
       rw[hsval] at hrunof
       refine a0m hd (hrunof v' w' g1) ⟨Act.put_defers' _ _ _,I,_,_,_,h,⟨s1,(hg.tmp.mono s2).put ⟨e',?_,k5,k1⟩⟩,hR.step s3 (fun _ _ hh=>by rw[a0F (a0B.1 hh).1];exact hh)⟩
       rw[←hg.sat.len]
       simp
      ·exact h.elim
     ·exact h.elim
    ·rename_i hsv
     rw[hsv] at hs
     have hsval:a.eval sx=.slice none 0 0:=hs
     have h0:=srcC_spec h
     clear h
     obtain⟨hc,hb2,h⟩:=h0
     have hb1:m*i.bytes≤137438953472*1024:=a2I hb2 hb1024
     rw[natK_eq,a1k,a1i,a0n] at h
     obtain⟨v',w',news,g1,g2,g3,g4,g5,g6,g7,g8⟩:=a3b (P:=P) hg.sat t o.type e i zv hu hinfo hzv hzs hpos (World.ownsRow_nil w 0 e i.size) hsrc hc hx (by omega) (by simp only[a3B];omega)
     simp only[a3B,a4A] at g2
     obtain⟨e',k1,k2,k3,k4,k5⟩:=a2b g2
     obtain⟨s1,s2,s3⟩:=hg.sat.renew H rfl (fun j o1 hj hl=>hj) none g3 (fun b hb=>by cases hb) e' (.row e i.size m g true) (fun b c2 hb=>by
      refine⟨.inr ?_,k4 b c2 hb⟩
      rw[k1,slVal_own] at g5
      rcases g5 b (by rw[hb]) with q|q
      ·simp[Value.ownBlock] at q
      ·exact q) (fun m0=>by
      refine⟨news,by rw[←k1];exact g2,g7,?_,fun k hk=>DenL.mono m0.nil _ _ (g8 k hk)⟩
      rw[k2,g4]
      simp)
     rw[hsval] at hrunof
     refine a0m hd (hrunof v' w' g1) ⟨Act.put_defers' _ _ _,I,_,_,_,h,⟨s1,(hg.tmp.mono s2).put ⟨e',?_,k5,k1⟩⟩,hR.step s3 (fun _ _ hh=>by rw[a0F (a0B.1 hh).1];exact hh)⟩
     rw[←hg.sat.len]
     simp
    ·exact h.elim
   ·exact h.elim
  ·exact h.elim
 ·rename_i x t hop
  have hx:=a0l hg.tmp (ht x (by simp[hop,Op.operands,Call.operands]))
  split at h
  ·rename_i e id sz off k he hxv
   obtain⟨hu,i,hinfo,hsz,hby,hke,hzz⟩:=a0q hE he
   rw[hxv] at hx
   split at h
   ·rename_i z ty sz' n' f nz hz hgt
    rw[hzz] at hz
    obtain⟨zv,hzv,rfl,hz1,hzs⟩:=a1d hz
    simp only[cond_eq_ite,a0D] at h
    split at h
    ·rename_i hc
     obtain rfl:=a0f hc.1.1
     obtain rfl:=a0f hc.1.2
     obtain⟨hle,h⟩:=h
     rw[forceL_eq,a0p,a0n,a0v] at h
     rw[←hsz] at *
     have hH:=a0j hgt trivial
     have hrunof:∀w',(Builtin.clear_ #[t] o.type #[a.eval x]).run P w=.ok (.tuple #[]) w'→(execOp a.eval o).run P w=.ok (.value (.tuple #[])) w':=by
      intro w' hr
      simp[execOp,hop,resolve,invoke,builtin,hr]
     by_cases hk0:k=0
     ·subst hk0
      have hxe:∃ad cap,a.eval x=.slice ad 0 cap:=by
       rcases hx.2 with⟨_,ad,cap,hxe⟩|⟨b,c,cap,_,_,hxe⟩
       ·exact⟨ad,cap,hxe⟩
       ·exact⟨_,cap,hxe⟩
      obtain⟨ad,cap,hxe⟩:=hxe
      have hrun:(Builtin.clear_ #[t] o.type #[a.eval x]).run P w=.ok (.tuple #[]) w:=by
       rw[hxe]
       cases ad<;>simp[Builtin.clear_,run_underlying hu]
      have hsame:(fun j=>if off≤j∧j<off+0 then zv.cells.toList.map ofZ else f j)=f:=by
       funext j
       rw[if_neg (by omega)]
      rw[hsame] at h
      have hset:H.set id (.row ty i.size n' f nz)=H:=by
       apply a1J
       intro j
       rw[a0G]
       split
       ·rename_i hj
        subst hj
        rw[hH]
        simp[(a0B.1 hH).1]
       ·rfl
      rw[hset] at h
      exact a0m hd (hrunof w hrun) ⟨Act.put_defers' _ _ _,I,η,_,_,h,⟨hg.sat,hg.tmp.put trivial⟩,hR.step (Step.refl _ _ _) (fun _ _ hh=>hh)⟩
     ·obtain⟨b,c,cap,hη,hkc,hxe⟩:=hx.2.resolve_left (fun h=>hk0 h.1)
      obtain⟨xs,hown,h1,hnil,hden⟩:=hg.sat.obj id _ _ hη hH
      obtain⟨hxl,hown2⟩:=hown
      rcases hown2 with⟨hbad,_⟩|⟨g,cap',cur,hge,_,hheap,hnc,hcm,hcs,htake⟩
      ·cases hbad
      ·cases hge
       have hzl:(Builtin.zeroCells zv.cells k).toList.length=k*i.size:=by rw[a2Y,size_zeroCells,hzs]
       have hfit:(off+k)*i.size≤n'*i.size:=a0H _ hle
       rw[a0W] at hfit
       have hcap:n'*i.size≤c*i.size:=a0H _ hnc
       have hz1':∀u∈(Builtin.zeroCells zv.cells k).toList,u.oneCell'=true:=by
        intro u hu
        simp only[Builtin.zeroCells,a3M,a2V,Array.toList_range,a1F] at hu
        obtain⟨q,hq,rfl⟩:=hu
        have hpos:0<zv.cells.size:=by
         rcases a3C zv.cells.size with h0|h0
         ·rw[h0] at hq;omega
         ·exact h0
        have hqm:q % zv.cells.size<zv.cells.size:=Nat.mod_lt _ hpos
        refine hz1 _ ?_
        simp[hqm]
       have hst:=run_storeCells_at P b (off*i.size) ty (Builtin.zeroCells zv.cells k).toList 0 cur w hheap (by omega) hz1'
       simp only[a2O,hzl] at hst
       have hrun:(Builtin.clear_ #[t] o.type #[a.eval x]).run P w=.ok (.tuple #[]) (w.setRow b (cur.toList.take (off*i.size)++(Builtin.zeroCells zv.cells k).toList++cur.toList.drop (off*i.size+k*i.size)).toArray):=by
        rw[hxe]
        obtain⟨k',rfl⟩:∃k',k=k'+1:=⟨k-1,by omega⟩
        simp[Builtin.clear_,run_underlying hu,zeroValue,typeInfo,hinfo,hzv,hst]
       have hcl:cur.toList.length=c*i.size:=by rw[a2Y];exact hcs
       have hnew:(cur.toList.take (off*i.size)++(Builtin.zeroCells zv.cells k).toList++cur.toList.drop (off*i.size+k*i.size)).take (n'*i.size)=xs.take (off*i.size)++(Builtin.zeroCells zv.cells k).toList++xs.drop ((off+k)*i.size):=by
        rw[←htake,a0W]
        apply a1J
        intro j
        simp only[a1C,a1G,a0M,a0J,a0R,hcl,hzl]
        by_cases c1:j<n'*i.size
        ·rw[if_pos c1]
         have e1:min (off*i.size) (c*i.size)=off*i.size:=by omega
         have e2:min (off*i.size) (min (n'*i.size) (c*i.size))=off*i.size:=by omega
         simp only[e1,e2]
         by_cases c2:j<off*i.size+k*i.size
         ·simp only[c2,if_true]
          by_cases c3:j<off*i.size
          ·simp[c3]
           omega
          ·simp[c3]
         ·simp only[c2,if_false]
          rw[if_pos (by omega)]
        ·rw[if_neg c1]
         have e2:min (off*i.size) (min (n'*i.size) (c*i.size))=off*i.size:=by omega
         simp only[e2]
         rw[if_neg (by omega),if_neg (by omega)]
       obtain⟨s1,s2,s3⟩:=hg.sat.write (o':=.row ty i.size n' (fun j=>if off≤j∧j<off+k then zv.cells.toList.map ofZ else f j) nz) hη hH trivial trivial
        (cur.toList.take (off*i.size)++(Builtin.zeroCells zv.cells k).toList++cur.toList.drop (off*i.size+k*i.size)).toArray (by
        rintro w' rfl m
        refine⟨xs.take (off*i.size)++(Builtin.zeroCells zv.cells k).toList++xs.drop ((off+k)*i.size),⟨?_,.inr ⟨b,c,_,rfl,a1X _,setRow_heap w b _ _ ty _ hheap,hnc,hcm,?_,?_⟩⟩,?_,hnil,?_⟩
        ·simp only[a0M,a0J,a1E,hxl,hzl,a0W];omega
        ·simp only[a2B,a0M,a0J,a1E,hcl,hzl];omega
        ·simpa using hnew
        ·intro u hu
         simp only[a0U] at hu
         rcases hu with(hu|hu)|hu
         ·exact h1 u (a0X hu)
         ·exact hz1' u hu
         ·exact h1 u (a0Y hu)
        ·exact rows_splice (g:=fun _=>zv.cells.toList.map ofZ) hxl hzl hle (fun j hj=>DenL.mono m.nil _ _ (hden j hj)) (zero_rows hzs k))
       exact a0m hd (hrunof _ hrun) ⟨Act.put_defers' _ _ _,I,η,_,_,h,⟨s1,(hg.tmp.mono s2).put trivial⟩,hR.step s3 (fun _ _ hh=>hh)⟩
    ·exact h.elim
   ·exact h.elim
  ·exact h.elim
 ·exact h.elim
end
end Go.Sx
namespace Go.Sx
open Go
variable {P:Program} {E:Env}
theorem scal_any {I:Nat→Prop} {η:Eta} {w:World} {J:Nat→Prop} {w':World}:(∀(c:V) (v:Value),c.scal=true→Den I η w c v→Den J [] w' c v)∧(∀(cs:List V) (vs:List Value),scalL cs=true→DenL I η w cs vs→DenL J [] w' cs vs):=by
 have key:∀k,(∀(c:V) (v:Value),SizeOf.sizeOf c≤k→c.scal=true→Den I η w c v→Den J [] w' c v)∧(∀(cs:List V) (vs:List Value),SizeOf.sizeOf cs≤k→scalL cs=true→DenL I η w cs vs→DenL J [] w' cs vs):=by
  intro k
  induction k with
  |zero=>
   refine⟨fun c v hk=>?_,fun cs vs hk=>?_⟩
   ·cases c<;>simp at hk
   ·cases cs<;>simp at hk
  |succ k ih=>
   refine⟨fun c v hk hs hd=>?_,fun cs vs hk hs hd=>?_⟩
   ·cases c<;>simp only[V.scal,a2N] at hs
    case int=>exact hd
    case prop=>exact hd
    case kb=>exact hd
    case agg cs=>
     obtain⟨vs,h1,h2,h3⟩:=hd
     exact⟨vs,h1,h2,ih.2 cs vs (by simp at hk;omega) hs h3⟩
    case tup cs=>
     obtain⟨vs,h1,h2⟩:=hd
     exact⟨vs,h1,ih.2 cs vs (by simp at hk;omega) hs h2⟩
    case lit=>exact hd
   ·cases cs with
    |nil=>exact hd
    |cons c cs=>
     simp only[scalL,a0D] at hs
     obtain⟨v,r,h1,h2,h3⟩:=hd
     exact⟨v,r,h1,ih.1 c v (by simp at hk;omega) hs.1 h2,ih.2 cs r (by simp at hk;omega) hs.2 h3⟩
 exact⟨fun c v=>(key _).1 c v (a0K _),fun cs vs=>(key _).2 cs vs (a0K _)⟩
theorem frz_row {I:Nat→Prop} {w:World} {J:Nat→Prop} {ty:TypeId} {sz n:Nat} {e:Option Nat×Nat} {xs:List Value} {f g:Nat→List V} {keep:Bool} (hown:w.ownsRow 0 ty sz (slVal e n) n xs) (hz:e.1=none→n=0) (hJ:∀b,e.1=some b→J b) (hI:keep=true→∀b,I b→J b)
  (h1:∀u∈xs,u.oneCell'=true) (hden:∀i,i<n→DenL I [] w (f i) ((xs.drop (i*sz)).take sz)) (hf:∀i,i<n→f i=g i) (hk:keep=true∨∀i,i<n→scalL (f i)=true):Den J [] w (.sl sz n g) (slVal e n):=by
 obtain⟨bb,c⟩:=e
 cases bb with
 |none=>
  obtain rfl:=hz rfl
  exact .inl ⟨rfl,none,0,rfl⟩
 |some b=>
  have hsv:slVal (some b,c) n=.slice (some ⟨b,0,none⟩) n c:=rfl
  rw[hsv] at hown
  have hncap:n≤c:=by
   rcases hown.2 with⟨g,_⟩|⟨g,cap',cur,e1,_,_,e4,_⟩
   ·simp at g
   ·simp at e1;rw[e1.2];exact e4
  refine .inr ⟨b,0,c,rfl,hJ b rfl,hncap,fun i hi=>?_⟩
  have hrow:=hden i hi
  have hle:(i+1)*sz≤n*sz:=a0H _ hi
  rw[a0W] at hle
  refine⟨(xs.drop (i*sz)).take sz,by simp[hown.1];omega,fun j u hj=>?_,fun u hu=>h1 u (a0Y (a0X hu)),?_⟩
  ·rw[a1C] at hj
   split at hj
   ·rw[a0R] at hj
    rw[a3B]
    exact a2h hown _ u hj
   ·cases hj
  ·rw[←hf i hi]
   rcases hk with hk|hk
   ·exact DenL.mono ⟨fun _ _ he _=>by simp at he,hI hk,fun _ _=>rfl⟩ _ _ hrow
   ·exact scal_any.2 _ _ (hk i hi) hrow
section
variable {I:Nat→Prop} {η:Eta} {w:World} {H:List O} {keep:Bool} {J:Nat→Prop}
mutual
theorem rEnt_sound (hS:Objs I η w H) (hJ:∀b,own η H b→J b) (hI:keep=true→∀b,I b→J b):∀(x y:V) (K:Prop) (v:Value),rEnt keep H x y K→Den I η w x v→Den J [] w y v∧K
 |.int k n,y,K,v,h,hd=>by
  cases y<;>simp only[rEnt] at h
  case int=>
   split at h
   ·rename_i hk;subst hk;obtain⟨rfl,h⟩:=h;exact⟨hd,h⟩
   ·exact h.elim
  case any=>exact⟨trivial,h⟩
 |.prop p d,y,K,v,h,hd=>by
  cases y<;>simp only[rEnt] at h
  case prop q e=>
   refine⟨?_,h.2⟩
   rw[show v=_ from hd]
   simp only[Den]
   congr 1
   rw[Bool.eq_iff_iff]
   simp[h.1]
  case any=>exact⟨trivial,h⟩
 |.kb b,y,K,v,h,hd=>by
  cases y<;>simp only[rEnt] at h
  case kb b'=>
   cases b<;>cases b'<;>first|exact⟨hd,h⟩|exact h.elim
  case prop q e=>
   cases b
   ·refine⟨?_,h.2⟩
    rw[show v=_ from hd]
    simp[Den,h.1]
   ·refine⟨?_,h.2⟩
    rw[show v=_ from hd]
    simp[Den,h.1]
  case any=>exact⟨trivial,h⟩
 |.osl id n,y,K,v,h,hd=>by
  cases y<;>simp only[rEnt] at h
  case sl sz' n' f'=>
   split at h
   ·rename_i ty sz m f nz hgt
    simp only[cond_eq_ite] at h
    split at h
    ·rename_i hsz
     obtain rfl:=a0f hsz
     obtain⟨h1,h2,hf,hk,h⟩:=h
     subst h1 h2
     refine⟨?_,h⟩
     obtain⟨⟨bb,c⟩,hη,hz,rfl⟩:=hd
     have hH:=a0j hgt trivial
     obtain⟨xs,hown,h1,hnil,hden⟩:=hS id _ _ hη hH
     cases bb with
     |none=>
      obtain rfl:=(hz rfl).1
      exact .inl ⟨rfl,none,0,rfl⟩
     |some b=>
      have hob:own η H b:=own_mk hη hH trivial
      have hsv:slVal (some b,c) n=.slice (some ⟨b,0,none⟩) n c:=rfl
      rw[hsv] at hown
      have hncap:n≤c:=by
       rcases hown.2 with⟨g,_⟩|⟨g,cap',cur,e1,_,_,e4,_⟩
       ·simp at g
       ·simp at e1;rw[e1.2];exact e4
      refine .inr ⟨b,0,c,rfl,hJ b hob,hncap,fun i hi=>?_⟩
      have hrow:=hden i hi
      have hle:(i+1)*sz≤n*sz:=a0H _ hi
      rw[a0W] at hle
      refine⟨(xs.drop (i*sz)).take sz,by simp[hown.1];omega,fun j u hj=>?_,fun u hu=>h1 u (a0Y (a0X hu)),?_⟩
      ·rw[a1C] at hj
       split at hj
       ·rw[a0R] at hj
        rw[a3B]
        exact a2h hown _ u hj
       ·cases hj
      ·rw[←hf i hi]
       rcases hk with hk|hk
       ·exact DenL.mono ⟨fun _ _ he _=>by simp at he,hI hk,fun _ _=>rfl⟩ _ _ hrow
       ·exact scal_any.2 _ _ (by rw[hf i hi];exact hk i hi) hrow
    ·exact h.elim
   ·rename_i ty ety esz m k f β hole nz hgt
    simp only[cond_eq_ite] at h
    split at h
    ·rename_i hsz
     obtain rfl:=a0f hsz
     obtain⟨h1,h2,hh,hf,hk,h⟩:=h
     subst h1 h2 hh
     refine⟨?_,h⟩
     obtain⟨e,hη,hz,rfl⟩:=hd
     have hH:=a0j hgt trivial
     obtain⟨⟨xs,q1,q2,q3,q4⟩,q5,_,_⟩:=hS id _ _ hη hH
     have hxl:=q1.1
     refine frz_row (I:=J) (keep:=true) (f:=f') q1 (fun h=>(hz h).1) (fun b hb=>hJ b ⟨id,e,_,hη,hH,.inl ⟨trivial,hb⟩⟩) (fun _ _ h=>h) q2 (fun i hi=>?_) (fun _ _=>rfl) (.inl rfl)
     obtain⟨g,hg,hgf⟩:=hf i hi
     obtain⟨r1,ys,r2,r3,r4⟩:=q5 i hi (by simp)
     have hx:=q4 i hi (by simp)
     have htk:(xs.drop (i*1)).take 1=[slVal (β i) (k i)]:=by
      rw[Nat.mul_one]
      have hlt:i<xs.length:=(a0B.1 hx).1
      rw[a2A hlt]
      simp[(a0B.1 hx).2]
     rw[htk,hg]
     refine⟨_,[],rfl,frz_row (I:=I) (keep:=keep) (f:=f i) r2 (fun h=>(r1 h).1) (fun b hb=>hJ b ⟨id,e,_,hη,hH,.inr ⟨i,hi,by simp,hb⟩⟩) hI r3 r4 hgf (hk.imp (fun h=>h) (fun h=>h i hi)),rfl⟩
    ·exact h.elim
   ·exact h.elim
  case any=>exact⟨trivial,h⟩
 |.win id sz off n,y,K,v,h,hd=>by
  cases y<;>simp only[rEnt] at h
  case sl sz' n' f'=>
   split at h
   ·rename_i ty sz2 m f nz hgt
    simp only[cond_eq_ite,a0D] at h
    split at h
    ·rename_i hsz
     obtain rfl:=a0f hsz.1
     obtain rfl:=a0f hsz.2
     obtain⟨hle,h2,hf,hk,h⟩:=h
     subst h2
     refine⟨?_,h⟩
     have hH:=a0j hgt trivial
     rcases hd.2 with hd|⟨b,c,cap,hη,hcap,rfl⟩
     ·exact .inl hd
     ·obtain⟨xs,hown,h1,hnil,hden⟩:=hS id _ _ hη hH
      have hob:own η H b:=own_mk hη hH trivial
      have hsv:slVal (some b,c) m=.slice (some ⟨b,0,none⟩) m c:=rfl
      rw[hsv] at hown
      refine .inr ⟨b,off*sz2,cap,rfl,hJ b hob,hcap,fun i hi=>?_⟩
      have hrow:=hden (off+i) (by omega)
      have hle2:(off+i+1)*sz2≤m*sz2:=a0H _ (by omega)
      rw[a0W,a0W] at hle2
      refine⟨(xs.drop ((off+i)*sz2)).take sz2,by simp[hown.1,a0W];omega,fun j u hj=>?_,fun u hu=>h1 u (a0Y (a0X hu)),?_⟩
      ·rw[a1C] at hj
       split at hj
       ·rw[a0R] at hj
        have:=a2h hown _ u hj
        rw[a0W,Nat.add_assoc] at this
        exact this
       ·cases hj
      ·rw[←hf i hi]
       rcases hk with hk|hk
       ·exact DenL.mono ⟨fun _ _ he _=>by simp at he,hI hk,fun _ _=>rfl⟩ _ _ hrow
       ·exact scal_any.2 _ _ (by rw[hf i hi];exact hk i hi) hrow
    ·exact h.elim
   ·exact h.elim
  case any=>exact⟨trivial,h⟩
 |.sl sz n f,y,K,v,h,hd=>by
  cases y<;>simp only[rEnt] at h
  case sl sz' n' f'=>
   obtain⟨hk,rfl,rfl,hf,h⟩:=h
   refine⟨?_,h⟩
   have hd':Den J [] w (.sl sz n f) v:=Den.mono (I:=I) (η:=[]) (w:=w) ⟨fun _ _ he _=>he,hI hk,fun _ _=>rfl⟩ _ _ (fo_nil _ _ rfl hd)
   rcases hd' with hd'|⟨b,o,cap,h1,h2,h3⟩
   ·exact .inl hd'
   ·refine .inr ⟨b,o,cap,h1,h2,h3.1,fun i hi=>?_⟩
    rw[←hf i hi]
    exact h3.2 i hi
  case any=>exact⟨trivial,h⟩
 |.lit x,y,K,v,h,hd=>by
  cases y<;>simp only[rEnt] at h
  case any=>exact⟨trivial,h⟩
  case lit x'=>
   obtain⟨hx,hk⟩:=h
   subst hx
   exact⟨hd,hk⟩
  case sl sz' n' f'=>
   split at h
   ·obtain⟨h0,hk⟩:=h
    subst h0
    exact⟨.inl ⟨rfl,_,_,hd⟩,hk⟩
   ·exact h.elim
 |.agg cs,y,K,v,h,hd=>by
  cases y<;>simp only[rEnt] at h
  case agg cs'=>
   obtain⟨vs,h1,h2,h3⟩:=hd
   obtain⟨g1,g2⟩:=rEntL_sound hS hJ hI cs cs' _ vs h h3
   exact⟨⟨vs,h1,h2,g1⟩,g2⟩
  case any=>exact⟨trivial,h⟩
 |.tup cs,y,K,v,h,hd=>by
  cases y<;>simp only[rEnt] at h
  case tup cs'=>
   obtain⟨vs,h1,h3⟩:=hd
   obtain⟨g1,g2⟩:=rEntL_sound hS hJ hI cs cs' _ vs h h3
   exact⟨⟨vs,h1,g1⟩,g2⟩
  case any=>exact⟨trivial,h⟩
 |.ptr id off,y,K,v,h,hd=>by
  cases y<;>simp only[rEnt] at h
  case iptr cs'=>
   split at h
   ·rename_i ty vs hgt
    obtain⟨b,c,hη,rfl⟩:=hd
    have hH:=a0j hgt trivial
    obtain⟨b',c',he,xs,h1,h2,h3⟩:=hS id _ _ hη hH
    cases he
    rw[a2f] at h
    obtain⟨g1,g2⟩:=rEntL_sound hS hJ hI _ cs' _ _ h (h3.drop off)
    refine⟨⟨b,off,xs.drop off,rfl,hJ b (own_mk hη hH trivial),fun j u hj=>?_,fun u hu=>h2 u (a0Y hu),g1⟩,g2⟩
    rw[a0R] at hj
    simp[World.cell?,h1,hj]
   ·exact h.elim
  case any=>exact⟨trivial,h⟩
 |.yld _,y,K,v,h,hd=>by
  cases y<;>simp only[rEnt] at h
  case any=>exact⟨trivial,h⟩
 |.x e,y,K,v,h,hd=>by
  cases y<;>simp only[rEnt] at h
  case sl=>
   cases e with
   |emp=>
    obtain⟨h0,hk⟩:=h
    subst h0
    obtain⟨a,rfl⟩:=hd
    exact⟨.inl ⟨rfl,a,0,rfl⟩,hk⟩
   |stamp=>exact h.elim
   |twin=>exact h.elim
   |awin id off sz n cp=>
    simp only at h
    split at h
    ·rename_i ty vs hgt
     simp only[cond_eq_ite,a0D] at h
     split at h
     ·rename_i hc
      obtain rfl:=a0f hc.1
      have hle:=a0P hc.2
      rw[a1j] at hle
      obtain⟨rfl,hf,h⟩:=h
      refine⟨?_,h⟩
      obtain⟨b,c,hη,hnc,rfl⟩:=hd
      have hH:=a0j hgt trivial
      obtain⟨b',c',he,xs,h1,h2,h3⟩:=hS id _ _ hη hH
      cases he
      have hl3:=h3.length
      refine .inr ⟨b,off,cp,rfl,hJ b (own_mk hη hH trivial),hnc,fun i hi=>?_⟩
      have hle2:(i+1)*sz≤cp*sz:=a0H _ (by omega)
      rw[a0W] at hle2
      refine⟨(xs.drop (off+i*sz)).take sz,by simp;omega,fun j u hj=>?_,fun u hu=>h2 u (a0Y (a0X hu)),?_⟩
      ·rw[a1C] at hj
       split at hj
       ·rw[a0R] at hj
        rw[Nat.add_assoc] at hj
        simp[World.cell?,h1,hj]
       ·cases hj
      ·rw[←(hf i hi).1]
       refine(scal_any (I:=I) (η:=η) (w:=w) (J:=J) (w':=w)).2 _ _ (by rw[(hf i hi).1];exact(hf i hi).2) ?_
       rw[a2f,take_eq]
       exact(h3.drop _).take _
     ·exact h.elim
    ·exact h.elim
  case any=>exact⟨trivial,h⟩
 |.gsl _ _ _ _,y,K,v,h,hd=>by
  cases y<;>simp only[rEnt] at h
  case any=>exact⟨trivial,h⟩
 |.gptr _ _ _ _ _ _,y,K,v,h,hd=>by
  cases y<;>simp only[rEnt] at h
  case any=>exact⟨trivial,h⟩
 |.eptr _ _ _ _,y,K,v,h,hd=>by
  cases y<;>simp only[rEnt] at h
  case any=>exact⟨trivial,h⟩
 |.iptr cs,y,K,v,h,hd=>by
  cases y<;>simp only[rEnt] at h
  case iptr cs'=>
   obtain⟨hk,rfl,h⟩:=h
   refine⟨Den.mono ⟨fun _ _ he _=>by simp at he,hI hk,fun _ _=>rfl⟩ (.iptr cs) v (fo_nil (.iptr cs) v rfl hd),h⟩
  case any=>exact⟨trivial,h⟩
 |.map id,y,K,v,h,hd=>by
  cases y<;>simp only[rEnt] at h
  case imap ks' ka' va' dom' val' n'=>
   split at h
   ·rename_i ks ka va dom val n g hgt
    obtain⟨hk,rfl,rfl,rfl,hcnt,hall,h⟩:=h
    refine⟨?_,h⟩
    obtain⟨b,c,hη,rfl⟩:=hd
    have hH:=a0j hgt trivial
    obtain⟨b',c',he,es,h1,h2⟩:=hS id _ _ hη hH
    cases he
    obtain rfl:=hcnt h2.counted
    refine⟨b,es,g,rfl,hJ b (own_mk hη hH trivial),h1,h2.turn (fun k hk=>(a1p hall k hk).1) (fun k vs hkl hkd hD=>?_)⟩
    have hv:=(a1p hall k hkl).2 hkd
    rw[←hv]
    rcases hk with hk|hk
    ·exact DenL.mono ⟨fun _ _ he _=>by simp at he,hI hk,fun _ _=>rfl⟩ _ _ hD
    ·exact scal_any.2 _ _ (by rw[hv];exact hk k) hD
   ·exact h.elim
  case any=>exact⟨trivial,h⟩
 |.fn f a b,y,K,v,h,hd=>by
  cases y<;>simp only[rEnt] at h
  case sem D=>exact⟨h.1 I J η w v hS hJ hI hd,h.2⟩
  case fn f' a' b'=>
   obtain⟨rfl,h⟩:=h
   obtain⟨as,bs,rfl,h1,h2⟩:=hd
   obtain⟨g1,g2⟩:=rEntL_sound hS hJ hI a a' _ as h h1
   obtain⟨g3,g4⟩:=rEntL_sound hS hJ hI b b' _ bs g2 h2
   exact⟨⟨as,bs,rfl,g1,g3⟩,g4⟩
  case any=>exact⟨trivial,h⟩
 |.sem D,y,K,v,h,hd=>by
  cases y<;>simp only[rEnt] at h
  case sem D'=>
   obtain⟨hk,rfl,h⟩:=h
   exact⟨Den.mono (I:=I) (η:=[]) (w:=w) ⟨fun _ _ he _=>he,hI hk,fun _ _=>rfl⟩ _ _ (fo_nil _ _ rfl hd),h⟩
  case any=>exact⟨trivial,h⟩
 |.imap ks ka va dom val n,y,K,v,h,hd=>by
  cases y<;>simp only[rEnt] at h
  case imap ks' ka' va' dom' val' n'=>
   obtain⟨hk,rfl,rfl,rfl,rfl,hall,h⟩:=h
   refine⟨?_,h⟩
   obtain⟨b,es,g,rfl,hb,h1,h2⟩:=hd
   refine⟨b,es,g,rfl,hI hk b hb,h1,h2.turn (fun k hk=>(a1p hall k hk).1) (fun k vs hkl hkd hD=>?_)⟩
   rw[←(a1p hall k hkl).2 hkd]
   exact DenL.mono ⟨fun _ _ he _=>by simp at he,hI hk,fun _ _=>rfl⟩ _ _ hD
  case any=>exact⟨trivial,h⟩
 |.ite _ _,y,K,v,h,hd=>by
  cases y<;>simp only[rEnt] at h
  case any=>exact⟨trivial,h⟩
 |.any,y,K,v,h,hd=>by
  cases y<;>simp only[rEnt] at h
  case any=>exact⟨trivial,h⟩
termination_by _ y=>SizeOf.sizeOf y
theorem rEntL_sound (hS:Objs I η w H) (hJ:∀b,own η H b→J b) (hI:keep=true→∀b,I b→J b):∀(l m:List V) (K:Prop) (vs:List Value),rEntL keep H l m K→DenL I η w l vs→DenL J [] w m vs∧K
 |[],m,K,vs,h,hd=>by
  cases m<;>simp only[rEntL] at h
  exact⟨hd,h⟩
 |x :: l,m,K,vs,h,hd=>by
  cases m with
  |nil=>simp only[rEntL] at h
  |cons y m=>
   simp only[rEntL] at h
   obtain⟨v,r,rfl,h1,h2⟩:=hd
   obtain⟨g1,g2⟩:=rEnt_sound hS hJ hI x y _ v h h1
   obtain⟨g3,g4⟩:=rEntL_sound hS hJ hI l m _ r g2 h2
   exact⟨⟨v,r,rfl,g1,g3⟩,g4⟩
termination_by _ m=>SizeOf.sizeOf m
end
end
structure Pres (w w':World):Prop where
 os:w'.os=w.os
 tape:w'.tape=w.tape
 output:w'.output=w.output
 size:w.heap.size≤w'.heap.size
 block:∀b,b<w.heap.size→w'.heap[b]? = w.heap[b]?
def a0g (P:Program) (g:FuncId) (keep:Bool) (args:List V) (R:V→Prop):Prop:=
 Plain P g∧∀(I:Nat→Prop) (w:World) (vals:List Value),(∀b,I b→b<w.heap.size)→DenL I [] w args vals→Calls P g vals.toArray w fun e w'=>
  ∃ret v,e=.returned v∧R ret∧Den (fun b=>(keep=true∧I b)∨(w.heap.size≤b∧b<w'.heap.size)) [] w' ret v∧Pres w w'
def grow (I:Nat→Prop) (w w':World) (b:Nat):Prop:=I b∨(w.heap.size≤b∧b<w'.heap.size)
theorem Sat.pres {I:Nat→Prop} {η:Eta} {w w':World} {H:List O} (h:Sat I η w H) (hp:Pres w w'):Sat (grow I w w') η w' H∧Mono I η w (grow I w w') η w'∧Step I (own η H) w (grow I w w') (own η H) w':=by
 have m:Mono I η w (grow I w w') η w':=⟨fun _ _ he _=>he,fun _ hb=>.inl hb,fun b hb=>hp.block b (h.ilt b hb)⟩
 refine⟨⟨h.len,?_,h.apart,?_,fun b hb=>a1M (h.lt b hb) hp.size,?_⟩,m,⟨hp.os,hp.tape,hp.output,hp.size,fun b hb _=>hp.block b hb,fun _ hb=>.inl hb,?_,fun _ hb=>.inl hb,m.eta⟩⟩
 ·intro id e o he ho
  refine(h.obj id e o he ho).mono m ?_
  intro b hb
  exact hp.block b (h.lt b ⟨id,e,o,he,ho,hb⟩)
 ·intro b hb hg
  rcases hg with hg|hg
  ·exact h.notI b hb hg
  ·have:=h.lt b hb;omega
 ·intro b hb
  rcases hb with hb|hb
  ·exact a1M (h.ilt b hb) hp.size
  ·exact hb.2
 ·intro b hb
  rcases hb with hb|hb
  ·exact .inl hb
  ·exact .inr (.inr hb.1)
@[irreducible] def PCall (P : Program) (g : FuncId) (args : List V) (H : List O) (v : V) : Prop :=
 ∃keep cargs,a0g P g keep cargs (·=v)∧((args=cargs∧foL args=true)∨(keep=false∧rEntL true H args cargs True))
def NewC (P:Program) (g:FuncId) (args:List V) (R:V→List O→Prop):Prop:=
 Plain P g∧∀(I:Nat→Prop) (w:World) (vals:List Value),(∀b,I b→b<w.heap.size)→DenL I [] w args vals→Calls P g vals.toArray w fun e w'=>
  ∃I' η' H' ret v,e=.returned v∧R ret H'∧Sat I' η' w' H'∧Den I' η' w' ret v∧Step I (own [] []) w I' (own η' H') w'
@[irreducible] def NCall (P : Program) (g : FuncId) (args : List V) (v : V) (ob : O) : Prop :=
 foL args=true∧NewC P g args fun r H=>r=v∧H=[ob]
@[irreducible] def NNew (P : Program) (g : FuncId) (args : List V) (R : V → List O → Prop) : Prop :=
 foL args=true∧NewC P g args R
def sys (P:Program):Sys:=⟨Callee P,PCall P,NCall P,NNew P,YCall P,SCall P⟩
end Go.Sx
namespace Go.Sx
open Go
variable {P:Program} {E:Env}
theorem shH_eq (n:Nat):∀l,shH n l=l.map (shO n)
 |[]=>rfl
 |o :: l=>by simp[shH,shH_eq n l]
section
variable {I:Nat→Prop} {w:World} {η η':Eta} {n:Nat}
mutual
theorem Den.shift (hη:∀(j:Nat) (e:Option Nat×Nat),η'[j]? = some e→η[n+j]? = some e):∀(c:V) (v:Value),Den I η' w c v→Den I η w (shV n c) v
 |.int _ _,_,h=>h
 |.prop _ _,_,h=>h
 |.kb _,_,h=>h
 |.ptr _ _,_,h=>by obtain⟨b,c,h1,h2⟩:=h;exact⟨b,c,hη _ _ h1,h2⟩
 |.eptr _ _ _ _,_,h=>by obtain⟨b,c,h1,h2⟩:=h;exact⟨b,c,hη _ _ h1,h2⟩
 |.iptr _,_,h=>h
 |.sl _ _ _,_,h=>h
 |.osl _ _,_,h=>by obtain⟨e,h1,h2⟩:=h;exact⟨e,hη _ _ h1,h2⟩
 |.map _,_,h=>by obtain⟨b,c,h1,h2⟩:=h;exact⟨b,c,hη _ _ h1,h2⟩
 |.fn _ a b,_,h=>by obtain⟨as,bs,h1,h2,h3⟩:=h;exact⟨as,bs,h1,DenL.shift hη a as h2,DenL.shift hη b bs h3⟩
 |.agg cs,_,h=>by obtain⟨vs,h1,h2,h3⟩:=h;exact⟨vs,h1,h2,DenL.shift hη cs vs h3⟩
 |.tup cs,_,h=>by obtain⟨vs,h1,h2⟩:=h;exact⟨vs,h1,DenL.shift hη cs vs h2⟩
 |.lit _,_,h=>h
 |.ite _ u,v,h=>⟨fun hp=>Den.shift hη u v (h.1 hp),h.2⟩
 |.sem _,_,h=>h
 |.imap _ _ _ _ _ _,_,h=>h
 |.yld _,_,h=>by obtain⟨b,c,h1,h2⟩:=h;exact⟨b,c,hη _ _ h1,h2⟩
 |.win _ _ _ _,_,h=>by
  refine⟨fun h0=>?_,?_⟩
  ·obtain⟨e,h1,h2⟩:=h.1 h0;exact⟨e,hη _ _ h1,h2⟩
  ·rcases h.2 with h|⟨b,c,cap,h1,h2⟩
   ·exact .inl h
   ·exact .inr ⟨b,c,cap,hη _ _ h1,h2⟩
 |.gsl _ _ _ _,_,h=>by obtain⟨⟨e0,h1,h2⟩,h3⟩:=h;exact⟨⟨e0,hη _ _ h1,h2⟩,h3⟩
 |.gptr _ _ _ _ _ _,_,h=>by obtain⟨⟨e0,h1,h2⟩,h3⟩:=h;exact⟨⟨e0,hη _ _ h1,h2⟩,h3⟩
 |.x e,_,h=>by cases e with
  |emp=>exact h
  |stamp=>exact h
  |awin=>obtain⟨b,c,h1,h2⟩:=h;exact⟨b,c,hη _ _ h1,h2⟩
  |twin=>obtain⟨e,⟨h1,h3⟩,h2⟩:=h;exact⟨e,⟨hη _ _ h1,h3⟩,h2⟩
 |.any,_,_=>trivial
theorem DenL.shift (hη:∀(j:Nat) (e:Option Nat×Nat),η'[j]? = some e→η[n+j]? = some e):∀(cs:List V) (vs:List Value),DenL I η' w cs vs→DenL I η w (shL n cs) vs
 |[],_,h=>h
 |c :: cs,_,h=>by
  obtain⟨v,r,h1,h2,h3⟩:=h
  exact⟨v,r,h1,Den.shift hη c v h2,DenL.shift hη cs r h3⟩
end
theorem SatO.shift (hη:∀(j:Nat) (e:Option Nat×Nat),η'[j]? = some e→η[n+j]? = some e) {e:Option Nat×Nat}:∀{o:O},SatO I η' w e o→SatO I η w e (shO n o)
 |.cells ty vs,h=>by obtain⟨b,c,h1,xs,h2,h3,h4⟩:=h;exact⟨b,c,h1,xs,h2,h3,DenL.shift hη _ _ h4⟩
 |.row _ _ _ _ _,h=>h
 |.map _ _ _ _ _ _ _,h=>h
 |.iter mid g dom done,h=>by
  obtain⟨b,c,mb,c',h1,h2,h3⟩:=h
  exact⟨b,c,mb,c',h1,hη _ _ h2,h3⟩
 |.loop T ps a b st,h=>by obtain⟨b,c,fn,tmps,D,h1,h2,h3⟩:=h;exact⟨b,c,fn,tmps,D,h1,h2,DenL.shift hη _ _ h3⟩
 |.gone,h=>h
 |.mapx _ _ _ _ _,h=>h
 |.grid _ _ _ _ _ _ _ _ _,h=>h
theorem shO_has {n:Nat} {o:O} {e:Option Nat×Nat} {b:Nat}:(shO n o).has e b↔o.has e b:=by cases o<;>exact a2W
end
theorem own_nil' (b:Nat):¬own [] [] b:=fun⟨id,c,o,h,_⟩=>by simp at h
theorem Sat.fillNew {I I':Nat→Prop} {η:Eta} {w w':World} {H:List O} (h:Sat I η w H) {id:Nat} (hη:η[id]? = some (none,1)) (hH:H[id]? = some .gone) {e:Option Nat×Nat} {ob:O} (h':Sat I' [e] w' [ob]) (hst:Step I (own [] []) w I' (own [e] [ob]) w') :
  (∀(j:Nat) (e':Option Nat×Nat),[e][j]? = some e'→(η.set id e)[id+j]? = some e')∧Sat I' (η.set id e) w' (H.set id (shO id ob))∧Mono I η w I' (η.set id e) w'∧Step I (own η H) w I' (own (η.set id e) (H.set id (shO id ob))) w':=by
 have hidη:=(a0B.1 hη).1
 have hidH:=(a0B.1 hH).1
 have hblk:∀b,b<w.heap.size→w'.heap[b]? = w.heap[b]?:=fun b hb=>hst.block b hb (own_nil' b)
 have hnew:∀(j:Nat) (e':Option Nat×Nat),[e][j]? = some e'→(η.set id e)[id+j]? = some e':=by
  intro j e' hj
  cases j with
  |zero=>simp at hj;subst hj;simp[hidη]
  |succ j=>simp at hj
 have hoth:∀j,j≠id→(η.set id e)[j]? = η[j]?:=fun j hj=>by rw[a0G,if_neg (fun e=>hj e.symm)]
 have m:Mono I η w I' (η.set id e) w':=⟨fun j e' he hn=>by
  by_cases hj:j=id
  ·subst hj;rw[hη] at he;cases he;exact(hn rfl).elim
  ·rw[hoth j hj];exact he,hst.imono,fun b hb=>hblk b (h.ilt b hb)⟩
 have hown:∀b,own [e] [ob] b→w.heap.size≤b:=fun b hb=>(hst.wnew b hb).resolve_left (own_nil' b)
 have cs:∀(j:Nat) (e':Option Nat×Nat) (o:O),(η.set id e)[j]? = some e'→(H.set id (shO id ob))[j]? = some o→(j≠id∧η[j]? = some e'∧H[j]? = some o)∨(j=id∧e'=e∧o=shO id ob):=by
  intro j e' o he ho
  by_cases hj:j=id
  ·subst hj
   right
   simp[hidη] at he
   simp[hidH] at ho
   exact⟨rfl,he.symm,ho.symm⟩
  ·left
   rw[hoth j hj] at he
   rw[a0G,if_neg (fun e=>hj e.symm)] at ho
   exact⟨hj,he,ho⟩
 have oc:∀b,own (η.set id e) (H.set id (shO id ob)) b→own η H b∨own [e] [ob] b:=by
  rintro b ⟨j,c,o,h1,h2,h3⟩
  rcases cs j _ _ h1 h2 with⟨_,g1,g2⟩|⟨rfl,g1,rfl⟩
  ·exact .inl ⟨j,c,o,g1,g2,h3⟩
  ·exact .inr ⟨0,c,ob,by simp[g1],by simp,shO_has.1 h3⟩
 refine⟨hnew,⟨by simp[h.len],?_,?_,?_,?_,h'.ilt⟩,m,⟨hst.os,hst.tape,hst.output,hst.size,fun b hb _=>hblk b hb,hst.imono,?_,?_,m.eta⟩⟩
 ·intro j e' o he ho
  rcases cs j e' o he ho with⟨_,g1,g2⟩|⟨rfl,rfl,rfl⟩
  ·refine(h.obj j e' o g1 g2).mono m ?_
   intro b hb
   exact hblk b (h.lt b ⟨j,_,o,g1,g2,hb⟩)
  ·exact SatO.shift hnew (h'.obj 0 e' ob (by simp) (by simp))
 ·intro j j' b c c' o o' h1 h2 h3 h4 l1 l2
  rcases cs j _ o h1 h3 with⟨_,g1,g2⟩|⟨q1,g1,rfl⟩<;>rcases cs j' _ o' h2 h4 with⟨_,g3,g4⟩|⟨q2,g3,rfl⟩
  ·exact h.apart j j' b c c' o o' g1 g3 g2 g4 l1 l2
  ·have:=h.lt b ⟨j,c,o,g1,g2,l1⟩
   have:=hown b ⟨0,c',ob,by simp[g3],by simp,shO_has.1 l2⟩
   omega
  ·have:=h.lt b ⟨j',c',o',g3,g4,l2⟩
   have:=hown b ⟨0,c,ob,by simp[g1],by simp,shO_has.1 l1⟩
   omega
  ·rw[q1,q2]
 ·intro b hb hI
  rcases oc b hb with hb|hb
  ·rcases hst.inew b hI with h1|h1|h1
   ·exact h.notI b hb h1
   ·exact own_nil' b h1
   ·have:=h.lt b hb;omega
  ·exact h'.notI b hb hI
 ·intro b hb
  rcases oc b hb with hb|hb
  ·exact a1M (h.lt b hb) hst.size
  ·exact h'.lt b hb
 ·intro b hb
  rcases hst.inew b hb with h1|h1|h1
  ·exact .inl h1
  ·exact(own_nil' b h1).elim
  ·exact .inr (.inr h1)
 ·intro b hb
  rcases oc b hb with hb|hb
  ·exact .inl hb
  ·exact .inr (hown b hb)
theorem openK_objs {I:Nat→Prop} {η:Eta} {w:World}:∀(H:List O) (es:Eta) (K:List O→Prop),(∀(i:Nat) (e:Option Nat×Nat) (o:O),es[i]? = some e→H[i]? = some o→SatO I η w e o)→es.length=H.length→openK H K→
  ∃H',K H'∧H'.length=H.length∧∀(i:Nat) (e:Option Nat×Nat) (o':O),es[i]? = some e→H'[i]? = some o'→SatO I η w e o'∧∃o,H[i]? = some o∧∀b,o.has e b↔o'.has e b
 |[],es,K,_,_,h=>⟨[],h,rfl,fun i e o' _ hi=>by simp at hi⟩
 |o :: l,[],K,_,hl,_=>by simp at hl
 |o :: l,e :: es,K,hS,hl,h=>by
  have hS':∀(i:Nat) (e':Option Nat×Nat) (o':O),es[i]? = some e'→l[i]? = some o'→SatO I η w e' o':=fun i e' o' he ho=>hS (i+1) e' o' (by simpa using he) (by simpa using ho)
  have key:∀(o1:O),SatO I η w e o1→(∀b,o.has e b↔o1.has e b)→(openK l fun l=>K (o1 :: l))→∃H',K H'∧H'.length=(o :: l).length∧∀(i:Nat) (e':Option Nat×Nat) (o':O),(e :: es)[i]? = some e'→H'[i]? = some o'→SatO I η w e' o'∧∃o2,(o :: l)[i]? = some o2∧∀b,o2.has e' b↔o'.has e' b:=by
   intro o1 h1 h2 h3
   obtain⟨H',g1,g2,g3⟩:=openK_objs l es _ hS' (by simpa using hl) h3
   refine⟨o1 :: H',g1,by simp[g2],fun i e' o' he ho=>?_⟩
   cases i with
   |zero=>simp at he ho;subst he ho;exact⟨h1,o,by simp,h2⟩
   |succ i=>simpa using g3 i e' o' (by simpa using he) (by simpa using ho)
  have h0:=hS 0 e o (by simp) (by simp)
  cases o with
  |mapx ks ka va dom val=>
   obtain⟨n,g,b,c,h1,es',h2,h3⟩:=h0
   exact key (.map ks ka va dom val n g) ⟨b,c,h1,es',h2,h3⟩ (fun _=>a2W) (h n g)
  |_=>exact key _ h0 (fun _=>a2W) h
theorem openK_sound {I:Nat→Prop} {η:Eta} {w:World} {H:List O} {K:List O→Prop} (hS:Sat I η w H) (h:openK H K):∃H',K H'∧Sat I η w H'∧∀b,own η H' b↔own η H b:=by
 obtain⟨H',h1,h2,h3⟩:=openK_objs (I:=I) (η:=η) (w:=w) H η K hS.obj hS.len h
 have lv:∀(i b:Nat) (e:Option Nat×Nat) (o':O),η[i]? = some e→H'[i]? = some o'→o'.has e b→∃o,H[i]? = some o∧o.has e b:=fun i b e o' he ho hl=>by
  obtain⟨_,o,g1,g2⟩:=h3 i e o' he ho
  exact⟨o,g1,(g2 b).2 hl⟩
 have how:∀b,own η H' b↔own η H b:=by
  intro b
  constructor
  ·rintro⟨i,c,o',g1,g2,g3⟩
   obtain⟨o,g4,g5⟩:=lv i b _ o' g1 g2 g3
   exact⟨i,c,o,g1,g4,g5⟩
  ·rintro⟨i,c,o,g1,g2,g3⟩
   have hi:i<H'.length:=by rw[h2];exact(a0B.1 g2).1
   obtain⟨_,o2,g4,g5⟩:=h3 i _ H'[i] g1 (by simp[hi])
   rw[g2] at g4
   cases g4
   exact⟨i,c,H'[i],g1,by simp[hi],(g5 b).1 g3⟩
 refine⟨H',h1,⟨hS.len.trans h2.symm,fun i e o he ho=>(h3 i e o he ho).1,?_,fun b hb=>hS.notI b ((how b).1 hb),fun b hb=>hS.lt b ((how b).1 hb),hS.ilt⟩,how⟩
 intro i j b c c' o o' g1 g2 g3 g4 l1 l2
 obtain⟨o1,q1,q2⟩:=lv i b _ o g1 g3 l1
 obtain⟨o2,q3,q4⟩:=lv j b _ o' g2 g4 l2
 exact hS.apart i j b c c' o1 o2 g1 g2 q1 q3 q2 q4
end Go.Sx
namespace Go.Sx
open Go
open Go.ChangeMaps (setBlock)
variable {P:Program} {E:Env}
theorem ksK_eq:∀(l:List IntKind) (K:List IntKind→Prop),ksK l K=K l
 |[],_=>rfl
 |_ :: l,_=>by simp only[ksK];exact ksK_eq l _
theorem bK_eq (b:Bool) (K:Bool→Prop):bK b K=K b:=by cases b<;>rfl
theorem Sat.turn {I:Nat→Prop} {η:Eta} {w w':World} {H:List O} (h:Sat I η w H) {id b c:Nat} {o o':O} (hη:η[id]? = some (some b,c)) (hH:H[id]? = some o) (hl:o.live) (_hl':o'.live)
  (hos:w'.os=w.os) (htape:w'.tape=w.tape) (hout:w'.output=w.output) (hsz:w'.heap.size=w.heap.size) (hblk:∀k,k≠b→w'.heap[k]? = w.heap[k]?) (ho:Mono I η w I η w'→SatO I η w' (some b,c) o') (hin:∀b,o'.inner b→o.inner b:=by exact fun _ h=>h.elim) :
  Sat I η w' (H.set id o')∧Mono I η w I η w'∧Step I (own η H) w I (own η (H.set id o')) w':=
 h.turnG hη hH (fun k hk=>hk.elim (fun g=>.inl ⟨hl,g.2⟩) (fun g=>.inr (hin k g))) hos htape hout hsz (fun k hk=>hblk k (fun e=>hk (.inl ⟨hl,by rw[e]⟩))) ho
theorem a2u (w:World) (b k:Nat) (o:Obj) (h:k≠b):(setBlock w b o).heap[k]? = w.heap[k]?:=by
 simp[setBlock,Ne.symm h]
theorem setBlock_at (w:World) (b:Nat) (o:Obj) (h:b<w.heap.size):(setBlock w b o).heap[b]? = some o:=by
 simp[setBlock,h]
theorem a3c (w:World) (b:Nat) (o:Obj):(setBlock w b o).heap.size=w.heap.size:=by simp[setBlock]
theorem mrgL_den {I:Nat→Prop} {η:Eta} {w:World} {p:Prop} {a b:List V} {vs:List Value} (h1:p→DenL I η w a vs) (h2:¬p→DenL I η w b vs):DenL I η w (mrgL p a b) vs:=by
 unfold mrgL
 split
 ·rename_i c hc;exact pickDL_den hc h1 h2
 ·by_cases hp:p
  ·simp[hp];exact h1 hp
  ·simp[hp];exact h2 hp
theorem a0s:∀{ks:List IntKind} {K:List Int→Prop},(∀k,k.length=ks.length→K k)→allInts ks K
 |[],_,h=>h [] rfl
 |_ :: _,_,h=>fun x=>a0s fun l hl=>h (x :: l) (by simp[hl])
theorem cells?_one {I:Nat→Prop} {η:Eta} {w:World} {v:V} {x:Value} {cs:List V} (h:cells? v=some cs) (hna:v.isAgg=false) (hd:Den I η w v x):x.cells=#[x]:=by
 unfold cells? at h
 split at h
 ·cases hna
 ·simp only[cond_eq_ite] at h
  split at h
  ·rename_i h1
   have:=one_den h1 hd
   cases x<;>first|rfl|(simp[Value.oneCell'] at this)
  ·cases h
section
variable {R:Rel} (hR:RelOk R) (hE:a1b E P) {r:Option Nat} {n:Nat} {Q:Exit→Act→World→Prop}
include hR hE
theorem mapOp_sound {T:List V} {H:List O} {o:Oper} {K:KT} {I:Nat→Prop} {η:Eta} {w:World} {a:Act} (hg:Good I η w T H a) (h:mapOp E T H o K) (ht:∀x∈o.op.operands.toList,a2m T x) :
  o.wpIn (Fw r) n P a w (a1r R I (own η H) w a.defers K) Q:=by
 have hd:∀c,o.op≠.defer c:=by
  intro c hc
  unfold mapOp at h
  rw[hc] at h
  exact h
 unfold mapOp at h
 split at h
 ·-- makeMap
  rename_i t hop
  split at h
  ·rename_i ks ka va et hm
   split at h
   ·rename_i z hz
    obtain⟨kt,hu,hK,hva,hkn⟩:=mapT_spec hE hm
    have h:=h ⟨fun _=>0,0⟩
    rw[ksK_eq,bK_eq,bK_eq,a1k,forceL_eq,a1i,a0n] at h
    obtain⟨s1,s2,s3⟩:=hg.sat.push (.map #[] 0) (.map ks ka va (fun _=>False) (fun _=>z) 0 ⟨fun _=>0,0⟩) 0
     ⟨_,_,rfl,#[],by rw[World.alloc_heap];simp,MapRel.empty hK.flat.flat _ (fun _ _ h=>h)⟩
    refine a0m hd (v:=.map (some w.heap.size)) (w':=w.alloc (.map #[] 0)) ?_ ⟨Act.put_defers' _ _ _,I,_,_,_,h,⟨s1,(hg.tmp.mono s2).put ⟨w.heap.size,0,?_,rfl⟩⟩,hR.step s3⟩
    ·simp only[execOp,hop,Option.map_none,Sem.run_bind,make_run]
     simp
    ·rw[←hg.sat.len];simp
   ·exact h.elim
  ·exact h.elim
 ·-- mapUpdate
  rename_i t m x v hop
  split at h
  ·rename_i ks ka va et id z hm hxm hz
   split at h
   ·rename_i ks' ka' va' dom val n' g k hgt hkv
    simp only[cond_eq_ite,a0D] at h
    split at h
    ·rename_i hc
     obtain⟨⟨⟨⟨⟨c1,c2⟩,c3⟩,c4⟩,c5⟩,c6⟩:=hc
     obtain rfl:=ksEq_spec c1
     obtain rfl:=a2w c2
     obtain rfl:=a2w c3
     have c6:=a2w c6
     obtain⟨kt,hu,hK,hva,hkn⟩:=mapT_spec hE hm
     have hmd:=a0l hg.tmp (ht m (by simp[hop,Op.operands]))
     have hxd:=a0l hg.tmp (ht x (by simp[hop,Op.operands]))
     have hvd:=a0l hg.tmp (ht v (by simp[hop,Op.operands]))
     rw[hxm] at hmd
     obtain⟨b,c,hη,hme⟩:=hmd
     have hH:=a0j hgt trivial
     obtain⟨b',c',he,es,hb,hrel⟩:=hg.sat.obj id _ _ hη hH
     cases he
     obtain⟨hke,hkl⟩:=keyV_den hkv hxd
     obtain⟨vs,g1,g2,g3⟩:=a2g hz hvd
     have hlen:len z=vs.length:=by rw[a1j,g3.length]
     have hl:va=false→vs.length=1:=by
      rintro rfl
      simp only[Bool.false_or] at c5
      rw[←hlen];exact a0f c5
     have henc:a.eval v=encV va vs:=by
      cases va with
      |true=>
       have c6:=c6.symm
       unfold V.isAgg at c6
       split at c6
       ·rename_i cs hcs
        rw[hcs] at hvd
        obtain⟨us,e1,e2,_⟩:=hvd
        rw[e1] at g1
        simp[Value.cells] at g1
        rw[e1,g1]
        rfl
       ·cases c6
      |false=>
       have c6:=c6.symm
       have:=cells?_one hz c6 hvd
       rw[this] at g1
       obtain⟨u,rfl⟩:=a1K.1 (hl rfl)
       simp at g1
       rw[g1]
       rfl
     obtain⟨es',g',hrun,hrel'⟩:=put_run (P:=P) hrel hK hu hb hkl g2 hl
     have h:=h g'
     rw[forceL_eq,a0p,a0v,a0n] at h
     have hbs:b<w.heap.size:=(a0L.1 hb).1
     obtain⟨s1,s2,s3⟩:=hg.sat.turn (w':=setBlock w b (.map es' g'.clock)) (o':=.map ks ka va (a1l dom k) (valPut val k z) (nPut dom n' k) g') hη hH trivial trivial rfl rfl rfl (a3c _ _ _) (fun j hj=>a2u _ _ _ _ hj) (fun m0=>
      ⟨b,c,rfl,es',setBlock_at _ _ _ hbs,hrel'.imp (fun k' vs' hD=>mrgL_den (fun e=>by rw[hD.1 e];exact DenL.mono m0.nil _ _ (fo_nil_list _ _ c4 g3)) (fun e=>DenL.mono m0.nil _ _ (hD.2 e)))⟩)
     refine a2y hd (w':=setBlock w b (.map es' g'.clock)) ?_ ⟨Act.put_defers' _ _ _,I,η,_,_,h,⟨s1,(hg.tmp.mono s2).put trivial⟩,hR.step s3⟩
     simp only[execOp,hop,hme,hke,henc,Sem.run_bind,hrun]
     simp
    ·exact h.elim
   ·exact h.elim
  ·exact h.elim
 ·-- delete
  rename_i m x t t' hop
  split at h
  ·rename_i ks ka va et id hm hxm
   split at h
   ·rename_i ks' ka' va' dom val n' g k hgt hkv
    simp only[cond_eq_ite,a0D] at h
    split at h
    ·rename_i hc
     obtain⟨⟨c1,c2⟩,c3⟩:=hc
     obtain rfl:=ksEq_spec c1
     obtain rfl:=a2w c2
     obtain rfl:=a2w c3
     obtain⟨kt,hu,hK,hva,hkn⟩:=mapT_spec hE hm
     have hmd:=a0l hg.tmp (ht m (by simp[hop,Op.operands,Call.operands]))
     have hxd:=a0l hg.tmp (ht x (by simp[hop,Op.operands,Call.operands]))
     rw[hxm] at hmd
     obtain⟨b,c,hη,hme⟩:=hmd
     have hH:=a0j hgt trivial
     obtain⟨b',c',he,es,hb,hrel⟩:=hg.sat.obj id _ _ hη hH
     cases he
     obtain⟨hke,hkl⟩:=keyV_den hkv hxd
     obtain⟨es',hrun,hrel'⟩:=del_run (P:=P) hrel hK hu hb hkl o.type t'
     rw[a0p,a0v,a0n] at h
     have hbs:b<w.heap.size:=(a0L.1 hb).1
     obtain⟨s1,s2,s3⟩:=hg.sat.turn (w':=setBlock w b (.map es' g.clock)) (o':=.map ks ka va (domDel dom k) val (nDel dom n' k) g) hη hH trivial trivial rfl rfl rfl (a3c _ _ _) (fun j hj=>a2u _ _ _ _ hj) (fun m0=>
      ⟨b,c,rfl,es',setBlock_at _ _ _ hbs,hrel'.imp (fun k' vs' hD=>DenL.mono m0.nil _ _ hD)⟩)
     refine a0m hd (v:=.tuple #[]) (w':=setBlock w b (.map es' g.clock)) ?_ ⟨Act.put_defers' _ _ _,I,η,_,_,h,⟨s1,(hg.tmp.mono s2).put trivial⟩,hR.step s3⟩
     have hrun':=hrun
     simp only[execOp,hop,resolve,Sem.run_bind,Sem.run_pure,Result.andThen_ok,invoke]
     simp[hme,hke,builtin,hrun']
    ·exact h.elim
   ·exact h.elim
  ·exact h.elim
 ·-- range
  rename_i t x hop
  split at h
  ·rename_i ks ka va et id hm hxm
   split at h
   ·rename_i ks' ka' va' dom val n' g hgt
    obtain⟨kt,hu,hK,hva,hkn⟩:=mapT_spec hE hm
    have hmd:=a0l hg.tmp (ht x (by simp[hop,Op.operands]))
    rw[hxm] at hmd
    obtain⟨b,c,hη,hme⟩:=hmd
    have hH:=a0j hgt trivial
    obtain⟨b',c',he,es,hb,hrel⟩:=hg.sat.obj id _ _ hη hH
    cases he
    rw[a1k,a1i,a0n] at h
    obtain⟨s1,s2,s3⟩:=hg.sat.push (.mapIter (some b) g.clock #[] g.clock) (.iter id g (fun k=>dom k∧k.length=ks'.length) []) 0
     ⟨_,_,b,c,rfl,by rw[a0F (a0B.1 hη).1];exact hη,by rw[World.alloc_heap];simp,fun k k' h1 h2 h3=>born_inj hrel h1.2 h2.2 h1.1 h2.1 h3,fun k hk=>by simp at hk⟩
    refine a0m hd (v:=.pointer (some ⟨w.heap.size,0,none⟩)) (w':=w.alloc (.mapIter (some b) g.clock #[] g.clock)) ?_ ⟨Act.put_defers' _ _ _,I,_,_,_,h,⟨s1,(hg.tmp.mono s2).put ⟨w.heap.size,0,?_,rfl⟩⟩,hR.step s3⟩
    ·simp only[execOp,hop,hme,Sem.run_bind,range_run hu hb]
     simp
    ·rw[←hg.sat.len];simp
   ·exact h.elim
  ·exact h.elim
 ·-- next
  rename_i x hop
  split at h
  ·rename_i id hxm
   split at h
   ·rename_i mid g dom0 done hgt
    split at h
    ·rename_i ks ka va dom val n' g' hgm
     obtain⟨rfl,hsub,h1,h2⟩:=h
     have hmd:=a0l hg.tmp (ht x (by simp[hop,Op.operands]))
     rw[hxm] at hmd
     obtain⟨rb,c,hη,hme⟩:=hmd
     have hH:=a0j hgt trivial
     have hHm:=a0j hgm trivial
     obtain⟨rb',c',mb,cm,he,hηm,hr,hinj,hdone⟩:=hg.sat.obj id _ _ hη hH
     cases he
     obtain⟨mb',cm',hem,es,hb,hrel⟩:=hg.sat.obj mid _ _ hηm hHm
     cases hem
     have hcnt:=hrel.counted
     rcases next_run (P:=P) (done:=done.reverse) hrel hb hr hinj (fun k hk=>hdone k (by simpa using hk)) hsub o.type with⟨hall,hrun⟩|⟨k,vs,w1,hkl,hkd,hkn,⟨hD,g2,hl⟩,hw1,hrun⟩
     ·have h:=h2 (a0s fun k hk hdk=>by simpa using hall k hk hdk)
      rw[a0n] at h
      refine a0m hd (v:=.tuple #[.bool false]) (w':=w) ?_ ⟨Act.put_defers' _ _ _,I,η,_,_,h,⟨hg.sat,hg.tmp.put ⟨[.bool false],rfl,_,_,rfl,rfl,rfl⟩⟩,hR.step (Step.refl _ _ _)⟩
      simp only[execOp,hop,hme,Sem.run_bind,hrun]
      simp
     ·have h:=a1p h1 k hkl hkd (by simpa using hkn) hcnt
      rw[a0p,a0v,a0n] at h
      have hos:w1.os=w.os∧w1.tape=w.tape∧w1.output=w.output∧w1.heap=w.heap:=by
       rcases hw1 with rfl|rfl
       ·exact⟨rfl,rfl,rfl,rfl⟩
       ·exact⟨rfl,rfl,rfl,rfl⟩
      have hbs:rb<w1.heap.size:=by rw[hos.2.2.2];exact(a0L.1 hr).1
      obtain⟨s1,s2,s3⟩:=hg.sat.turn (w':=setBlock w1 rb (.mapIter (some mb) g.clock ((done.reverse++[k]).map g.born).toArray g.clock)) (o':=.iter mid g dom0 (k :: done)) hη hH trivial trivial hos.1 hos.2.1 hos.2.2.1 (by rw[a3c,hos.2.2.2]) (fun j hj=>by rw[a2u _ _ _ _ hj,hos.2.2.2]) (fun m0=>
       ⟨rb,c,mb,cm,rfl,hηm,by rw[setBlock_at _ _ _ hbs];simp,hinj,fun k' hk'=>by
        rcases a0Z.1 hk' with rfl|hk'
        ·exact hsub _ hkl hkd
        ·exact hdone k' hk'⟩)
      refine a0m hd (v:=.tuple #[.bool true,encK ks ka k,encV va vs]) (w':=setBlock w1 rb (.mapIter (some mb) g.clock ((done.reverse++[k]).map g.born).toArray g.clock)) ?_ ⟨Act.put_defers' _ _ _,I,η,_,_,h,⟨s1,(hg.tmp.mono s2).put ⟨_,rfl,_,_,rfl,rfl,_,_,rfl,encK_den _ _ _ hrel.flat hkl,_,_,rfl,?_,rfl⟩⟩,hR.step s3⟩
      ·simp only[execOp,hop,hme,Sem.run_bind,hrun]
       simp
      ·exact encV_den g2 hl (DenL.mono (Mono.trans ⟨fun _ _ he _=>by simp at he,fun _ hb=>hb,fun _ _=>rfl⟩ s2) _ _ hD)
    ·exact h.elim
   ·exact h.elim
  ·exact h.elim
 ·exact h.elim
end
end Go.Sx
namespace Go.Sx
open Go
variable {P:Program} {E:Env}
theorem row_store (P:Program) {I:Nat→Prop} {w:World} {ty:TypeId} {sz n' b c:Nat} {xs:List Value} {f:Nat→List V} (hown:w.ownsRow 0 ty sz (.slice (some ⟨b,0,none⟩) n' c) n' xs) (h1:∀u∈xs,u.oneCell'=true)
  (hden:∀i,i<n'→DenL I [] w (f i) ((xs.drop (i*sz)).take sz)) {ix off:Nat} {z:List V} {vs:List Value} (g2:∀u∈vs,u.oneCell'=true) (g3n:DenL I [] w z vs) (hin:ix<n') (hc2:off+z.length≤sz) (hI:¬I b) :
  ∃cur':Array Value,(storeCells ⟨b,ix*sz+off,none⟩ vs).run P w=.ok () (w.setRow b cur')∧(∃xs':List Value,xs'=xs.take (ix*sz+off)++vs++xs.drop (ix*sz+off+vs.length)∧(w.setRow b cur').ownsRow 0 ty sz (.slice (some ⟨b,0,none⟩) n' c) n' xs'∧(∀u∈xs',u.oneCell'=true)∧
   ∀j,j<n'→DenL I [] (w.setRow b cur') (a2d (j=ix) (f j) off z) ((xs'.drop (j*sz)).take sz)):=by
 obtain⟨hxl,hown2⟩:=hown
 rcases hown2 with⟨hbad,_⟩|⟨g,cap,cur,hge,_,hheap,hnc,hcm,hcs,htake⟩
 ·cases hbad
 ·cases hge
  have hl1:=g3n.length
  have hfit:ix*sz+off+vs.length≤n'*sz:=by
   have:(ix+1)*sz≤n'*sz:=a0H _ hin
   rw[a0W] at this
   omega
  have hcap:n'*sz≤c*sz:=a0H _ hnc
  have hst:=run_storeCells_at P b (ix*sz+off) ty vs 0 cur w hheap (by omega) g2
  simp only[a2O] at hst
  have hxs:xs=cur.toList.take (n'*sz):=htake.symm
  have hxl':xs.length=n'*sz:=hxl
  have m:Mono I [] w I [] (w.setRow b (cur.toList.take (ix*sz+off)++vs++cur.toList.drop (ix*sz+off+vs.length)).toArray):=⟨fun _ _ he _=>he,fun _ hb=>hb,fun k hk=>setRow_other w b k _ (fun e=>hI (e▸hk))⟩
  have hnew:(cur.toList.take (ix*sz+off)++vs++cur.toList.drop (ix*sz+off+vs.length)).take (n'*sz)=xs.take (ix*sz+off)++vs++xs.drop (ix*sz+off+vs.length):=by
   rw[hxs]
   apply a1J
   intro j
   simp only[a1C,a1G,a0M,a0J,a0R,a2Y]
   have hcl:cur.size=c*sz:=hcs
   by_cases c1:j<n'*sz
   ·rw[if_pos c1]
    have e1:min (ix*sz+off) cur.size=ix*sz+off:=by omega
    have e2:min (ix*sz+off) (min (n'*sz) cur.size)=ix*sz+off:=by omega
    simp only[e1,e2]
    by_cases c2:j<ix*sz+off+vs.length
    ·simp only[c2,if_true]
     by_cases c3:j<ix*sz+off
     ·simp[c3]
      omega
     ·simp[c3]
    ·simp only[c2,if_false]
     rw[if_pos (by omega)]
   ·rw[if_neg c1]
    have e2:min (ix*sz+off) (min (n'*sz) cur.size)=ix*sz+off:=by omega
    simp only[e2]
    rw[if_neg (by omega),if_neg (by omega)]
  refine⟨_,hst,xs.take (ix*sz+off)++vs++xs.drop (ix*sz+off+vs.length),rfl,⟨?_,.inr ⟨b,c,_,rfl,a1X _,setRow_heap w b _ _ ty _ hheap,hnc,hcm,?_,?_⟩⟩,?_,?_⟩
  ·simp only[a0M,a0J,a1E,hxl'];omega
  ·simp only[a2B,a0M,a0J,a1E,a2Y];omega
  ·simpa using hnew
  ·intro u hu
   simp only[a0U] at hu
   rcases hu with(hu|hu)|hu
   ·exact h1 u (a0X hu)
   ·exact g2 u hu
   ·exact h1 u (a0Y hu)
  ·intro j hj
   have hdj:=DenL.mono m.nil _ _ (hden j hj)
   by_cases hji:j=ix
   ·subst hji
    rw[a0w (p:=j=j) rfl]
    have hsp:=DenL.splice (I:=I) (η:=[]) off hdj (DenL.mono m.nil _ _ g3n) (by
     have:=hdj.length
     simp only[a0J,a1E,hxl'] at this
     have:(j+1)*sz≤n'*sz:=a0H _ hin
     rw[a0W] at this
     omega)
    refine Eq.mp ?_ hsp
    congr 1
    apply a1J
    intro k
    simp only[a1C,a1G,a0M,a0J,a0R,a1E,hxl']
    have hle:(j+1)*sz≤n'*sz:=a0H _ hin
    rw[a0W] at hle
    have e1:min off (min sz (n'*sz-j*sz))=off:=by omega
    have e2:min (j*sz+off) (n'*sz)=j*sz+off:=by omega
    simp only[e1,e2]
    by_cases c0:k<sz
    ·simp only[c0,if_true]
     by_cases c1:k<off
     ·have d1:k<off+vs.length:=by omega
      have d2:j*sz+k<j*sz+off+vs.length:=by omega
      have d3:j*sz+k<j*sz+off:=by omega
      simp[c1,d1,d2,d3]
     ·by_cases c2:k<off+vs.length
      ·have d2:j*sz+k<j*sz+off+vs.length:=by omega
       have d3:¬j*sz+k<j*sz+off:=by omega
       have d4:j*sz+k-(j*sz+off)=k-off:=by omega
       simp[c1,c2,d2,d3,d4]
      ·have d2:¬j*sz+k<j*sz+off+vs.length:=by omega
       have d5:off+vs.length+(k-(off+vs.length))=k:=by omega
       have d6:j*sz+off+vs.length+(j*sz+k-(j*sz+off+vs.length))=j*sz+k:=by omega
       simp[c2,d2,d5,d6,c0]
    ·have c2:¬k<off+vs.length:=by omega
     simp only[c0,c2,if_false]
     rw[if_neg (by omega)]
   ·rw[a0t hji]
    refine Eq.mp ?_ hdj
    congr 1
    apply a1J
    intro k
    simp only[a1C,a1G,a0M,a0J,a0R,hxl']
    have e2:min (ix*sz+off) (n'*sz)=ix*sz+off:=by omega
    simp only[e2]
    by_cases c0:k<sz
    ·simp only[c0,if_true]
     rcases Nat.lt_or_gt_of_ne hji with hlt|hgt
     ·have:(j+1)*sz≤ix*sz:=a0H _ hlt
      rw[a0W] at this
      have d2:j*sz+k<ix*sz+off+vs.length:=by omega
      have d3:j*sz+k<ix*sz+off:=by omega
      simp[d2,d3]
     ·have:(ix+1)*sz≤j*sz:=a0H _ hgt
      rw[a0W] at this
      have d2:¬j*sz+k<ix*sz+off+vs.length:=by omega
      have d6:ix*sz+off+vs.length+(j*sz+k-(ix*sz+off+vs.length))=j*sz+k:=by omega
      simp[d2,d6]
    ·simp only[c0,if_false]
theorem Sat.turnM {I:Nat→Prop} {η:Eta} {w w':World} {H H':List O} (h:Sat I η w H) (hl:H'.length=H.length) (S:Nat→Prop) (hsame:∀j,¬S j→H'[j]? = H[j]?)
  (hsub:∀(j k:Nat) (e:Option Nat×Nat) (o:O),S j→η[j]? = some e→H'[j]? = some o→o.has e k→∃j2 e2 o2,S j2∧η[j2]? = some e2∧H[j2]? = some o2∧o2.has e2 k)
  (hap:∀(j j' k:Nat) (e e':Option Nat×Nat) (o o':O),S j→S j'→η[j]? = some e→η[j']? = some e'→H'[j]? = some o→H'[j']? = some o'→o.has e k→o'.has e' k→j=j')
  (hos:w'.os=w.os) (htape:w'.tape=w.tape) (hout:w'.output=w.output) (hsz:w'.heap.size=w.heap.size)
  (hblk:∀k,(∀(j:Nat) (e:Option Nat×Nat) (o:O),S j→η[j]? = some e→H[j]? = some o→¬o.has e k)→w'.heap[k]? = w.heap[k]?)
  (ho:Mono I η w I η w'→∀(j:Nat) (e:Option Nat×Nat) (o:O),S j→η[j]? = some e→H'[j]? = some o→SatO I η w' e o) :
  Sat I η w' H'∧Mono I η w I η w'∧Step I (own η H) w I (own η H') w':=by
 have hob:∀k,¬own η H k→w'.heap[k]? = w.heap[k]?:=fun k hk=>hblk k (fun j e o _ h1 h2 h3=>hk ⟨j,e,o,h1,h2,h3⟩)
 have m:Mono I η w I η w':=⟨fun _ _ he _=>he,fun _ hb=>hb,fun k hk=>hob k (fun g=>h.notI k g hk)⟩
 have key:∀(j k:Nat) (e:Option Nat×Nat) (o:O),η[j]? = some e→H'[j]? = some o→o.has e k→∃j2 e2 o2,η[j2]? = some e2∧H[j2]? = some o2∧o2.has e2 k∧(S j→S j2)∧(¬S j→j2=j):=by
  intro j k e o h1 h2 h3
  by_cases hS:S j
  ·obtain⟨j2,e2,o2,g0,g1,g2,g3⟩:=hsub j k e o hS h1 h2 h3
   exact⟨j2,e2,o2,g1,g2,g3,fun _=>g0,fun hn=>(hn hS).elim⟩
  ·exact⟨j,e,o,h1,by rw[←hsame j hS];exact h2,h3,fun hn=>(hS hn).elim,fun _=>rfl⟩
 have hown:∀k,own η H' k→own η H k:=by
  rintro k ⟨j,e,o,h1,h2,h3⟩
  obtain⟨j2,e2,o2,g1,g2,g3,_⟩:=key j k e o h1 h2 h3
  exact⟨j2,e2,o2,g1,g2,g3⟩
 refine⟨⟨by rw[hl];exact h.len,?_,?_,fun k hk=>h.notI k (hown k hk),fun k hk=>by rw[hsz];exact h.lt k (hown k hk),fun k hk=>by rw[hsz];exact h.ilt k hk⟩,m,
  ⟨hos,htape,hout,by rw[hsz];exact a0K _,fun k _ hk=>hob k hk,fun _ hb=>hb,fun _ hb=>.inl hb,fun k hk=>.inl (hown k hk),m.eta⟩⟩
 ·intro j e o h1 h2
  by_cases hS:S j
  ·exact ho m j e o hS h1 h2
  ·rw[hsame j hS] at h2
   refine(h.obj j e o h1 h2).mono m (fun k hk=>hblk k (fun j2 e2 o2 s2 g1 g2 g3=>hS ?_))
   rw[h.apart j j2 k e e2 o o2 h1 g1 h2 g2 hk g3]
   exact s2
 ·intro j j' k e e' o o' h1 h2 h3 h4 l1 l2
  obtain⟨i,c,p,g1,g2,g3,g4,g5⟩:=key j k e o h1 h3 l1
  obtain⟨i',c',p',k1,k2,k3,k4,k5⟩:=key j' k e' o' h2 h4 l2
  have hii:=h.apart i i' k c c' p p' g1 k1 g2 k2 g3 k3
  by_cases hS:S j<;>by_cases hS':S j'
  ·exact hap j j' k e e' o o' hS hS' h1 h2 h3 h4 l1 l2
  ·have:=g4 hS;rw[hii,k5 hS'] at this;exact(hS' this).elim
  ·have:=k4 hS';rw[←hii,g5 hS] at this;exact(hS this).elim
  ·rw[←g5 hS,←k5 hS',hii]
theorem Sat.renewM {I:Nat→Prop} {η:Eta} {w w':World} {H:List O} (h:Sat I η w H) (H₁:List O) (hl:H₁.length=H.length) (h1:Sat I η w H₁) (own1:∀b,own η H₁ b→own η H b)
  (row:Option Nat) (hg:w.grownBy w' row) (hrow:∀b,row=some b→own η H b∧¬own η H₁ b) (e:Option Nat×Nat) (o:O)
  (heb:∀b,o.has e b→((own η H b∧¬own η H₁ b)∨b=w.heap.size)∧b<w'.heap.size) (ho:Mono I η w I (η++[e]) w'→SatO I (η++[e]) w' e o) :
  Sat I (η++[e]) w' (H₁++[o])∧Mono I η w I (η++[e]) w'∧Step I (own η H) w I (own (η++[e]) (H₁++[o])) w':=by
 have hblk:∀b,b<w.heap.size→row≠some b→w'.heap[b]? = w.heap[b]?:=fun b hb hr=>hg.block b hb (fun e=>hr e.symm)
 have m:Mono I η w I (η++[e]) w':=
  ⟨fun id e he _=>by rw[a0F (a0B.1 he).1];exact he,fun _ hb=>hb,fun b hb=>hblk b (h.ilt b hb) (fun er=>h.notI b (hrow b er).1 hb)⟩
 have split:∀(j:Nat) (ee:Option Nat×Nat) (oo:O),(η++[e])[j]? = some ee→(H₁++[o])[j]? = some oo→(η[j]? = some ee∧H₁[j]? = some oo)∨(j=η.length∧ee=e∧oo=o):=by
  intro j ee oo h1 h2
  by_cases hj:j<η.length
  ·rw[a0F hj] at h1
   rw[a0F (by rw[hl,←h.len];exact hj)] at h2
   exact .inl ⟨h1,h2⟩
  ·have hlt:=(a0B.1 h1).1
   simp at hlt
   have hj':j=η.length:=by omega
   subst hj'
   have hlen:η.length=H₁.length:=by rw[hl,h.len]
   rw[hlen] at h2
   simp at h1 h2
   exact .inr ⟨rfl,h1.symm,h2.symm⟩
 have hown:∀b,own (η++[e]) (H₁++[o]) b→own η H₁ b∨(((own η H b∧¬own η H₁ b)∨b=w.heap.size)∧b<w'.heap.size):=by
  rintro b ⟨id,c',o',h1,h2,h3⟩
  rcases split id _ o' h1 h2 with⟨g1,g2⟩|⟨rfl,rfl,rfl⟩
  ·exact .inl ⟨id,c',o',g1,g2,h3⟩
  ·exact .inr (heb b h3)
 refine⟨⟨by simp[h.len,hl],?_,?_,?_,?_,?_⟩,m,⟨hg.os,hg.tape,hg.output,hg.size,fun b hb hw=>hblk b hb (fun er=>hw (hrow b er).1),fun _ hb=>hb,fun _ hb=>.inl hb,?_,m.eta⟩⟩
 ·intro id ee oo q1 q2
  rcases split id ee oo q1 q2 with⟨g1,g2⟩|⟨rfl,rfl,rfl⟩
  ·refine(h1.obj id ee oo g1 g2).mono m ?_
   intro b hb
   exact hblk b (h.lt b (own1 b ⟨id,ee,oo,g1,g2,hb⟩)) (fun er=>(hrow b er).2 ⟨id,ee,oo,g1,g2,hb⟩)
  ·exact ho m
 ·intro id id' b c1 c2 o1 o2 q1 q2 q3 q4 l1 l2
  rcases split id _ o1 q1 q3 with⟨g1,g2⟩|⟨rfl,rfl,rfl⟩<;>rcases split id' _ o2 q2 q4 with⟨k1,k2⟩|⟨rfl,rfl,rfl⟩
  ·exact h1.apart id id' b c1 c2 o1 o2 g1 k1 g2 k2 l1 l2
  ·exfalso
   have hb1:own η H₁ b:=⟨id,c1,o1,g1,g2,l1⟩
   rcases(heb b l2).1 with er|er
   ·exact er.2 hb1
   ·have:=h.lt b (own1 b hb1);omega
  ·exfalso
   have hb1:own η H₁ b:=⟨id',c2,o2,k1,k2,l2⟩
   rcases(heb b l1).1 with er|er
   ·exact er.2 hb1
   ·have:=h.lt b (own1 b hb1);omega
  ·rfl
 ·intro b hb hI
  rcases hown b hb with h1|⟨h1|h1,_⟩
  ·exact h.notI b (own1 b h1) hI
  ·exact h.notI b h1.1 hI
  ·have:=h.ilt b hI;omega
 ·intro b hb
  rcases hown b hb with h1|⟨_,h1⟩
  ·exact a1M (h.lt b (own1 b h1)) hg.size
  ·exact h1
 ·intro b hb
  exact a1M (h.ilt b hb) hg.size
 ·intro b hb
  rcases hown b hb with h1|⟨h1|h1,_⟩
  ·exact .inl (own1 b h1)
  ·exact .inl h1.1
  ·exact .inr (by omega)
theorem Sat.less {I:Nat→Prop} {η:Eta} {w:World} {H H1:List O} (h:Sat I η w H) (hl:H1.length=H.length) (hlive:∀(i:Nat) (o:O),H1[i]? = some o→o.live→H[i]? = some o):Sat I η w H1:=by
 have ow:∀b,own η H1 b→own η H b:=fun b ⟨i,c,o,h1,h2,h3⟩=>⟨i,c,o,h1,hlive i o h2 (O.has_live h3),h3⟩
 refine⟨by rw[hl];exact h.len,?_,?_,fun b hb=>h.notI b (ow b hb),fun b hb=>h.lt b (ow b hb),h.ilt⟩
 ·intro i e o he ho
  by_cases hlv:o.live
  ·exact h.obj i e o he (hlive i o ho hlv)
  ·cases o<;>first|exact(hlv trivial).elim|trivial
 ·intro i j b c c' o o' h1 h2 h3 h4 l1 l2
  exact h.apart i j b c c' o o' h1 h2 (hlive i o h3 (O.has_live l1)) (hlive j o' h4 (O.has_live l2)) l1 l2
theorem a1z {H:List O} {id i:Nat} {o:O} (h:(H.set id .gone)[i]? = some o) (hl:o.live):i≠id∧H[i]? = some o:=by
 rw[a0G] at h
 split at h
 ·split at h
  ·cases h;exact hl.elim
  ·cases h
 ·rename_i hne
  exact⟨fun e=>hne e.symm,h⟩
theorem SatT.replaceG {I:Nat→Prop} {η:Eta} {w:World} {T:List V} {tmps:Array Value} {g:Nat} {v:V} (h:SatT I η w T tmps) (hv:Den I η w v (tmps.getD g undef)):SatT I η w (set T g v) tmps:=by
 refine⟨by rw[a0v,a2H];exact h.1,fun i=>?_⟩
 rw[a0v,a0z,a0G]
 by_cases hg:g=i
 ·subst hg
  by_cases hlt:g<T.length
  ·simp only[hlt,if_true,a2S];exact hv
  ·simp[hlt,Den]
 ·have:=h.2 i
  rw[a0z] at this
  simp only[hg,if_false]
  exact this
section
variable {R:Rel} (hR:RelH R) {r:Option Nat} {n:Nat} {Q:Exit→Act→World→Prop}
theorem getElem?_grow {α:Type} {l m:List α} {i:Nat} {x:α} (h:l[i]? = some x):(l++m)[i]? = some x:=by
 rw[a0F (a0B.1 h).1];exact h
theorem grid_hole {I:Nat→Prop} {η:Eta} {w:World} {e:Option Nat×Nat} {ty ety:TypeId} {esz n:Nat} {m:Nat→Nat} {f:Nat→Nat→List V} {β:Nat→Option Nat×Nat} {nz:Bool} (i:Nat) (h:SatO I η w e (.grid ty ety esz n m f β none nz)):SatO I η w e (.grid ty ety esz n m f β (some i) nz):=by
 obtain⟨⟨xs,h1,h2,h3,h4⟩,h5,h6,h7⟩:=h
 exact⟨⟨xs,h1,h2,h3,fun j hj _=>h4 j hj (by simp)⟩,fun j hj _=>h5 j hj (by simp),fun j j' b hj hj' _ _=>h6 j j' b hj hj' (by simp) (by simp),fun j b hj _=>h7 j b hj (by simp)⟩
include hR in
theorem gridMk_sound (hE:a1b E P) {T:List V} {H:List O} {o:Oper} {K:KT} {I:Nat→Prop} {η:Eta} {w:World} {a:Act} (hg:Good I η w T H a) (hd:∀c,o.op≠.defer c) {t e:TypeId} {u:Tmp} (hop:o.op=.buildSlice t 1 ⟨[(0,.tmp u)]⟩)
  (he:a3a E t=some e) {id k:Nat} (hu:get .any T u=.osl id k) {z0:List V} (hz0:(E.ti e).zero=some z0) {ety:TypeId} {esz k2:Nat} {f2:Nat→List V} {nz2:Bool} (hgt:get .gone H id=.row ety esz k2 f2 nz2) (hsz1:(E.ti e).size=1)
  (h:k=k2∧∀β':Nat→Option Nat×Nat,lenK H fun gid=>setK H id .gone fun H'=>pushK H' (.grid e ety esz 1 (fun _=>k2) (fun _=>f2) β' none false) fun H'=>putK T o.dst (.osl gid 1) fun T'=>K T' H') :
  o.wpIn (Fw r) n P a w (a1r R I (own η H) w a.defers K) Q:=by
 obtain⟨rfl,h⟩:=h
 obtain⟨hun,i,hinfo,hisz,hby,hke,hzz⟩:=a0q hE he
 rw[hzz] at hz0
 obtain⟨zv,hzv,_,hz1,hzs⟩:=a1d hz0
 have hi1:i.size=1:=by rw[hisz];exact hsz1
 have hden:Den I η w (get .any T u) (a.tmps.getD u undef):=hg.tmp.2 u
 rw[hu] at hden
 obtain⟨e2,hη2,hz2,hval⟩:=hden
 have hult:u<T.length:=by
  refine a0Q fun hn=>?_
  rw[a0z,a0V (a2U hn)] at hu
  cases hu
 have hT':SatT I η w (set T u (.lit (slVal e2 k))) a.tmps:=hg.tmp.replaceG hval
 have hget:get .any (set T u (.lit (slVal e2 k))) u=.lit (slVal e2 k):=by
  rw[a0z,a0v,a0G,if_pos rfl,if_pos hult];rfl
 have hone:(slVal e2 k).oneCell'=true:=by
  obtain⟨b,c⟩:=e2
  cases b<;>rfl
 have hrows:rowsOf i.size (set T u (.lit (slVal e2 k))) 0 [(0,.tmp u)]=some [[.lit (slVal e2 k)]]:=by
  simp only[rowsOf,ev,ev0,hget,V.strip,cells?,V.one,hone,cond_true,normV,hi1]
  rfl
 obtain⟨cells,hrun,hcl,hc1,hcd⟩:=built_run (P:=P) hT' hop hun hinfo hzv hz1 hzs (fun p hp q hq=>by
  simp only[a1B] at hp
  subst hp
  simp only[ev0,hget,V.isIte] at hq
  cases hq) hrows rfl (by omega) (by omega)
 have hcell:cells=[slVal e2 k]:=by
  have h1:=hcd 0 [.lit (slVal e2 k)] rfl
  rw[hi1] at h1 hcl
  match cells,hcl with
  |[x],_=>
   obtain⟨v,rest,hh,hv,_⟩:=h1
   simp only[Nat.zero_mul,List.drop_zero,a2O] at hh
   simp only[Den] at hv
   rw[←hv]
   simp at hh
   rw[hh.1]
 subst hcell
 have hH2:=a0j hgt trivial
 have hidl:id<H.length:=(a0B.1 hH2).1
 have hobj:=hg.sat.obj id _ _ hη2 hH2
 obtain⟨ys,p1,p2,p3,p4⟩:=hobj
 have h:=h (fun _=>e2)
 rw[a1k,a0p,a1i,a0n,a0v] at h
 have hl1:(H.set id .gone).length=H.length:=by simp
 have hlv:∀(j:Nat) (o':O),(H.set id .gone)[j]? = some o'→o'.live→H[j]? = some o':=fun j o' h1 h2=>(a1z h1 h2).2
 have hrow0:∀b,e2.1=some b→own η H b∧¬own η (H.set id .gone) b:=by
  intro b hb
  refine⟨⟨id,_,_,hη2,hH2,.inl ⟨trivial,hb⟩⟩,?_⟩
  rintro⟨j,c,o',q1,q2,q3⟩
  obtain⟨hne,q4⟩:=a1z q2 (O.has_live q3)
  exact hne (hg.sat.apart j id b c e2 o' _ q1 hη2 q4 hH2 q3 (.inl ⟨trivial,hb⟩))
 have halloc:∀b,b<w.heap.size→(w.alloc (.cells [slVal e2 k].toArray e)).heap[b]? = w.heap[b]?:=by
  intro b hb
  rw[World.alloc_heap,a3E]
  have:b≠w.heap.size:=by omega
  simp[this]
 have hsize:(w.alloc (.cells [slVal e2 k].toArray e)).heap.size=w.heap.size+1:=by rw[World.alloc_heap];simp
 obtain⟨s1,s2,s3⟩:=hg.sat.renewM (w':=w.alloc (.cells [slVal e2 k].toArray e)) (H.set id .gone) hl1 (hg.sat.less hl1 hlv) (fun b ⟨j,c,o',q1,q2,q3⟩=>⟨j,c,o',q1,hlv j o' q2 (O.has_live q3),q3⟩) none
  ⟨rfl,rfl,rfl,by rw[hsize];omega,fun b hb _=>halloc b hb⟩ (fun b hb=>by cases hb) (some w.heap.size,1) (.grid e ety esz 1 (fun _=>k) (fun _=>f2) (fun _=>e2) none false)
  (fun b hb=>by
   rcases hb with⟨_,hb⟩|⟨q,hq,_,hb⟩
   ·simp only[a1H] at hb
    subst hb
    exact⟨.inr rfl,by rw[hsize];omega⟩
   ·exact⟨.inl (hrow0 b hb),by rw[hsize];have:=hg.sat.lt b (hrow0 b hb).1;omega⟩)
  (fun m0=>by
   refine⟨⟨[slVal e2 k],⟨by simp,.inr ⟨w.heap.size,1,[slVal e2 k].toArray,rfl,a1X _,by rw[World.alloc_heap];simp,a0K _,by decide,by simp,by simp⟩⟩,fun u hu=>by simp only[a1B] at hu;subst hu;exact hone,by simp,fun q hq _=>by(have hq0:q=0:=by omega);subst hq0;rfl⟩,
    fun q hq _=>⟨hz2,ys,a1n p1 (fun b hb=>halloc b (hg.sat.lt b (hrow0 b hb).1)),p2,fun j hj=>DenL.mono m0.nil _ _ (p4 j hj)⟩,
    fun q q' b hq hq' _ _ _ _=>by omega,fun q b hq _ hb=>?_⟩
   intro hc
   simp only[a1H] at hc
   subst hc
   exact absurd (hg.sat.lt _ (hrow0 _ hb).1) (by omega))
 refine a0m hd hrun ⟨Act.put_defers' _ _ _,I,_,_,_,h,⟨s1,(hg.tmp.mono s2).put ⟨(some w.heap.size,1),?_,fun h=>by simp at h,rfl⟩⟩,hR.step s3 (fun _ _ hh=>getElem?_grow hh)⟩
 rw[←hg.sat.len]
 simp
include hR in
theorem gridApp_sound (hE:a1b E P) {T:List V} {H:List O} {o:Oper} {K:KT} {I:Nat→Prop} {η:Eta} {w:World} {a:Act} (hg:Good I η w T H a) (hd:∀c,o.op≠.defer c) {t e:TypeId} {s x:Operand}
  (hop:o.op=.call {callee:=.builtin .append,args:=⟨[s,x]⟩,argTypes:=⟨[t,t]⟩}) (ht:∀x∈o.op.operands.toList,a2m T x) (he:a3a E t=some e) {g1 n1:Nat} (hs:ev T s=.osl g1 n1) (h:gridApp E T H o K e (ev T x) g1 n1) :
  o.wpIn (Fw r) n P a w (a1r R I (own η H) w a.defers K) Q:=by
 have hsd:=a0l hg.tmp (ht s (by simp[hop,Op.operands,Call.operands]))
 have hxd:=a0l hg.tmp (ht x (by simp[hop,Op.operands,Call.operands]))
 obtain⟨hun,i,hinfo,hisz,hby,hke,hzz⟩:=a0q hE he
 unfold gridApp at h
 split at h
 case h_2=>exact h.elim
 rename_i g2 m1 hx
 split at h
 case h_2=>exact h.elim
 rename_i ty ety esz n' ma fa βa holea nza ty2 ety2 esz2 m' mb fb βb holeb nzb hga hgb
 simp only[cond_eq_ite,a0D] at h
 split at h
 case isFalse=>exact h.elim
 rename_i hc
 obtain⟨⟨⟨⟨⟨⟨⟨c1,c2⟩,c3⟩,c4⟩,c5⟩,c6⟩,c7⟩,c8⟩:=hc
 obtain rfl:=(a0f c1).symm
 obtain rfl:=(a0f c2).symm
 obtain rfl:=a0f c3
 obtain rfl:=a0f c4
 have c5:=a0f c5
 have c6:=a0P c6
 have hne:g1≠g2:=by
  intro e
  subst e
  simp at c7
 obtain⟨⟨rfl,rfl,rfl,rfl,hm1,hbig⟩,h⟩:=h
 rw[hs] at hsd
 rw[hx] at hxd
 obtain⟨e1,hη1,hz1,hv1⟩:=hsd
 obtain⟨e2,hη2,hz2,hv2⟩:=hxd
 have hH1:=a0j hga trivial
 have hH2:=a0j hgb trivial
 obtain⟨⟨xs1,o1,u1,nl1,at1⟩,in1,dj1,do1⟩:=hg.sat.obj g1 _ _ hη1 hH1
 obtain⟨⟨xs2,o2,u2,nl2,at2⟩,in2,dj2,do2⟩:=hg.sat.obj g2 _ _ hη2 hH2
 have hi1:i.size=1:=by rw[hisz];exact c5
 cases hz0:(E.ti e).zero with
 |none=>rw[hz0] at c8;cases c8
 |some z0=>
 rw[hzz] at hz0
 obtain⟨zv,hzv,_,hzo,hzs⟩:=a1d hz0
 have ha1:∀b,O.has (.grid e ety esz n1 ma fa βa none nza) e1 b→own η H b∧¬own η ((H.set g1 .gone).set g2 .gone) b:=by
  intro b hb
  refine⟨⟨g1,_,_,hη1,hH1,hb⟩,?_⟩
  rintro⟨j,c,o',q1,q2,q3⟩
  obtain⟨n2,q4⟩:=a1z q2 (O.has_live q3)
  obtain⟨n3,q5⟩:=a1z q4 (O.has_live q3)
  exact n3 (hg.sat.apart j g1 b c e1 o' _ q1 hη1 q5 hH1 q3 hb)
 have ha2:∀b,O.has (.grid e ety esz m1 mb fb βb none nzb) e2 b→own η H b∧¬own η ((H.set g1 .gone).set g2 .gone) b:=by
  intro b hb
  refine⟨⟨g2,_,_,hη2,hH2,hb⟩,?_⟩
  rintro⟨j,c,o',q1,q2,q3⟩
  obtain⟨n2,q4⟩:=a1z q2 (O.has_live q3)
  obtain⟨n3,q5⟩:=a1z q4 (O.has_live q3)
  exact n2 (hg.sat.apart j g2 b c e2 o' _ q1 hη2 q5 hH2 q3 hb)
 have h12:∀b,O.has (.grid e ety esz n1 ma fa βa none nza) e1 b→O.has (.grid e ety esz m1 mb fb βb none nzb) e2 b→False:=
  fun b k1 k2=>hne (hg.sat.apart g1 g2 b e1 e2 _ _ hη1 hη2 hH1 hH2 k1 k2)
 -- the second one as a row of values
 have hx2l:xs2.length=m1:=by have:=o2.1;omega
 obtain⟨d1,_,_⟩:=hg.sat.turnG (w':=w) (o':=.row e 1 m1 (fun q=>[.lit (slVal (βb q) (mb q))]) nzb) hη2 hH2 (fun b hb=>hb.elim (fun g=>.inl ⟨trivial,g.2⟩) (fun g=>g.elim)) rfl rfl rfl rfl (fun _ _=>rfl)
  (fun _=>⟨xs2,o2,u2,nl2,fun q hq=>⟨slVal (βb q) (mb q),[],by
   have hq2:=at2 q hq (by simp)
   have hql:q<xs2.length:=by omega
   rw[a0C hql] at hq2
   simp only[a1H] at hq2
   rw[Nat.mul_one,a2A hql,←hq2]
   rfl,rfl,rfl⟩⟩)
 have hsrc:srcOf (H.set g2 (.row e 1 m1 (fun q=>[.lit (slVal (βb q) (mb q))]) nzb)) i.size (.osl g2 m1)=some (m1,fun q=>[.lit (slVal (βb q) (mb q))],some (m1=m1)):=by
  unfold srcOf
  have:get .gone (H.set g2 (.row e 1 m1 (fun q=>[.lit (slVal (βb q) (mb q))]) nzb)) g2=.row e 1 m1 (fun q=>[.lit (slVal (βb q) (mb q))]) nzb:=by
   rw[a0z,a0G,if_pos rfl,if_pos (a0B.1 hH2).1];rfl
  dsimp only
  rw[this]
  simp only[hi1]
  rfl
 rw[←hi1] at o1
 have hbb:(n1+m1)*i.bytes≤137438953472*1024:=a2I hbig (by rw[hby];exact c6)
 obtain⟨v',w',news,r1,r2,r3,r4,r5,r6,r7,r8⟩:=a3b (P:=P) d1 t o.type e i zv hun hinfo hzv hzs (by omega) o1 hsrc (fun p hp=>by cases hp;rfl) (xv:=a.eval x) (by rw[hv2];exact⟨e2,hη2,hz2,rfl⟩) (by omega) (by omega)
 obtain⟨e',k1,k2,k3,k4,k5⟩:=a2b r2
 rw[slVal_own] at r3 r5
 let β':Nat→Option Nat×Nat:=fun q=>if q<n1 then βa q else βb (q-n1)
 have h:=h β'
 rw[a1k,a0p,a0p,a1i,a0n,a0v,a0v] at h
 have hx1l:xs1.length=n1:=by have:=o1.1;rw[hi1] at this;omega
 have hnl:news.length=m1:=by rw[r6,hi1];omega
 have hnews:∀q,q<m1→news[q]? = some (slVal (βb q) (mb q)):=by
  intro q hq
  have:=r8 q hq
  rw[hi1,Nat.mul_one] at this
  obtain⟨v,rest,hh,hv,_⟩:=this
  simp only[Den] at hv
  have h0:=congrArg (fun l:List Value=>l[0]?) hh
  simp only[a1C,a0R,a2O,List.getElem?_cons_zero] at h0
  rw[←hv]
  simpa using h0
 have hl1:((H.set g1 .gone).set g2 .gone).length=H.length:=by simp
 have hlv:∀(j:Nat) (o':O),((H.set g1 .gone).set g2 .gone)[j]? = some o'→o'.live→H[j]? = some o':=fun j o' q1 q2=>(a1z (a1z q1 q2).2 q2).2
 have he'ne:∀b,(O.has (.grid e ety esz n1 ma fa βa none nza) e1 b∧e1.1≠some b)∨O.has (.grid e ety esz m1 mb fb βb none nzb) e2 b→e'.1≠some b:=by
  intro b hb hc
  rw[k3] at hc
  rcases r5 b hc with hd|hd
  ·rcases hb with⟨_,hb⟩|hb
   ·exact hb hd
   ·exact h12 b (.inl ⟨trivial,hd⟩) hb
  ·have:own η H b:=by
    rcases hb with⟨hb,_⟩|hb
    ·exact(ha1 b hb).1
    ·exact(ha2 b hb).1
   have:=hg.sat.lt b this
   omega
 obtain⟨s1,s2,s3⟩:=hg.sat.renewM ((H.set g1 .gone).set g2 .gone) hl1 (hg.sat.less hl1 hlv) (fun b ⟨j,c,o',q1,q2,q3⟩=>⟨j,c,o',q1,hlv j o' q2 (O.has_live q3),q3⟩) e1.1 r3
  (fun b hb=>ha1 b (.inl ⟨trivial,hb⟩)) e' (.grid e ety esz (n1+m1) (fun q=>if q<n1 then ma q else mb (q-n1)) (fun q j=>if q<n1 then fa q j else fb (q-n1) j) β' none nza)
  (fun b hb=>by
   rcases hb with⟨_,hb⟩|⟨q,hq,_,hb⟩
   ·obtain⟨bb,c⟩:=e'
    simp only at hb
    subst hb
    refine⟨?_,k4 b c rfl⟩
    rw[k1,slVal_own] at r5
    rcases r5 b rfl with hb|hb
    ·exact .inl (ha1 b (.inl ⟨trivial,hb⟩))
    ·exact .inr hb
   ·by_cases hqn:q<n1
    ·simp only[β',if_pos hqn] at hb
     have:=ha1 b (.inr ⟨q,hqn,by simp,hb⟩)
     exact⟨.inl this,a1M (hg.sat.lt b this.1) r3.size⟩
    ·simp only[β',if_neg hqn] at hb
     have:=ha2 b (.inr ⟨q-n1,by omega,by simp,hb⟩)
     exact⟨.inl this,a1M (hg.sat.lt b this.1) r3.size⟩)
  (fun m0=>by
   refine⟨⟨xs1++news,by rw[←k1,←hi1];exact r2,fun u hu=>?_,?_,fun q hq _=>?_⟩,fun q hq _=>?_,fun q q' b hq hq' _ _ hb hb'=>?_,fun q b hq _ hb=>?_⟩
   ·rcases a0U.1 hu with hu|hu
    ·exact u1 u hu
    ·exact r7 u hu
   ·rw[k2,r4]
    constructor
    ·rintro⟨_,q2⟩;omega
    ·rintro⟨_,q2⟩;omega
   ·by_cases hqn:q<n1
    ·simp only[β',if_pos hqn]
     rw[a0F (by omega)]
     exact at1 q hqn (by simp)
    ·simp only[β',if_neg hqn]
     rw[a0S (by omega),hx1l]
     exact hnews (q-n1) (by omega)
   ·by_cases hqn:q<n1
    ·simp only[β',if_pos hqn]
     obtain⟨v0,zs,v1,v2,v3⟩:=in1 q hqn (by simp)
     refine⟨v0,zs,a1n v1 (fun b hb=>?_),v2,fun j hj=>DenL.mono m0.nil _ _ (v3 j hj)⟩
     have hh:=ha1 b (.inr ⟨q,hqn,by simp,hb⟩)
     exact r3.block b (hg.sat.lt b hh.1) (fun er=>do1 q b hqn (by simp) hb er.symm)
    ·simp only[β',if_neg hqn]
     obtain⟨v0,zs,v1,v2,v3⟩:=in2 (q-n1) (by omega) (by simp)
     refine⟨v0,zs,a1n v1 (fun b hb=>?_),v2,fun j hj=>DenL.mono m0.nil _ _ (v3 j hj)⟩
     have hin:O.has (.grid e ety esz m1 mb fb βb none nzb) e2 b:=.inr ⟨q-n1,by omega,by simp,hb⟩
     exact r3.block b (hg.sat.lt b (ha2 b hin).1) (fun er=>h12 b (.inl ⟨trivial,er.symm⟩) hin)
   ·by_cases hqn:q<n1<;>by_cases hqn':q'<n1
    ·simp only[β',if_pos hqn] at hb
     simp only[β',if_pos hqn'] at hb'
     exact dj1 q q' b hqn hqn' (by simp) (by simp) hb hb'
    ·simp only[β',if_pos hqn] at hb
     simp only[β',if_neg hqn'] at hb'
     exact(h12 b (.inr ⟨q,hqn,by simp,hb⟩) (.inr ⟨q'-n1,by omega,by simp,hb'⟩)).elim
    ·simp only[β',if_neg hqn] at hb
     simp only[β',if_pos hqn'] at hb'
     exact(h12 b (.inr ⟨q',hqn',by simp,hb'⟩) (.inr ⟨q-n1,by omega,by simp,hb⟩)).elim
    ·simp only[β',if_neg hqn] at hb
     simp only[β',if_neg hqn'] at hb'
     have:=dj2 (q-n1) (q'-n1) b (by omega) (by omega) (by simp) (by simp) hb hb'
     omega
   ·by_cases hqn:q<n1
    ·simp only[β',if_pos hqn] at hb
     exact he'ne b (.inl ⟨.inr ⟨q,hqn,by simp,hb⟩,do1 q b hqn (by simp) hb⟩)
    ·simp only[β',if_neg hqn] at hb
     exact he'ne b (.inr (.inr ⟨q-n1,by omega,by simp,hb⟩)))
 have hrun:(execOp a.eval o).run P w=.ok (.value v') w':=by
  have hq:(Builtin.append_ #[t,t] o.type #[a.eval s,a.eval x]).run P w=.ok v' w':=by rw[hv1];exact r1
  simp[execOp,hop,resolve,invoke,builtin,hq]
 refine a0m hd hrun ⟨Act.put_defers' _ _ _,I,_,_,_,h,⟨s1,(hg.tmp.mono s2).put ⟨e',?_,k5,k1⟩⟩,hR.step s3 (fun _ _ hh=>getElem?_grow hh)⟩
 rw[←hg.sat.len]
 simp
include hR in
theorem gridOp_sound (hE:a1b E P) {T:List V} {H:List O} {o:Oper} {K:KT} {I:Nat→Prop} {η:Eta} {w:World} {a:Act} (hg:Good I η w T H a) (h:gridOp E T H o K) (ht:∀x∈o.op.operands.toList,a2m T x) :
  o.wpIn (Fw r) n P a w (a1r R I (own η H) w a.defers K) Q:=by
 have hd:∀c,o.op≠.defer c:=by
  intro c hc
  unfold gridOp at h
  rw[hc] at h
  exact h
 unfold gridOp at h
 split at h
 ·rename_i t ax yx hop
  have hx:=a0l hg.tmp (ht ax (by simp[hop,Op.operands]))
  have hy:=a0l hg.tmp (ht yx (by simp[hop,Op.operands]))
  split at h
  ·rename_i id i j off sz e z hk hxa hz
   rw[hxa] at hx
   obtain⟨⟨e0,hη,_⟩,b,c,rfl,hxe⟩:=hx
   obtain⟨vs,g1,g2,g3⟩:=a2g hz hy
   obtain⟨inf,d,hi,hu,hs,_,_,_,_⟩:=hE.info hk
   split at h
   ·rename_i ty ety esz nn m f β hole nz hgt
    simp only[cond_eq_ite,a0D] at h
    split at h
    ·rename_i hc
     rw[a1j] at hc
     obtain⟨⟨⟨hc1,hc2⟩,hc3⟩,hfo⟩:=hc
     have g3n:=fo_nil_list z vs hfo g3
     have hc1:=a0f hc1
     have hc2:=a0P hc2
     obtain rfl:=a0f hc3
     obtain⟨⟨hin,rfl,hbe,hjm⟩,h⟩:=h
     rw[forceL_eq,a0p,a0v,a0n] at h
     have hH:=a0j hgt trivial
     have hobj:=hg.sat.obj id _ _ hη hH
     have hhas:O.has (.grid ty ety sz nn m f β none nz) e0 b:=.inr ⟨i,hin,by simp,by rw[←hbe]⟩
     have hob:own η H b:=⟨id,e0,_,hη,hH,hhas⟩
     obtain⟨⟨xs,q1,q2,q3,q4⟩,q5,q6,q7⟩:=hobj
     obtain⟨r0,ys,r1,r2,r3⟩:=q5 i hin (by simp)
     have hsv:slVal (β i) (m i)=.slice (some ⟨b,0,none⟩) (m i) c:=by rw[←hbe];rfl
     have r1':=r1
     rw[hsv] at r1'
     obtain⟨cur',hst,ys',_,u1,u2,u3⟩:=row_store P (f:=f i) r1' r2 r3 g2 g3n hjm hc2 (fun hI=>hg.sat.notI b hob hI)
     obtain⟨s1,s2,s3⟩:=hg.sat.turnG (w':=w.setRow b cur') (o':=.grid ty ety sz nn m (fun i' j'=>a2d (i'=i∧j'=j) (f i' j') off z) β none nz) hη hH
      (fun k hk=>hk) rfl rfl rfl (by simp) (fun k hk=>setRow_other w b k _ (fun e=>hk (e▸hhas))) (fun m0=>by
      refine⟨⟨xs,a1n q1 (fun k hk=>setRow_other w b k _ (fun e=>?_)),q2,q3,q4⟩,fun i' hi' hh=>?_,q6,q7⟩
      ·subst e
       exact q7 i k hin (by simp) (by rw[←hbe]) hk
      ·by_cases hii:i'=i
       ·subst hii
        refine⟨r0,ys',by rw[hsv];exact u1,u2,fun j' hj'=>?_⟩
        have:=u3 j' hj'
        simpa using this
       ·obtain⟨v0,zs,v1,v2,v3⟩:=q5 i' hi' hh
        refine⟨v0,zs,a1n v1 (fun k hk=>setRow_other w b k _ (fun e=>hii ?_)),v2,fun j' hj'=>?_⟩
        ·subst e
         exact q6 i' i k hi' hin (by simp) (by simp) hk (by rw[←hbe])
        ·dsimp only
         rw[a0t (p:=i'=i∧j'=j) (fun hh=>hii hh.1)]
         exact DenL.mono m0.nil _ _ (v3 j' hj'))
     refine a2y hd (w':=w.setRow b cur') ?_ ⟨Act.put_defers' _ _ _,I,η,_,_,h,⟨s1,(hg.tmp.mono s2).put trivial⟩,hR.step s3 (fun _ _ hh=>hh)⟩
     have e1:vs.length=inf.size:=by have:=g3.length;omega
     have e2:(a.eval yx).cells.size=inf.size:=by rw[g1];simpa using e1
     simp[execOp,hop,hxe,Instr.storeAt,Instr.sureAddr,storeVar,sizeOf,typeInfo,hi,g1]
     rw[hst]
     simp
     exact e1
    ·exact h.elim
   ·exact h.elim
  ·rename_i id sz i id2 k hk hxa hz
   rw[hxa] at hx
   obtain⟨b,c,hη,hxe⟩:=hx
   obtain⟨vs,g1,g2,g3⟩:=a2g hz hy
   obtain⟨inf,d,hi,hu,hs,_,_,_,_⟩:=hE.info hk
   split at h
   ·rename_i ty ety esz nn m f β hole nz ety2 sz2 k2 f2 nz2 hgt hgt2
    simp only[cond_eq_ite,a0D] at h
    split at h
    ·rename_i hc
     obtain⟨⟨⟨hc1,hc2⟩,hc3⟩,hc4⟩:=hc
     have hc1:=a0f hc1
     obtain rfl:=a0f hc2
     obtain rfl:=a0f hc3
     obtain rfl:=a0f hc4
     obtain⟨⟨hin,rfl,hhole⟩,h⟩:=h
     have hH:=a0j hgt trivial
     have hH2:=a0j hgt2 trivial
     have hne:id2≠id:=by rintro rfl;rw[hH] at hH2;cases hH2
     obtain⟨v,_,rfl,⟨e2,hη2,hz2,hv⟩,rfl⟩:=g3
     subst hv
     obtain⟨⟨xs,q1,q2,q3,q4⟩,q5,q6,q7⟩:=hg.sat.obj id _ _ hη hH
     obtain⟨ys,p1,p2,p3,p4⟩:=hg.sat.obj id2 _ _ hη2 hH2
     have hnh:∀j,j≠i→hole≠some j:=fun j hj=>by
      rcases hhole with rfl|rfl
      ·simp
      ·intro e;cases e;exact hj rfl
     let β':Nat→Option Nat×Nat:=fun i'=>if i'=i then e2 else β i'
     have h:=h β'
     rw[a0p,a0p,a0v,a0v,a0n] at h
     have hsv:slVal (some b,c) nn=.slice (some ⟨b,0,none⟩) nn c:=rfl
     have q1':=q1
     rw[hsv] at q1'
     have hhas:O.has (.grid ty ety esz nn m f β hole nz) (some b,c) b:=.inl ⟨trivial,rfl⟩
     have hob:own η H b:=⟨id,_,_,hη,hH,hhas⟩
     have hxl:xs.length=nn*1:=q1.1
     have hil:i<xs.length:=by omega
     have hself:xs.map (fun u=>u)=xs:=List.map_id _
     obtain⟨cur',hst,xs',hxs',u1,u2,_⟩:=row_store P (I:=I) (f:=fun j=>[.lit (xs.getD j undef)]) q1' q2 (fun j hj=>by
      have hj':j<xs.length:=by omega
      refine⟨xs[j],[],?_,?_,rfl⟩
      ·rw[Nat.mul_one,a2A hj']
       rfl
      ·simp[Den,hj']) (ix:=i) (off:=0) (z:=[.any]) (vs:=[slVal e2 k]) g2 ⟨_,[],rfl,trivial,rfl⟩ hin (by simp) (fun hI=>hg.sat.notI b hob hI)
     have hat:∀j,j<nn→xs'[j]? = if j=i then some (slVal e2 k) else xs[j]?:=by
      intro j hj
      rw[hxs']
      simp only[Nat.mul_one,a2O,List.length_singleton,a1G,a0M,a0J]
      have e1:min i xs.length=i:=by omega
      simp only[e1]
      by_cases c1:j<i
      ·rw[if_pos (by omega),if_pos c1,if_neg (by omega)]
       simp[c1]
      ·by_cases c2:j=i
       ·subst c2
        simp
       ·rw[if_neg (by omega),if_neg c2,a0R]
        congr 1
        omega
     have e2ne:∀q b',q<nn→hole≠some q→(β q).1=some b'→e2.1≠some b':=by
      intro q b' hq hh hb he
      exact hne (hg.sat.apart id2 id b' e2 _ _ _ hη2 hη hH2 hH (.inl ⟨trivial,he⟩) (.inr ⟨q,hq,hh,hb⟩))
     obtain⟨s1,s2,s3⟩:=hg.sat.turnM (w':=w.setRow b cur') (H':=(H.set id2 .gone).set id (.grid ty ety esz nn (fun i'=>if i'=i then k else m i') (fun i' j'=>if i'=i then f2 j' else f i' j') β' none nz)) (by simp) (fun j=>j=id∨j=id2)
      (fun j hj=>by
       simp only[not_or] at hj
       rw[a0G,if_neg (fun e=>hj.1 e.symm),a0G,if_neg (fun e=>hj.2 e.symm)])
      (fun j k' e1 o1 hS h1 h2 h3=>by
       rcases hS with rfl|rfl
       ·rw[hη] at h1
        cases h1
        rw[a0G,if_pos rfl] at h2
        split at h2
        ·cases h2
         rcases h3 with⟨_,h3⟩|⟨q,hq,_,h3⟩
         ·exact⟨j,_,_,.inl rfl,hη,hH,.inl ⟨trivial,h3⟩⟩
         ·by_cases hqi:q=i
          ·subst hqi
           simp only[β',if_true] at h3
           exact⟨id2,_,_,.inr rfl,hη2,hH2,.inl ⟨trivial,h3⟩⟩
          ·simp only[β',if_neg hqi] at h3
           exact⟨j,_,_,.inl rfl,hη,hH,.inr ⟨q,hq,hnh q hqi,h3⟩⟩
        ·cases h2
       ·rw[a0G,if_neg (fun e=>hne e.symm),a0G,if_pos rfl] at h2
        split at h2
        ·cases h2;exact(O.has_live h3).elim
        ·cases h2)
      (fun j j' k' e1 e1' o1 o1' hS hS' h1 h2 h3 h4 l1 l2=>by
       have gn:∀o1:O,∀e1:Option Nat×Nat,((H.set id2 .gone).set id (.grid ty ety esz nn (fun i'=>if i'=i then k else m i') (fun i' j'=>if i'=i then f2 j' else f i' j') β' none nz))[id2]? = some o1→¬o1.has e1 k':=by
        intro o1 e1 hq hh
        rw[a0G,if_neg (fun e=>hne e.symm),a0G,if_pos rfl] at hq
        split at hq
        ·cases hq;exact O.has_live hh
        ·cases hq
       rcases hS with rfl|rfl<;>rcases hS' with rfl|rfl
       ·rfl
       ·exact(gn _ _ h4 l2).elim
       ·exact(gn _ _ h3 l1).elim
       ·rfl)
      rfl rfl rfl (by simp) (fun k' hk'=>setRow_other w b k' _ (fun e=>hk' id _ _ (.inl rfl) hη hH (e▸hhas)))
      (fun m0 j e1 o1 hS h1 h2=>by
       rcases hS with rfl|rfl
       ·rw[hη] at h1
        cases h1
        rw[a0G,if_pos rfl] at h2
        split at h2
        ·cases h2
         refine⟨⟨xs',u1,u2,q3,fun q hq _=>?_⟩,fun q hq _=>?_,fun q q' b' hq hq' _ _ hb hb'=>?_,fun q b' hq _ hb=>?_⟩
         ·rw[hat q hq]
          by_cases hqi:q=i
          ·simp only[β',if_pos hqi]
          ·simp only[β',if_neg hqi]
           exact q4 q hq (hnh q hqi)
         ·by_cases hqi:q=i
          ·simp only[β',if_pos hqi]
           refine⟨hz2,ys,a1n p1 (fun k' hk'=>setRow_other w b k' _ (fun e=>hne ?_)),p2,fun j' hj'=>DenL.mono m0.nil _ _ (p4 j' hj')⟩
           exact hg.sat.apart id2 j b e2 _ _ _ hη2 hη hH2 hH (.inl ⟨trivial,e▸hk'⟩) hhas
          ·simp only[β',if_neg hqi]
           obtain⟨v0,zs,v1,v2,v3⟩:=q5 q hq (hnh q hqi)
           refine⟨v0,zs,a1n v1 (fun k' hk'=>setRow_other w b k' _ (fun e=>?_)),v2,fun j' hj'=>DenL.mono m0.nil _ _ (v3 j' hj')⟩
           exact q7 q k' hq (hnh q hqi) hk' (by rw[e])
         ·by_cases hqi:q=i<;>by_cases hqi':q'=i
          ·rw[hqi,hqi']
          ·simp only[β',if_pos hqi] at hb
           simp only[β',if_neg hqi'] at hb'
           exact(e2ne q' b' hq' (hnh q' hqi') hb' hb).elim
          ·simp only[β',if_neg hqi] at hb
           simp only[β',if_pos hqi'] at hb'
           exact(e2ne q b' hq (hnh q hqi) hb hb').elim
          ·simp only[β',if_neg hqi] at hb
           simp only[β',if_neg hqi'] at hb'
           exact q6 q q' b' hq hq' (hnh q hqi) (hnh q' hqi') hb hb'
         ·by_cases hqi:q=i
          ·simp only[β',if_pos hqi] at hb
           intro he
           exact hne (hg.sat.apart id2 j b' e2 _ _ _ hη2 hη hH2 hH (.inl ⟨trivial,hb⟩) (.inl ⟨trivial,he⟩))
          ·simp only[β',if_neg hqi] at hb
           exact q7 q b' hq (hnh q hqi) hb
        ·cases h2
       ·rw[a0G,if_neg (fun e=>hne e.symm),a0G,if_pos rfl] at h2
        split at h2
        ·cases h2;trivial
        ·cases h2)
     refine a2y hd (w':=w.setRow b cur') ?_ ⟨Act.put_defers' _ _ _,I,η,_,_,h,⟨s1,(hg.tmp.mono s2).put trivial⟩,hR.step s3 (fun _ _ hh=>hh)⟩
     have e1:[slVal e2 k].length=inf.size:=by simp;omega
     simp[execOp,hop,hxe,Instr.storeAt,Instr.sureAddr,storeVar,sizeOf,typeInfo,hi,g1]
     simp only[Nat.mul_one,a2O] at hst
     rw[hst]
     simp
     omega
    ·exact h.elim
   ·exact h.elim
  ·exact h.elim
 ·rename_i sx x t t' hop
  have hs:=a0l hg.tmp (ht sx (by simp[hop,Op.operands,Call.operands]))
  have hx:=a0l hg.tmp (ht x (by simp[hop,Op.operands,Call.operands]))
  split at h
  ·rename_i e he htt
   obtain rfl:=a0f htt
   obtain⟨hu,i,hinfo,hsz,hby,hke,hzz⟩:=a0q hE he
   split at h
   ·rename_i z ms g c hz hsrc hpos
    rw[hzz] at hz
    obtain⟨zv,hzv,_,hz1,hzs⟩:=a1d hz
    simp only[a0D] at hpos
    have hb1024:=a0P hpos.2
    have hpos:=a0P hpos.1
    rw[←hsz] at *
    rw[←hby] at *
    have hrunof:∀v' w',(Builtin.append_ #[t,t] o.type #[a.eval sx,a.eval x]).run P w=.ok v' w'→(execOp a.eval o).run P w=.ok (.value v') w':=by
     intro v' w' hr
     simp[execOp,hop,resolve,invoke,builtin,hr]
    split at h
    ·rename_i id ix n0 eb hsv
     rw[hsv] at hs
     split at h
     ·rename_i ty ety esz N m f β hole nz hgt
      simp only[cond_eq_ite,a0D] at h
      split at h
      ·rename_i hcc
       obtain rfl:=a0f hcc.1
       obtain rfl:=a0f hcc.2
       have h0:=srcC_spec h
       clear h
       obtain⟨hc,⟨hin,rfl,hbe,rfl,hms,hb2⟩,h⟩:=h0
       have hb1:(m ix+ms)*i.bytes≤137438953472*1024:=a2I hb2 hb1024
       rw[a1k,a0p,a1i,a0n,a0v] at h
       obtain⟨⟨e0,hη,_⟩,hnz,hsval⟩:=hs
       subst hbe
       have hH:=a0j hgt trivial
       have hobj:=hg.sat.obj id _ _ hη hH
       obtain⟨⟨xs,q1,q2,q3,q4⟩,q5,q6,q7⟩:=hobj
       obtain⟨r0,ys,hown,h1,hden⟩:=q5 ix hin (by simp)
       obtain⟨v',w',news,g1,g2,g3,g4,g5,g6,g7,g8⟩:=a3b (P:=P) hg.sat t o.type ety i zv hu hinfo hzv hzs hpos hown hsrc hc hx (by omega) (by omega)
       obtain⟨e',k1,k2,k3,k4,k5⟩:=a2b g2
       rw[slVal_own] at g3 g5
       obtain⟨d1,d2,d3⟩:=hg.sat.turnG (w':=w) (o':=.grid ty ety i.size N m f β (some ix) nz) hη hH (fun k hk=>hk.elim (fun g=>.inl ⟨trivial,g.2⟩) (fun⟨q,hq,hh,hb⟩=>.inr ⟨q,hq,by simp,hb⟩)) rfl rfl rfl rfl (fun _ _=>rfl)
        (fun _=>grid_hole ix (hg.sat.obj id _ _ hη hH))
       have hidH:=(a0B.1 hH).1
       obtain⟨s1,s2,s3⟩:=hg.sat.renewM (H.set id (.grid ty ety i.size N m f β (some ix) nz)) (by simp) d1 (fun b hb=>(d3.wnew b hb).resolve_right (fun hle=>by have:=d1.lt b hb;omega)) (β ix).1 g3 (fun b hb=>by
        have hhas:O.has (.grid ty ety i.size N m f β none nz) e0 b:=.inr ⟨ix,hin,by simp,hb⟩
        refine⟨⟨id,e0,_,hη,hH,hhas⟩,?_⟩
        rintro⟨j,c2,o2,p1,p2,p3⟩
        rw[a0G] at p2
        by_cases hji:id=j
        ·subst hji
         rw[if_pos rfl,if_pos hidH] at p2
         cases p2
         rw[hη] at p1
         cases p1
         rcases p3 with⟨_,p3⟩|⟨q,hq,hh,p3⟩
         ·exact q7 ix b hin (by simp) hb p3
         ·exact hh (by rw[q6 q ix b hq hin (by simp) (by simp) p3 hb])
        ·rw[if_neg hji] at p2
         exact hji (hg.sat.apart id j b _ c2 _ o2 hη p1 hH p2 hhas p3)) e' (.row ety i.size (m ix+ms) (appF (m ix) (f ix) g) true) (fun b hb=>by
        rcases hb with⟨_,hb⟩|hb
        ·obtain⟨bb,c2⟩:=e'
         simp only at hb
         subst hb
         refine⟨?_,k4 b c2 rfl⟩
         rw[k1,slVal_own] at g5
         rcases g5 b rfl with hb|hb
         ·left
          have hhas:O.has (.grid ty ety i.size N m f β none nz) e0 b:=.inr ⟨ix,hin,by simp,hb⟩
          refine⟨⟨id,e0,_,hη,hH,hhas⟩,?_⟩
          rintro⟨j,c3,o2,p1,p2,p3⟩
          rw[a0G] at p2
          by_cases hji:id=j
          ·subst hji
           rw[if_pos rfl,if_pos hidH] at p2
           cases p2
           rw[hη] at p1
           cases p1
           rcases p3 with⟨_,p3⟩|⟨q,hq,hh,p3⟩
           ·exact q7 ix b hin (by simp) hb p3
           ·exact hh (by rw[q6 q ix b hq hin (by simp) (by simp) p3 hb])
          ·rw[if_neg hji] at p2
           exact hji (hg.sat.apart id j b _ c3 _ o2 hη p1 hH p2 hhas p3)
         ·exact .inr hb
        ·exact hb.elim) (fun m0=>by
        refine⟨ys++news,by rw[←k1];exact g2,fun u hu=>?_,?_,?_⟩
        ·rcases a0U.1 hu with hu|hu
         ·exact h1 u hu
         ·exact g7 u hu
        ·rw[k2,g4,slVal_nil]
         constructor
         ·rintro⟨q1,q2⟩;omega
         ·rintro⟨q1,q2⟩;omega
        ·intro k hk
         exact DenL.mono m0.nil _ _ (appended_rows hown.1 g6 hden g8 k hk))
       rw[hsval] at hrunof
       refine a0m hd (hrunof v' w' g1) ⟨Act.put_defers' _ _ _,I,_,_,_,h,⟨s1,(hg.tmp.mono s2).put ⟨e',?_,k5,k1⟩⟩,hR.step s3 (fun _ _ hh=>getElem?_grow hh)⟩
       rw[←hg.sat.len]
       simp
      ·exact h.elim
     ·exact h.elim
    ·exact h.elim
   ·split at h
    ·rename_i g1 n1 hsv
     exact gridApp_sound hR hE hg hd hop ht he hsv h
    ·exact h.elim
  ·exact h.elim
 ·rename_i t u hop
  split at h
  ·rename_i e id k he hu
   split at h
   ·rename_i z0 ety esz k2 f2 nz2 hz0 hgt
    simp only[cond_eq_ite] at h
    split at h
    ·rename_i hc
     exact gridMk_sound hR hE hg hd hop he hu hz0 hgt (a0f hc) h
    ·exact h.elim
   ·exact h.elim
  ·exact h.elim
 ·exact h.elim
end
end Go.Sx
