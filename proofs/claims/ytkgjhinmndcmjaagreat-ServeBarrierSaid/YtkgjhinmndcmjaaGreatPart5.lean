/- Own work: texts of the proof of a law (SzOps3, SzMapD, SzMapE). No condition. -/
import Derived.Laws.Append
import Derived.Test.YtkgjhinmndcmjaaGreatPart2
import Derived.Test.YtkgjhinmndcmjaaGreatPart4
import Derived.Test.YtkgjhinmndcmjaaGreatPart0
namespace Go.Sx
open Go
variable {P:Program} {E:Env}
theorem unV_sound {I:Nat→Prop} {η:Eta} {w:World} (op:UnOp) {a:V} {x:Value} (ha:Den I η w a x):(unV op a).sound P I η w (Op.unary op x):=by
 unfold unV
 split
 ·rename_i k n
  have hx:x=.int k n:=ha
  subst hx
  intro h
  exact⟨.int k (-n),by simp[Op.unary,Op.intArith,wrap_in k _ h],rfl⟩
 ·rename_i p d
  have hx:x=.bool (@decide p d):=ha
  subst hx
  exact⟨.bool (!@decide p d),by simp[Op.unary],by simp only[Den];congr 1;by_cases hp:p<;>simp[hp]⟩
 ·have hx:x=.bool true:=ha
  subst hx
  exact⟨.bool false,by simp[Op.unary],rfl⟩
 ·have hx:x=.bool false:=ha
  subst hx
  exact⟨.bool true,by simp[Op.unary],rfl⟩
 ·trivial
theorem pickV_sound {I:Nat→Prop} {η:Eta} {w:World} {c a b:V} {xc xa xb:Value} (hc:Den I η w c xc) (ha:Den I η w a xa) (hb:Den I η w b xb) :
  (pickV c a b).sound P I η w (do pure (if ←asBool xc then xa else xb)):=by
 have bt:∀(t:Bool),(do pure (if ←asBool (.bool t) then xa else xb):Sem Value).run P w=.ok (if t then xa else xb) w:=by
  intro t;simp[asBool]
 unfold pickV
 split
 ·have:xc=.bool true:=hc
  subst this
  split
  ·trivial
  ·exact⟨xa,by simpa using bt true,ha⟩
 ·have:xc=.bool false:=hc
  subst this
  split
  ·trivial
  ·exact⟨xb,by simpa using bt false,hb⟩
 ·rename_i p d
  have:xc=.bool (@decide p d):=hc
  subst this
  split
  ·rename_i q r dr
   intro hpq
   refine⟨_,bt _,?_⟩
   have hb':xb=.bool false:=hb
   subst hb'
   by_cases hp:p
   ·have h1:=ha.1 (hpq hp)
    simp only[Den] at h1 ⊢
    simp[hp,h1]
   ·simp[Den,hp]
  ·rename_i q
   intro hpq
   refine⟨_,bt _,?_⟩
   have hb':xb=.bool false:=hb
   subst hb'
   by_cases hp:p
   ·have h1:=ha.1 (hpq hp)
    simp only[Den] at h1 ⊢
    simp[hp,h1]
   ·simp[Den,hp]
  ·rename_i q
   intro hpq
   refine⟨_,bt _,?_⟩
   have hb':xb=.bool false:=hb
   subst hb'
   by_cases hp:p
   ·have h1:=ha.1 (hpq hp)
    simp only[Den] at h1 ⊢
    simp[hp,h1]
   ·simp[Den,hp]
  ·rename_i r dr
   refine⟨_,bt _,?_⟩
   have hb':xb=.bool false:=hb
   have ha':xa=.bool (@decide r dr):=ha
   subst hb' ha'
   by_cases hp:p<;>simp[Den,hp]
  ·rename_i q r dr
   intro hpq
   refine⟨_,bt _,?_⟩
   have ha':xa=.bool true:=ha
   subst ha'
   by_cases hp:p
   ·simp[Den,hp]
   ·have h1:=hb.1 (hpq hp)
    simp only[Den] at h1 ⊢
    simp[hp,h1]
  ·rename_i q
   intro hpq
   refine⟨_,bt _,?_⟩
   have ha':xa=.bool true:=ha
   subst ha'
   by_cases hp:p
   ·simp[Den,hp]
   ·have h1:=hb.1 (hpq hp)
    simp only[Den] at h1 ⊢
    simp[hp,h1]
  ·rename_i q
   intro hpq
   refine⟨_,bt _,?_⟩
   have ha':xa=.bool true:=ha
   subst ha'
   by_cases hp:p
   ·simp[Den,hp]
   ·have h1:=hb.1 (hpq hp)
    simp only[Den] at h1 ⊢
    simp[hp,h1]
  ·rename_i r dr
   refine⟨_,bt _,?_⟩
   have ha':xa=.bool true:=ha
   have hb':xb=.bool (@decide r dr):=hb
   subst hb' ha'
   by_cases hp:p<;>simp[Den,hp]
  ·trivial
 ·trivial
theorem PR.sound_need {I:Nat→Prop} {η:Eta} {w:World} {s:Sem Value} {v:V} {c:Prop} (h:c→Runs P I η w s v):(PR.need c v).sound P I η w s:=h
theorem a0j {H:List O} {id:Nat} {o:O} (h:get .gone H id=o) (ho:o.live):H[id]? = some o:=by
 rw[a0z] at h
 cases hi:H[id]? with
 |none=>rw[hi] at h;simp at h;subst h;cases ho
 |some x=>rw[hi] at h;simp at h;subst h;rfl
theorem a2h {w:World} {base:Nat} {e:TypeId} {sz n b cap:Nat} {xs:List Value} (h:w.ownsRow base e sz (.slice (some ⟨b,0,none⟩) n cap) n xs) (j:Nat) (u:Value) (hj:xs[j]? = some u) :
  w.cell? ⟨b,j,none⟩=some u:=by
 have:=h.cells (g:=b) rfl j u hj
 rw[Addr.add_none] at this
 simpa using this
theorem loadV_sound (hE:a1b E P) {I:Nat→Prop} {η:Eta} {w:World} {H:List O} (hS:Objs I η w H) (t:TypeId) {a:V} {x:Value} (ha:Den I η w a x) :
  (loadV E H t a).sound P I η w (Instr.loadAt t x):=by
 unfold loadV
 split
 ·rename_i id off
  obtain⟨b,c,hη,rfl⟩:=ha
  split
  ·rename_i ty vs hg
   have hH:=a0j hg trivial
   obtain⟨b',c',heq,xs,hb,h1,hd⟩:=hS id _ _ hη hH
   cases heq
   refine load_cells hE t b off _ (xs.drop off) ?_ (fun u hu=>h1 u (a0Y hu)) (by rw[a2f];exact hd.drop off)
   intro j u hj
   rw[a0R] at hj
   simp[World.cell?,hb,hj]
  ·trivial
 ·rename_i id sz i off
  obtain⟨b,c,hη,rfl⟩:=ha
  split
  ·rename_i ty sz' n f nz hg
   have hH:=a0j hg trivial
   obtain⟨xs,hown,h1,_,hd⟩:=hS id _ _ hη hH
   split
   ·rename_i v hm hsz
    obtain rfl:=a0f hsz
    refine PR.sound_need fun hi=>?_
    have hv:slVal (some b,c) n=.slice (some ⟨b,0,none⟩) n c:=rfl
    rw[hv] at hown
    have hrow:=hd i hi
    have hxl:=hown.1
    have:=load_cells hE (I:=I) (η:=η) (w:=w) t b (i*sz+off) (drop off (f i)) (((xs.drop (i*sz)).take sz).drop off) (by
     intro j u hj
     rw[a0R,a1C] at hj
     split at hj
     ·rw[a0R] at hj
      have:=a2h hown _ u hj
      rw[show i*sz+(off+j)=i*sz+off+j by omega] at this
      exact this
     ·cases hj) (fun u hu=>h1 u (a0Y (a0X (a0Y hu)))) (by rw[a2f];exact(DenL.mono (Mono.ofNil I η w) _ _ hrow).drop off)
    rw[hm] at this
    exact this
   ·trivial
  ·rename_i ty ety esz n m f β hole nz hg
   have hH:=a0j hg trivial
   obtain⟨⟨xs,hown,h1,_,hx⟩,h5,_,_⟩:=hS id _ _ hη hH
   split
   ·rename_i v hm hsz
    simp only[a0D] at hsz
    obtain rfl:=a0f hsz.1
    obtain rfl:=a0f hsz.2
    refine PR.sound_need fun hi=>?_
    obtain⟨hi,rfl⟩:=hi
    have hv:slVal (some b,c) n=.slice (some ⟨b,0,none⟩) n c:=rfl
    rw[hv] at hown
    have hxi:=hx i hi (by simp)
    have:=load_cells hE (I:=I) (η:=η) (w:=w) t b (i*1+0) [.gsl id i (m i) (β i)] [slVal (β i) (m i)] (by
     intro j u hj
     cases j with
     |zero=>
      simp at hj
      subst hj
      have:=a2h hown i _ hxi
      simpa using this
     |succ j=>simp at hj) (fun u hu=>by
      have:u∈xs:=by
       simp at hu
       subst hu
       exact a1Y hxi
      exact h1 u this) ⟨_,[],rfl,⟨⟨_,hη,by simp⟩,(h5 i hi (by simp)).1,rfl⟩,rfl⟩
    rw[hm] at this
    exact this
   ·trivial
  ·trivial
 ·rename_i id i j off sz e
  obtain⟨⟨e0,hη,_⟩,b,c,rfl,rfl⟩:=ha
  split
  ·rename_i ty ety esz n m f β hole nz hg
   have hH:=a0j hg trivial
   split
   ·rename_i v hm hsz
    obtain rfl:=a0f hsz
    refine PR.sound_need fun hi=>?_
    obtain⟨hi,rfl,he,hj⟩:=hi
    obtain⟨_,h5,_,_⟩:=hS id _ _ hη hH
    obtain⟨_,ys,hown,h1,hd⟩:=h5 i hi (by simp)
    have hv:slVal (β i) (m i)=.slice (some ⟨b,0,none⟩) (m i) c:=by rw[←he];rfl
    rw[hv] at hown
    have hrow:=hd j hj
    have hxl:=hown.1
    have:=load_cells hE (I:=I) (η:=η) (w:=w) t b (j*sz+off) (drop off (f i j)) (((ys.drop (j*sz)).take sz).drop off) (by
     intro q u hq
     rw[a0R,a1C] at hq
     split at hq
     ·rw[a0R] at hq
      have:=a2h hown _ u hq
      rw[show j*sz+(off+q)=j*sz+off+q by omega] at this
      exact this
     ·cases hq) (fun u hu=>h1 u (a0Y (a0X (a0Y hu)))) (by rw[a2f];exact(DenL.mono (Mono.ofNil I η w) _ _ hrow).drop off)
    rw[hm] at this
    exact this
   ·trivial
  ·trivial
 ·rename_i cs
  obtain⟨b,o,vs,rfl,_,hc,h1,hd⟩:=ha
  exact load_cells hE t b o cs vs hc h1 (DenL.mono (Mono.ofNil I η w) _ _ hd)
 ·trivial
theorem fieldOf_spec (hE:a1b E P) {s:TypeId} {f o n:Nat} {t:TypeId} (hk:(E.ti s).known=true) (h:fieldOf E s f=some (o,n,t)) :
  ∃fs fd,P.underlying s=some (.struct fs)∧fs[f]? = some fd∧fd.offset=o∧P.cellsOf fd.type=n∧n≠0∧fd.type=t:=by
 obtain⟨i,d,hi,hu,_,_,hkind,_,_⟩:=hE.info hk
 unfold fieldOf at h
 rw[hkind] at h
 have hst:∃fs,d=.struct fs:=by
  revert h
  cases d<;>simp[a1o]
 obtain⟨fs,rfl⟩:=hst
 simp only[a1o] at h
 refine⟨fs,?_⟩
 rw[a0z,a1O,a3T] at h
 cases hf:fs[f]? with
 |none=>simp[hf] at h
 |some fd=>
  refine⟨fd,hu,rfl,?_⟩
  simp only[hf,a3U,a2S] at h
  split at h
  ·cases h
  ·rename_i o' n' t' heq
   simp only[a1H,Prod.mk.injEq] at h heq
   obtain⟨h1,h2,h3⟩:=h
   obtain⟨g1,g2,g3⟩:=heq
   exact⟨g1.trans h1,g2.trans h2,by omega,g3.trans h3⟩
theorem cellsOf_info {t:TypeId} (h:P.cellsOf t≠0):∃i,P.info? t=some i∧i.size=P.cellsOf t:=by
 unfold Program.cellsOf at h ⊢
 cases hi:P.info? t with
 |none=>simp[hi] at h
 |some i=>exact⟨i,rfl,by simp⟩
theorem fieldAddrV_sound (hE:a1b E P) {I:Nat→Prop} {η:Eta} {w:World} (s:TypeId) (f:Nat) {a:V} {x:Value} (ha:Den I η w a x) :
  (fieldAddrV E s f a).sound P I η w (Instr.fieldAt s x f):=by
 unfold fieldAddrV
 split
 ·rename_i o n t hk hf
  obtain⟨fs,fd,hu,hfs,ho,hn,hn0,_⟩:=fieldOf_spec hE hk hf
  obtain⟨i,hi,his⟩:=cellsOf_info (P:=P) (t:=fd.type) (by omega)
  have hrun:∀b off,(Instr.fieldAt s (.pointer (some ⟨b,off,none⟩)) f).run P w=.ok (.pointer (some ⟨b,off+o,none⟩)) w:=by
   intro b off
   have h0:¬i.size=0:=by omega
   simp[Instr.fieldAt,run_underlying hu,hfs,Instr.sureAddr,fieldPlace,sizeOf,typeInfo,hi,h0,Addr.add_none,ho]
  split
  ·rename_i id off
   obtain⟨b,c,hη,rfl⟩:=ha
   exact⟨_,hrun b off,b,c,hη,rfl⟩
  ·rename_i id sz i off
   obtain⟨b,c,hη,rfl⟩:=ha
   exact⟨_,hrun b _,b,c,hη,by rw[Nat.add_assoc]⟩
  ·rename_i cs
   obtain⟨b,off,vs,rfl,hI,hc,h1,hd⟩:=ha
   refine⟨_,hrun b off,b,off+o,vs.drop o,rfl,hI,fun j u hj=>?_,fun u hu=>h1 u (a0Y hu),by rw[a2f];exact hd.drop o⟩
   rw[a0R] at hj
   rw[Nat.add_assoc]
   exact hc _ _ hj
  ·trivial
 ·trivial
theorem fieldV_sound (hE:a1b E P) {I:Nat→Prop} {η:Eta} {w:World} (s:TypeId) (f:Nat) {a:V} {x:Value} (ha:Den I η w a x) :
  (fieldV E s f a).sound P I η w (Instr.field s x f):=by
 unfold fieldV
 split
 ·rename_i o n t cs hk hf
  obtain⟨fs,fd,hu,hfs,ho,hn,hn0,rfl⟩:=fieldOf_spec hE hk hf
  obtain⟨vs,rfl,h1,hd⟩:=ha
  split
  ·rename_i hkt hagg
   obtain⟨i,d,hi,hut,hs,_,hkind,_,_⟩:=hE.info hkt
   have hag:=run_isAgg hut w
   rw[←agg_kind P d _ hkind,hagg] at hag
   have hsz:i.size=n:=by rw[←hn];simp[Program.cellsOf,hi]
   simp only[cond_eq_ite]
   split
   ·refine⟨.agg ((vs.drop o).take n).toArray,?_,_,rfl,fun u hu=>h1 u (a0Y (a0X hu)),by rw[take_eq,a2f];exact(hd.drop o).take n⟩
    simp[Instr.field,run_underlying hu,hfs,asAgg,part,hag,sizeOf,typeInfo,hi,hsz,ho]
   ·trivial
  ·rename_i hkt hagg
   obtain⟨i,d,hi,hut,hs,_,hkind,_,_⟩:=hE.info hkt
   have hag:=run_isAgg hut w
   rw[←agg_kind P d _ hkind,hagg] at hag
   split
   ·rename_i c rest hc
    have hd':=hd.drop o
    rw[a2f] at hc
    rw[hc] at hd'
    obtain⟨v,r,e1,hv,_⟩:=hd'
    have hz':vs[o]? = some v:=by
     have:=congrArg (fun l=>l[0]?) e1
     simpa using this
    refine⟨v,?_,hv⟩
    simp[Instr.field,run_underlying hu,hfs,asAgg,part,hag,ho,hz']
   ·trivial
  ·trivial
 ·trivial
theorem a0q (hE:a1b E P) {t e:TypeId} (h:a3a E t=some e):P.underlying t=some (.slice e)∧∃i,P.info? e=some i∧i.size=(E.ti e).size∧i.bytes=(E.ti e).bytes∧(E.ti e).known=true∧(E.ti e).zero=zeroOf (E.ti e).agg i:=by
 unfold a3a at h
 split at h
 ·rename_i e' hk hkind
  obtain⟨i,d,hi,hu,_,_,hkind',_,_⟩:=hE.info hk
  rw[hkind'] at hkind
  split at h
  ·rename_i hke
   cases h
   obtain⟨i',d',hi',_,hs',hb',_,hz',_⟩:=hE.info hke
   cases d<;>simp[a1o] at hkind
   subst hkind
   exact⟨hu,i',hi',hs'.symm,hb'.symm,hke,hz'⟩
  ·cases h
 ·cases h
theorem arrOf_spec (hE:a1b E P) {t e:TypeId} {n:Nat} (h:arrOf E t=some (n,e)):P.underlying t=some (.array n e)∧∃i,P.info? e=some i∧i.size=(E.ti e).size:=by
 unfold arrOf at h
 split at h
 ·rename_i n' e' hk hkind
  obtain⟨i,d,hi,hu,_,_,hkind',_,_⟩:=hE.info hk
  rw[hkind'] at hkind
  split at h
  ·rename_i hke
   cases h
   obtain⟨i',d',hi',_,hs',_⟩:=hE.info hke
   cases d<;>simp[a1o] at hkind
   obtain⟨rfl,rfl⟩:=hkind
   exact⟨hu,i',hi',hs'.symm⟩
  ·cases h
 ·cases h
theorem indexAddrV_sound (hE:a1b E P) {I:Nat→Prop} {η:Eta} {w:World} (t:TypeId) {a ix:V} {x y:Value} (ha:Den I η w a x) (hi:Den I η w ix y) :
  (indexAddrV E t a ix).sound P I η w (Instr.indexAt t x y):=by
 unfold indexAddrV
 split
 ·rename_i n e ha'
  obtain⟨hu,i,hinfo,hs⟩:=arrOf_spec hE ha'
  have hrun:∀(k:IntKind) (m:Int) (b o:Nat),0≤m∧m<n→(Instr.indexAt t (.pointer (some ⟨b,o,none⟩)) (.int k m)).run P w=.ok (.pointer (some ⟨b,o+m.toNat*(E.ti e).size,none⟩)) w:=by
   intro k m b o hm
   simp[Instr.indexAt,asIntOf,run_underlying hu,Instr.sureAddr,hm,sizeOf,typeInfo,hinfo,hs,Addr.add_none]
  split
  ·rename_i id off k m
   have hy:y=.int k m:=hi
   subst hy
   refine PR.sound_need fun hm=>?_
   obtain⟨b,c,hη,rfl⟩:=ha
   exact⟨_,hrun k m b off hm,b,c,hη,rfl⟩
  ·rename_i id sz j off k m
   have hy:y=.int k m:=hi
   subst hy
   refine PR.sound_need fun hm=>?_
   obtain⟨b,c,hη,rfl⟩:=ha
   exact⟨_,hrun k m b _ hm,b,c,hη,by rw[Nat.add_assoc]⟩
  ·rename_i cs k m
   have hy:y=.int k m:=hi
   subst hy
   refine PR.sound_need fun hm=>?_
   obtain⟨b,off,vs,rfl,hI,hc,h1,hd⟩:=ha
   refine⟨_,hrun k m b off hm,b,_,vs.drop (m.toNat*(E.ti e).size),rfl,hI,fun j u hj=>?_,fun u hu=>h1 u (a0Y hu),by rw[a2f];exact hd.drop _⟩
   rw[a0R] at hj
   rw[Nat.add_assoc]
   exact hc _ _ hj
  ·trivial
 split
 ·rename_i e he
  obtain⟨hu,i,hinfo,hs,_,_,_⟩:=a0q hE he
  have hrun:∀(k:IntKind) (m:Int) (b o n cap:Nat),0≤m∧m<n→(Instr.indexAt t (.slice (some ⟨b,o,none⟩) n cap) (.int k m)).run P w=.ok (.pointer (some ⟨b,o+m.toNat*(E.ti e).size,none⟩)) w:=by
   intro k m b o n cap hm
   simp[Instr.indexAt,asIntOf,run_underlying hu,hm,sizeOf,typeInfo,hinfo,hs,Addr.add_none]
  split
  ·rename_i sz n f k m
   have hy:y=.int k m:=hi
   subst hy
   simp only[cond_eq_ite]
   split
   ·rename_i hsz
    have hsz:=a0f hsz
    refine PR.sound_need fun hm=>?_
    have hnn:m.toNat<n:=by omega
    rcases ha with⟨h0,_⟩|⟨b,o,cap,rfl,hI,hc⟩
    ·omega
    ·obtain⟨vs,hl,h2,h3,h4⟩:=hc.2 m.toNat hnn
     refine⟨_,hrun k m b o n cap hm,b,_,vs,rfl,hI,fun j u hj=>?_,h3,h4⟩
     rw[hsz,Nat.add_assoc]
     exact h2 j u hj
   ·trivial
  ·rename_i id n k m
   have hy:y=.int k m:=hi
   subst hy
   refine PR.sound_need fun hm=>?_
   obtain⟨ee,hη,hnz,rfl⟩:=ha
   obtain⟨bb,cap⟩:=ee
   cases bb with
   |none=>
    have:=hnz rfl
    omega
   |some b=>exact⟨_,hrun k m b 0 n cap hm,b,cap,hη,by simp⟩
  ·rename_i id sz off n k m
   have hy:y=.int k m:=hi
   subst hy
   simp only[cond_eq_ite]
   split
   ·rename_i hsz
    have hsz:=a0f hsz
    refine PR.sound_need fun hm=>?_
    rcases ha.2 with⟨h0,_⟩|⟨b,c,cap,hη,_,rfl⟩
    ·omega
    ·exact⟨_,hrun k m b _ n cap hm,b,c,hη,by rw[hsz,a0W];rfl⟩
   ·trivial
  ·rename_i id ii n eb k m
   have hy:y=.int k m:=hi
   subst hy
   refine PR.sound_need fun hm=>?_
   obtain⟨h0,hnz,rfl⟩:=ha
   obtain⟨bb,cap⟩:=eb
   cases bb with
   |none=>
    have:=(hnz rfl).1
    omega
   |some b=>exact⟨_,hrun k m b 0 n cap hm,h0,b,cap,rfl,by simp⟩
  ·trivial
 ·trivial
end Go.Sx
namespace Go.Sx
open Go
variable {P:Program} {E:Env}
theorem a2c (I:Nat→Prop) (η:Eta) (w:World):∀(l:List Value),DenL I η w (l.map ofZ) l
 |[]=>rfl
 |v :: l=>⟨v,l,rfl,den_ofZ I η w v,a2c I η w l⟩
theorem zeroOf_agg {ag:Bool} {i:TypeInfo} {zs:List V} (h:zeroOf ag i=some zs):∃z,i.zero=some z∧zs=z.cells.toList.map ofZ∧(∀u∈z.cells.toList,u.oneCell'=true)∧z.cells.size=i.size∧ag=isAggV z:=by
 unfold zeroOf at h
 split at h
 ·rename_i z hz
  simp only[cond_eq_ite] at h
  split at h
  ·rename_i hc
   simp only[a0D] at hc
   cases h
   exact⟨z,hz,rfl,fun u hu=>a2G.1 hc.1.1 u hu,a0f hc.1.2,by have:=hc.2;revert this;cases ag<;>cases isAggV z<;>simp[bEq]⟩
  ·cases h
 ·cases h
theorem a1d {ag:Bool} {i:TypeInfo} {zs:List V} (h:zeroOf ag i=some zs):∃z,i.zero=some z∧zs=z.cells.toList.map ofZ∧(∀u∈z.cells.toList,u.oneCell'=true)∧z.cells.size=i.size:=by
 obtain⟨z,h1,h2,h3,h4,_⟩:=zeroOf_agg h
 exact⟨z,h1,h2,h3,h4⟩
end Go.Sx
namespace Go.Sx
open Go
variable {P:Program} {E:Env}
theorem keyInts_den {I:Nat→Prop} {η:Eta} {w:World}:∀{ks:List IntKind} {cs:List V} {k:List Int} {vs:List Value},a1u ks cs=some k→DenL I η w cs vs→vs=a0o ks k∧k.length=ks.length
 |[],[],k,vs,h,hd=>by simp[a1u] at h;subst h;exact⟨hd,rfl⟩
 |q :: ks,.int q' n :: l,k,vs,h,hd=>by
  simp only[a1u,cond_eq_ite] at h
  split at h
  ·rename_i hq
   have hq:q=q':=by simpa using hq
   subst hq
   split at h
   ·rename_i r hr
    cases h
    obtain⟨v,rest,rfl,h1,h2⟩:=hd
    obtain⟨e1,e2⟩:=keyInts_den hr h2
    have h1:v=.int q n:=h1
    subst h1 e1
    exact⟨rfl,by simp[e2]⟩
   ·cases h
  ·cases h
 |[],_ :: _,_,_,h,_=>by simp[a1u] at h
 |q :: ks,[],_,_,h,_=>by simp[a1u] at h
 |q :: ks,c :: l,k,vs,h,hd=>by
  cases c<;>simp only[a1u] at h<;>first|(cases h;done)|skip
  rename_i q' n
  simp only[cond_eq_ite] at h
  split at h
  ·rename_i hq
   have hq:q=q':=by simpa using hq
   subst hq
   split at h
   ·rename_i r hr
    cases h
    obtain⟨v,rest,rfl,h1,h2⟩:=hd
    obtain⟨e1,e2⟩:=keyInts_den hr h2
    have h1:v=.int q n:=h1
    subst h1 e1
    exact⟨rfl,by simp[e2]⟩
   ·cases h
  ·cases h
theorem keyV_den {I:Nat→Prop} {η:Eta} {w:World} {ks:List IntKind} {ka:Bool} {x:V} {k:List Int} {v:Value} (h:keyV ks ka x=some k) (hd:Den I η w x v):v=encK ks ka k∧k.length=ks.length:=by
 unfold keyV at h
 split at h
 ·obtain⟨vs,rfl,_,hdl⟩:=hd
  obtain⟨rfl,h2⟩:=keyInts_den h hdl
  exact⟨rfl,h2⟩
 ·obtain⟨e1,h2⟩:=keyInts_den h (show DenL I η w [x] [v] from⟨v,[],rfl,hd,rfl⟩)
  refine⟨?_,h2⟩
  simp only[encK,cond_false,←e1,List.headD_cons]
 ·cases h
end Go.Sx
namespace Go.Sx
open Go
variable {P:Program} {E:Env}
theorem ksEq_spec:∀{a b:List IntKind},ksEq a b=true→a=b
 |[],[],_=>rfl
 |x :: a,y :: b,h=>by
  simp only[ksEq,a0D,decide_eq_true_eq] at h
  rw[h.1,ksEq_spec h.2]
 |[],_ :: _,h=>by cases h
 |_ :: _,[],h=>by cases h
theorem a2w {a b:Bool} (h:bEq a b=true):a=b:=by cases a<;>cases b<;>first|rfl|cases h
theorem mapT_spec (hE:a1b E P) {t et:TypeId} {ks:List IntKind} {ka va:Bool} (h:mapT E t=some (ks,ka,va,et)):∃kt,P.underlying t=some (.map kt et)∧KeyT P kt ks ka∧va=(E.ti et).agg∧(E.ti et).known=true:=by
 unfold mapT at h
 split at h
 ·rename_i kt et' hk hkind
  split at h
  ·rename_i ks' hks hkn
   cases h
   obtain⟨i,d,hi,hu,_,_,hkd,_,_⟩:=hE.info hk
   rw[hkd] at hkind
   have:d=.map kt et:=by cases d<;>simp[a1o] at hkind;rw[hkind.1,hkind.2]
   subst this
   exact⟨kt,hu,keyT_of hE (by omega) hks,rfl,hkn⟩
  ·cases h
 ·cases h
theorem mapOf_spec {I:Nat→Prop} {η:Eta} {w:World} {H:List O} (hS:Objs I η w H) {x:V} {v:Value} (hd:Den I η w x v) {ks:List IntKind} {ka va:Bool} {dom:List Int→Prop} {val:List Int→List V} {n:Nat} (h:mapOf H x=some (ks,ka,va,dom,val,n)) :
  ∃b es g,v=.map (some b)∧w.heap[b]? = some (.map es g.clock)∧MapRel (fun k vs=>DenL I [] w (val k) vs) ks ka va dom n g es.toList:=by
 unfold mapOf at h
 split at h
 ·rename_i id
  split at h
  ·rename_i hgt
   cases h
   obtain⟨b,c,hη,rfl⟩:=hd
   obtain⟨b',c',he,es,h1,h2⟩:=hS _ _ _ hη (a0j hgt trivial)
   cases he
   exact⟨b,es,_,rfl,h1,h2⟩
  ·cases h
 ·cases h
  obtain⟨b,es,g,rfl,_,h1,h2⟩:=hd
  exact⟨b,es,g,rfl,h1,h2⟩
 ·cases h
theorem pickD_pos {p:Prop} (hp:p) {a b c:V} (h:pickD p a b=some c):c=a:=by
 unfold pickD at h
 split at h
 ·rename_i q x q' y
  simp only[cond_eq_ite] at h
  split at h
  ·cases h;simp
  ·cases h
 ·rename_i x d y d'
  cases h
  have e:@ite Prop p (Classical.propDecidable p) x y=x:=if_pos hp
  congr 1
  exact Subsingleton.helim (by rw[e]) _ _
 ·cases h
theorem pickD_neg {p:Prop} (hp:¬p) {a b c:V} (h:pickD p a b=some c):c=b:=by
 unfold pickD at h
 split at h
 ·rename_i q x q' y
  simp only[cond_eq_ite] at h
  split at h
  ·rename_i hq
   have hq:q=q':=by simpa using hq
   cases h;simp[hq]
  ·cases h
 ·rename_i x d y d'
  cases h
  have e:@ite Prop p (Classical.propDecidable p) x y=y:=if_neg hp
  congr 1
  exact Subsingleton.helim (by rw[e]) _ _
 ·cases h
theorem mrg1_pos {p:Prop} (hp:p) {a b:V}:mrg1 p a b=a:=by
 unfold mrg1
 split
 ·rename_i c hc;exact pickD_pos hp hc
 ·simp[hp]
theorem mrg1_neg {p:Prop} (hp:¬p) {a b:V}:mrg1 p a b=b:=by
 unfold mrg1
 split
 ·rename_i c hc;exact pickD_neg hp hc
 ·simp[hp]
theorem pickD_den {I:Nat→Prop} {η:Eta} {w:World} {p:Prop} {a b c:V} {v:Value} (h:pickD p a b=some c) (h1:p→Den I η w a v) (h2:¬p→Den I η w b v):Den I η w c v:=by
 by_cases hp:p
 ·rw[pickD_pos hp h];exact h1 hp
 ·rw[pickD_neg hp h];exact h2 hp
theorem pickDL_den {I:Nat→Prop} {η:Eta} {w:World} {p:Prop}:∀{a b c:List V} {vs:List Value},pickDL p a b=some c→(p→DenL I η w a vs)→(¬p→DenL I η w b vs)→DenL I η w c vs
 |[],[],c,vs,h,h1,h2=>by
  simp[pickDL] at h
  subst h
  by_cases hp:p
  ·exact h1 hp
  ·exact h2 hp
 |x :: a,y :: b,c,vs,h,h1,h2=>by
  simp only[pickDL] at h
  split at h
  ·rename_i c0 r hc hr
   cases h
   have hvs:∃v rest,vs=v :: rest:=by
    by_cases hp:p
    ·obtain⟨v,rest,e,_⟩:=h1 hp;exact⟨v,rest,e⟩
    ·obtain⟨v,rest,e,_⟩:=h2 hp;exact⟨v,rest,e⟩
   obtain⟨v,rest,rfl⟩:=hvs
   refine⟨v,rest,rfl,pickD_den hc (fun hp=>?_) (fun hp=>?_),pickDL_den hr (fun hp=>?_) (fun hp=>?_)⟩
   ·obtain⟨_,_,e,e1,_⟩:=h1 hp;cases e;exact e1
   ·obtain⟨_,_,e,e1,_⟩:=h2 hp;cases e;exact e1
   ·obtain⟨_,_,e,_,e1⟩:=h1 hp;cases e;exact e1
   ·obtain⟨_,_,e,_,e1⟩:=h2 hp;cases e;exact e1
  ·cases h
 |[],_ :: _,_,_,h,_,_=>by simp[pickDL] at h
 |_ :: _,[],_,_,h,_,_=>by simp[pickDL] at h
theorem encV_den {I:Nat→Prop} {η:Eta} {w:World} {va:Bool} {cs:List V} {vs:List Value} (h1:∀u∈vs,u.oneCell'=true) (hl:va=false→vs.length=1) (hd:DenL I η w cs vs):Den I η w (encVV va cs) (encV va vs):=by
 cases va with
 |true=>exact⟨vs,rfl,h1,hd⟩
 |false=>
  obtain⟨v,rfl⟩:=a1K.1 (hl rfl)
  cases cs with
  |nil=>cases hd
  |cons c cs=>
   obtain⟨v',rest,e,e1,_⟩:=hd
   cases e
   exact e1
theorem zero_enc {z:Value} {ag:Bool} (h:ag=isAggV z):z=encV ag z.cells.toList∧(ag=false→z.cells.toList.length=1):=by
 subst h
 cases z<;>simp[isAggV,encV,Value.cells]
theorem lookupV_sound (hE:a1b E P) {I:Nat→Prop} {η:Eta} {w:World} {H:List O} (hS:Objs I η w H) (t:TypeId) {m x:V} {mv xv:Value} (hm:Den I η w m mv) (hx:Den I η w x xv) (c:Bool):(lookupV E H t m x c).sound P I η w (Instr.lookup t mv xv c):=by
 unfold lookupV
 split
 ·rename_i ks ka va et ks' ka' va' dom val n hT hM
  split
  ·rename_i z k hz hk hq
   split
   ·rename_i cs hcs
    simp only[a0D] at hq
    obtain rfl:=ksEq_spec hq.1.1
    obtain rfl:=a2w hq.1.2
    obtain rfl:=a2w hq.2
    obtain⟨kt,hu,K,hva,hkn⟩:=mapT_spec hE hT
    obtain⟨b,es,g,rfl,hb,hrel⟩:=mapOf_spec hS hm hM
    obtain⟨rfl,hkl⟩:=keyV_den hk hx
    obtain⟨i,d,hi,_,_,_,_,hze,_⟩:=hE.info hkn
    rw[hze] at hz
    obtain⟨zv,hzv,rfl,hz1,_,hag⟩:=zeroOf_agg hz
    have hzr:(zeroValue et).run P w=.ok zv w:=by simp[zeroValue,typeInfo,hi,hzv]
    obtain⟨v,hrun,hyes,hno⟩:=look_run hrel K hu hb hzr hkl c
    obtain⟨hze1,hze2⟩:=zero_enc hag
    have key:∃vs,v=encV va vs∧DenL I η w cs vs∧(∀u∈vs,u.oneCell'=true)∧(va=false→vs.length=1):=by
     by_cases hd:dom k
     ·obtain⟨vs,e1,e2,e3,e4⟩:=hyes hd
      exact⟨vs,e1,pickDL_den hcs (fun _=>DenL.mono (Mono.ofNil I η w) _ _ e2) (fun hn=>(hn hd).elim),e3,e4⟩
     ·refine⟨zv.cells.toList,?_,pickDL_den hcs (fun hp=>(hd hp).elim) (fun _=>a2c I η w _),hz1,?_⟩
      ·rw[hno hd,hva];exact hze1
      ·rw[hva];exact hze2
    obtain⟨vs,rfl,e2,e3,e4⟩:=key
    cases c with
    |true=>exact⟨_,hrun,_,rfl,_,_,rfl,encV_den e3 e4 e2,_,_,rfl,rfl,rfl⟩
    |false=>exact⟨_,hrun,encV_den e3 e4 e2⟩
   ·trivial
  ·trivial
 ·trivial
theorem keyCells_den (I:Nat→Prop) (η:Eta) (w:World):∀(ks:List IntKind) (k:List Int),DenL I η w (keyCells ks k) (a0o ks k)
 |[],k=>by simp[keyCells,a0o,DenL]
 |_ :: _,[]=>by simp[keyCells,a0o,DenL]
 |q :: ks,a :: k=>⟨_,_,rfl,rfl,keyCells_den I η w ks k⟩
theorem keyVals_one:∀(ks:List IntKind) (k:List Int),∀u∈a0o ks k,u.oneCell'=true
 |[],k,u,h=>by simp[a0o] at h
 |_ :: _,[],u,h=>by simp[a0o] at h
 |q :: ks,a :: k,u,h=>by
  simp only[a0o,a0Z] at h
  rcases h with rfl|h
  ·rfl
  ·exact keyVals_one ks k u h
theorem encK_den (I:Nat→Prop) (η:Eta) (w:World) {ks:List IntKind} {ka:Bool} {k:List Int} (hf:ka=false→ks.length=1) (hk:k.length=ks.length):Den I η w (encKV ks ka k) (encK ks ka k):=
 encV_den (va:=ka) (keyVals_one ks k) (fun h=>by rw[a0y hk,hf h]) (keyCells_den I η w ks k)
theorem entryV_sound {I:Nat→Prop} {η:Eta} {w:World} {H:List O} (hS:Objs I η w H) {x:V} {xv:Value} (hx:Den I η w x xv):(entryV H x).sound P I η w (Instr.entry xv):=by
 unfold entryV
 split
 ·rename_i id
  split
  ·rename_i mid g dom0 done hgt
   split
   ·rename_i ks ka va dom val n g' k rest hgm
    rintro⟨rfl,hd,hk⟩
    obtain⟨b,c,hη,rfl⟩:=hx
    obtain⟨b',c',mb,c2,he,hm,hr,_⟩:=hS _ _ _ hη (a0j hgt trivial)
    cases he
    obtain⟨b2,c3,he2,es,h1,h2⟩:=hS _ _ _ hm (a0j hgm trivial)
    cases he2
    rw[List.reverse_cons] at hr
    obtain⟨vs,e1,e2,e3,e4⟩:=entry_run (P:=P) h2 h1 hr hk hd
    exact⟨_,e1,_,rfl,_,_,rfl,encK_den I η w h2.flat hk,_,_,rfl,encV_den e3 e4 (DenL.mono (Mono.ofNil I η w) _ _ e2),rfl⟩
   ·trivial
  ·trivial
 ·trivial
end Go.Sx
