/- Own work: texts of the proof of a law (SzOps4, SzHeap, SzStep). No condition. -/
import Derived.Laws.Cover3
import Derived.Test.YtkgjhinmndcmjaaGreatPart5
import Derived.Test.YtkgjhinmndcmjaaGreatPart0
namespace Go.Sx
open Go
variable {P:Program} {E:Env}
theorem a1h {t e:TypeId} (hu:P.underlying t=some (.slice e)) (w:World) (a:Option Addr) (n c:Nat) (ty:TypeId):(Builtin.len_ #[t] ty #[.slice a n c]).run P w=.ok (.int .i64 n) w:=by
 simp[Builtin.len_,run_underlying hu,goInt]
theorem lenV_sound (hE:a1b E P) {I:Nat→Prop} {η:Eta} {w:World} (t ty:TypeId) {a:V} {x:Value} (ha:Den I η w a x):(lenV E t a).sound P I η w (Builtin.len_ #[t] ty #[x]):=by
 unfold lenV
 split
 ·rename_i e sz n f he
  obtain⟨hu,_⟩:=a0q hE he
  rcases ha with⟨rfl,_,_,rfl⟩|⟨b,o,cap,rfl,_,_⟩
  ·exact⟨_,a1h hu w _ _ _ _,rfl⟩
  ·exact⟨_,a1h hu w _ _ _ _,rfl⟩
 ·rename_i e id n he
  obtain⟨hu,_⟩:=a0q hE he
  obtain⟨⟨bb,c⟩,hη,hz,rfl⟩:=ha
  cases bb with
  |none=>obtain rfl:=(hz rfl).1;exact⟨_,a1h hu w _ _ _ _,rfl⟩
  |some b=>exact⟨_,a1h hu w _ _ _ _,rfl⟩
 ·rename_i e id sz off n he
  obtain⟨hu,_⟩:=a0q hE he
  rcases ha.2 with⟨rfl,_,_,rfl⟩|⟨b,c,cap,_,_,rfl⟩
  ·exact⟨_,a1h hu w _ _ _ _,rfl⟩
  ·exact⟨_,a1h hu w _ _ _ _,rfl⟩
 ·rename_i e he
  obtain⟨hu,_⟩:=a0q hE he
  obtain⟨ad,rfl⟩:=ha
  exact⟨_,a1h hu w _ _ _ _,rfl⟩
 ·rename_i e id off sz n cp he
  obtain⟨hu,_⟩:=a0q hE he
  obtain⟨b,c,_,_,rfl⟩:=ha
  exact⟨_,a1h hu w _ _ _ _,rfl⟩
 ·rename_i e id i n eb he
  obtain⟨hu,_⟩:=a0q hE he
  obtain⟨_,hz,rfl⟩:=ha
  obtain⟨bb,c⟩:=eb
  cases bb with
  |none=>obtain rfl:=(hz rfl).1;exact⟨_,a1h hu w _ _ _ _,rfl⟩
  |some b=>exact⟨_,a1h hu w _ _ _ _,rfl⟩
 ·trivial
theorem lenM_sound (hE:a1b E P) {I:Nat→Prop} {η:Eta} {w:World} {H:List O} (hS:Objs I η w H) (t ty:TypeId) {a:V} {x:Value} (ha:Den I η w a x):(lenM E H t a).sound P I η w (Builtin.len_ #[t] ty #[x]):=by
 unfold lenM
 split
 ·rename_i et ks' ka' va' dom val n hT hM
  obtain⟨ks,ka,va,et⟩:=et
  obtain⟨kt,hu,_⟩:=mapT_spec hE hT
  obtain⟨b,es,g,rfl,hb,hrel⟩:=mapOf_spec hS ha hM
  refine⟨.int .i64 n,?_,rfl⟩
  have hsz:es.size=n:=by rw[←hrel.size];simp
  have hgo:(getObj b).run P w=.ok (.map es g.clock) w:=by simp[getObj,Sem.run,hb]
  simp[Builtin.len_,run_underlying hu,goInt,hgo,hsz]
 ·trivial
theorem PR.sound.orElse {I:Nat→Prop} {η:Eta} {w:World} {s:Sem Value} {r q:PR} (h:r.sound P I η w s) (k:q.sound P I η w s):(r.orElse' q).sound P I η w s:=by
 cases r with
 |bad=>exact k
 |ok v=>exact h
 |need c v=>exact h
theorem a3h {I:Nat→Prop} {η:Eta} {w:World} {T:List V} {a:Act} (hT:SatT I η w T a.tmps) {lo:Option Operand} (ht:∀y,lo=some y→a2m T y) {d l:Int} (h:boundV T d lo=some l) :
  (lo.map a.eval=none∧l=d)∨∃k,lo.map a.eval=some (.int k l):=by
 cases lo with
 |none=>cases h;exact .inl ⟨rfl,rfl⟩
 |some y=>
  right
  simp only[boundV] at h
  split at h
  ·rename_i k i hv
   cases h
   have:=a0l hT (ht y rfl)
   rw[hv] at this
   exact⟨k,congrArg some this⟩
  ·cases h
theorem sliceBounds_run {w:World} {n cap:Nat} {lo hi:Option Value} {l h:Int} (hlo:(lo=none∧l=0)∨∃k,lo=some (.int k l)) (hhi:(hi=none∧h=n)∨∃k,hi=some (.int k h)) (h0:0≤l) (h1:l≤h) (h2:h≤cap) :
  (Instr.sliceBounds true n cap lo hi none).run P w=.ok (l.toNat,h.toNat,cap) w:=by
 have hb:∀(k:IntKind) (i:Int) (y:Nat) (c:BoundsCode),0≤i→i≤y→(Instr.sliceBound (.int k i) y c).run P w=.ok i.toNat w:=by
  intro k i y c g1 g2
  simp[Instr.sliceBound,asIntOf,g1,g2]
 have hh:h≤((h.toNat:Nat):Int):=by omega
 rcases hlo with⟨rfl,rfl⟩|⟨k,rfl⟩<;>rcases hhi with⟨rfl,rfl⟩|⟨k',rfl⟩
 ·simp[Instr.sliceBounds]
 ·simp[Instr.sliceBounds,hb k' h cap _ (by omega) h2]
 ·simp[Instr.sliceBounds,hb k l n _ h0 h1]
 ·simp[Instr.sliceBounds,hb k' h cap _ (by omega) h2,hb k l h.toNat _ h0 (by omega)]
theorem slice_run {w:World} {t e:TypeId} (hu:P.underlying t=some (.slice e)) {i:TypeInfo} (hi':P.info? e=some i) {ad:Option Addr} {n cap:Nat} {lo hi:Option Value} {l h:Int} (hlo:(lo=none∧l=0)∨∃k,lo=some (.int k l)) (hhi:(hi=none∧h=n)∨∃k,hi=some (.int k h)) (h0:0≤l) (h1:l≤h) (h2:h≤cap) :
  (Instr.sliceAt t (.slice ad n cap) lo hi none).run P w=.ok (.slice (if cap=l.toNat then ad else ad.map (·.add (l.toNat*i.size))) (h.toNat-l.toNat) (cap-l.toNat)) w:=by
 simp[Instr.sliceAt,run_underlying hu,Instr.slice,sliceBounds_run hlo hhi h0 h1 h2,sizeOf,typeInfo,hi']
theorem sliceV_sound (hE:a1b E P) {I:Nat→Prop} {η:Eta} {w:World} {T:List V} {H:List O} {a:Act} (hS:Objs I η w H) (hT:SatT I η w T a.tmps) (t:TypeId) {x:V} {v:Value} (hx:Den I η w x v) {lo hi:Option Operand} (hl:∀y,lo=some y→a2m T y) (hh:∀y,hi=some y→a2m T y) :
  (sliceV E H t x (boundV T 0 lo) (fun n=>boundV T n hi)).sound P I η w (Instr.sliceAt t v (lo.map a.eval) (hi.map a.eval) none):=by
 unfold sliceV
 split
 ·rename_i e l he hlo
  obtain⟨hu,i,hinfo,hs,_,_,_⟩:=a0q hE he
  have hlo:=a3h hT hl hlo
  split
  ·rename_i id n
   split
   ·rename_i ty sz n' f nz h hgt hhi
    have hhi:=a3h hT hh hhi
    simp only[cond_eq_ite]
    split
    ·rename_i hsz
     obtain rfl:=a0f hsz
     refine PR.sound_need fun hc=>?_
     obtain⟨rfl,c1,c2,c3⟩:=hc
     obtain⟨⟨bb,cap⟩,hη,hz,rfl⟩:=hx
     obtain⟨xs,hown,_,_,_⟩:=hS id _ _ hη (a0j hgt trivial)
     cases bb with
     |none=>
      obtain⟨rfl,rfl⟩:=hz rfl
      have e1:l=0:=by omega
      have e2:h=0:=by omega
      subst e1 e2
      refine⟨_,slice_run hu hinfo (cap:=0) hlo hhi (by omega) (by omega) (by omega),⟨fun _=>⟨_,hη,fun _=>⟨rfl,rfl⟩,by simp[slVal]⟩,.inl ⟨by simp,none,0,by simp⟩⟩⟩
     |some b=>
      have hncap:n≤cap:=by
       rcases hown.2 with⟨g,_⟩|⟨g,cap',cur,e1,_,_,e4,_⟩
       ·simp[slVal] at g
       ·simp[slVal] at e1;rw[e1.2];exact e4
      refine⟨_,slice_run hu hinfo hlo hhi c1 c2 (by omega),⟨fun hl0=>⟨_,hη,fun hb=>(by cases hb),?_⟩,?_⟩⟩
      ·rw[hl0,show h.toNat-0=(h-l).toNat by omega]
       simp[slVal,Addr.add_none]
      by_cases h0:h-l=0
      ·refine .inl ⟨by omega,_,_,by rw[show h.toNat-l.toNat=0 by omega]⟩
      ·refine .inr ⟨b,cap,cap-l.toNat,hη,by omega,?_⟩
       rw[if_neg (by omega),hs,show h.toNat-l.toNat=(h-l).toNat by omega]
       simp[Addr.add_none]
    ·trivial
   ·trivial
  ·rename_i id sz off n
   split
   ·rename_i h hhi
    have hhi:=a3h hT hh hhi
    simp only[cond_eq_ite]
    split
    ·rename_i hsz
     obtain rfl:=a0f hsz
     refine PR.sound_need fun hc=>?_
     obtain⟨c1,c2,c3⟩:=hc
     have hexact:∀(ad:Option Addr) (cap:Nat),v=.slice ad n cap→off+l.toNat=0→∃e,η[id]? = some e∧(e.1=none→(h-l).toNat=0∧e.2=0)∧Value.slice (if cap=l.toNat then ad else ad.map (·.add (l.toNat*i.size))) (h.toNat-l.toNat) (cap-l.toNat)=slVal e (h-l).toNat:=by
      intro ad cap hv h0
      obtain⟨⟨bb,c⟩,g1,g2,g3⟩:=hx.1 (by omega)
      refine⟨_,g1,fun hb=>?_,?_⟩
      ·have:=g2 hb
       exact⟨by omega,this.2⟩
      ·rw[g3] at hv
       cases bb with
       |none=>
        obtain⟨hn0,hc0⟩:=g2 rfl
        simp only[slVal,Value.slice.injEq] at hv
        obtain⟨rfl,_,rfl⟩:=hv
        have e1:l.toNat=0:=by omega
        have e2:h.toNat=0:=by omega
        simp[slVal,e1,e2]
       |some b=>
        simp only[slVal,Value.slice.injEq] at hv
        obtain⟨rfl,_,rfl⟩:=hv
        have e1:l.toNat=0:=by omega
        have e2:(h-l).toNat=h.toNat:=by omega
        simp[slVal,e1,e2,Addr.add_none]
     rcases hx.2 with⟨rfl,ad,cap,rfl⟩|⟨b,c,cap,hη,hncap,rfl⟩
     ·have e1:l=0:=by omega
      have e2:h=0:=by omega
      subst e1 e2
      refine⟨_,slice_run hu hinfo hlo hhi (by omega) (by omega) (by omega),⟨hexact ad cap rfl,.inl ⟨by simp,_,_,rfl⟩⟩⟩
     ·refine⟨_,slice_run hu hinfo hlo hhi c1 c2 (by omega),⟨hexact _ cap rfl,?_⟩⟩
      by_cases h0:h-l=0
      ·refine .inl ⟨by omega,_,_,by rw[show h.toNat-l.toNat=0 by omega]⟩
      ·refine .inr ⟨b,c,cap-l.toNat,hη,by omega,?_⟩
       rw[if_neg (by omega),hs,show h.toNat-l.toNat=(h-l).toNat by omega]
       simp[Addr.add_none,a0W]
    ·trivial
   ·trivial
  ·rename_i sz n f
   split
   ·rename_i h hhi
    have hhi:=a3h hT hh hhi
    simp only[cond_eq_ite]
    split
    ·rename_i hsz
     obtain rfl:=a0f hsz
     refine PR.sound_need fun hc=>?_
     obtain⟨c1,c2,c3⟩:=hc
     rcases hx with⟨rfl,ad,cap,rfl⟩|⟨b,o,cap,rfl,hI,hncap,hrow⟩
     ·have e1:l=0:=by omega
      have e2:h=0:=by omega
      subst e1 e2
      refine⟨_,slice_run hu hinfo hlo hhi (by omega) (by omega) (by omega),.inl ⟨by simp,_,_,rfl⟩⟩
     ·refine⟨_,slice_run hu hinfo hlo hhi c1 c2 (by omega),?_⟩
      by_cases h0:h-l=0
      ·refine .inl ⟨by omega,_,_,by rw[show h.toNat-l.toNat=0 by omega]⟩
      ·refine .inr ⟨b,o+l.toNat*(E.ti e).size,cap-l.toNat,?_,hI,by omega,fun i hi=>?_⟩
       ·rw[if_neg (by omega),hs,show h.toNat-l.toNat=(h-l).toNat by omega]
        simp[Addr.add_none]
       ·obtain⟨vs,g1,g2,g3,g4⟩:=hrow (l.toNat+i) (by omega)
        refine⟨vs,g1,fun j u hj=>?_,g3,g4⟩
        rw[←g2 j u hj]
        congr 2
        rw[a0W]
        omega
    ·trivial
   ·trivial
  ·split
   ·rename_i h hhi
    have hhi:=a3h hT hh hhi
    refine PR.sound_need fun hc=>?_
    obtain⟨rfl,rfl⟩:=hc
    have hx:v=.slice none 0 0:=hx
    subst hx
    refine⟨_,slice_run hu hinfo hlo hhi (by omega) (by omega) (by omega),?_⟩
    simp[Den]
   ·trivial
  ·trivial
 ·trivial
theorem sliceA_sound (hE:a1b E P) {I:Nat→Prop} {η:Eta} {w:World} {T:List V} {a:Act} (hT:SatT I η w T a.tmps) (t:TypeId) {n:Nat} {e:TypeId} (hta:arrOf E t=some (n,e)) {x:V} {v:Value} (hx:Den I η w x v) {lo hi:Option Operand} (hl:∀y,lo=some y→a2m T y) (hh:∀y,hi=some y→a2m T y) :
  (sliceA E n e x (boundV T 0 lo) (boundV T n hi)).sound P I η w (Instr.sliceAt t v (lo.map a.eval) (hi.map a.eval) none):=by
 obtain⟨hu,i,hinfo,hs⟩:=arrOf_spec hE hta
 unfold sliceA
 split
 ·rename_i id off l h hlo hhi
  have hlo:=a3h hT hl hlo
  have hhi:=a3h hT hh hhi
  refine PR.sound_need fun hc=>?_
  obtain⟨rfl,c1,c2,c3⟩:=hc
  obtain⟨b,c,hη,rfl⟩:=hx
  have hb:∀(k:IntKind) (i:Int) (y:Nat) (c:BoundsCode),0≤i→i≤y→(Instr.sliceBound (.int k i) y c).run P w=.ok i.toNat w:=by
   intro k i y c g1 g2
   simp[Instr.sliceBound,asIntOf,g1,g2]
  have hbounds:(Instr.sliceBounds false n n (lo.map a.eval) (hi.map a.eval) none).run P w=.ok (0,h.toNat,n) w:=by
   have hh2:(0:Int)≤((h.toNat:Nat):Int):=by omega
   rcases hlo with⟨h1,_⟩|⟨k,h1⟩<;>rcases hhi with⟨h2,rfl⟩|⟨k',h2⟩<;>rw[h1,h2]
   ·simp[Instr.sliceBounds]
   ·simp[Instr.sliceBounds,hb k' h n _ c1 c2]
   ·simp[Instr.sliceBounds,hb k 0 n _ (a1Q _) (by omega)]
   ·simp[Instr.sliceBounds,hb k' h n _ c1 c2,hb k 0 h.toNat _ (a1Q _) hh2]
  refine⟨.slice (some ⟨b,off,none⟩) h.toNat n,?_,b,c,hη,by omega,rfl⟩
  have hn0:¬n=0:=by omega
  simp[Instr.sliceAt,run_underlying hu,Instr.sureAddr,hbounds,sizeOf,typeInfo,hinfo,hn0,Addr.add_none]
 ·trivial
theorem isSl_den {I:Nat→Prop} {η:Eta} {w:World} {x:V} {v:Value} (h:x.isSl=true) (hd:Den I η w x v):∃ad n cap,v=.slice ad n cap:=by
 unfold V.isSl at h
 split at h
 ·obtain⟨⟨bb,c⟩,_,_,rfl⟩:=hd
  cases bb<;>exact⟨_,_,_,rfl⟩
 ·rcases hd.2 with⟨_,_,_,rfl⟩|⟨_,_,_,_,_,rfl⟩<;>exact⟨_,_,_,rfl⟩
 ·rcases hd with⟨_,_,_,rfl⟩|⟨_,_,_,rfl,_⟩<;>exact⟨_,_,_,rfl⟩
 ·obtain⟨_,rfl⟩:=hd;exact⟨_,_,_,rfl⟩
 ·obtain⟨_,_,_,_,rfl⟩:=hd;exact⟨_,_,_,rfl⟩
 ·rename_i _ _ _ e
  obtain⟨_,_,rfl⟩:=hd
  obtain⟨bb,c⟩:=e
  cases bb<;>exact⟨_,_,_,rfl⟩
 ·exact⟨_,_,_,hd⟩
 ·cases h
theorem slice3_sound (hE:a1b E P) {I:Nat→Prop} {η:Eta} {w:World} {T:List V} {a:Act} (hT:SatT I η w T a.tmps) (t:TypeId) {x hi mx:V} {v:Value} {yh ym:Value} (hx:Den I η w x v) {lo:Option Operand} (hl:∀y,lo=some y→a2m T y) (hh:Den I η w hi yh) (hm:Den I η w mx ym) :
  (slice3 E t x (boundV T 0 lo) hi mx).sound P I η w (Instr.sliceAt t v (lo.map a.eval) (some yh) (some ym)):=by
 unfold slice3
 split
 ·rename_i e l kh h km m he hlo
  obtain⟨hu,i,hinfo,hs,_,_,_⟩:=a0q hE he
  have hlo:=a3h hT hl hlo
  simp only[cond_eq_ite]
  split
  ·rename_i hsl
   obtain⟨ad,n,cap,rfl⟩:=isSl_den hsl hx
   refine PR.sound_need fun hc=>?_
   obtain⟨rfl,rfl,rfl⟩:=hc
   have hh:yh=.int kh 0:=hh
   have hm:ym=.int km 0:=hm
   subst hh hm
   have hb:∀(k:IntKind) (y:Nat) (c:BoundsCode),(Instr.sliceBound (.int k 0) y c).run P w=.ok 0 w:=by
    intro k y c
    simp[Instr.sliceBound,asIntOf]
   refine⟨.slice ad 0 0,?_,ad,rfl⟩
   rcases hlo with⟨h1,_⟩|⟨k,h1⟩<;>rw[h1]<;>simp[Instr.sliceAt,run_underlying hu,Instr.slice,Instr.sliceBounds,hb,sizeOf,typeInfo,hinfo]
  ·trivial
 ·trivial
theorem slice3W_sound (hE:a1b E P) {I:Nat→Prop} {η:Eta} {w:World} {T:List V} {H:List O} {a:Act} (hS:Objs I η w H) (hT:SatT I η w T a.tmps) (t:TypeId) {id n:Nat} {hi mx:V} {v:Value} {yh ym:Value} (hx:Den I η w (.osl id n) v) {lo:Option Operand} (hl:∀y,lo=some y→a2m T y) (hh:Den I η w hi yh) (hm:Den I η w mx ym) :
  (slice3W E H t id n (boundV T 0 lo) hi mx).sound P I η w (Instr.sliceAt t v (lo.map a.eval) (some yh) (some ym)):=by
 unfold slice3W
 split
 ·rename_i e ty sz n' f nz l kh h km m he hgt hlo
  obtain⟨hu,i,hinfo,hs,_,_,_⟩:=a0q hE he
  have hlo:=a3h hT hl hlo
  simp only[cond_eq_ite]
  split
  ·rename_i hsz
   obtain rfl:=a0f hsz
   refine PR.sound_need fun hc=>?_
   obtain⟨rfl,rfl,rfl,rfl⟩:=hc
   obtain⟨⟨bb,cap⟩,hη,hz,rfl⟩:=hx
   obtain⟨xs,hown,_,_,_⟩:=hS id _ _ hη (a0j hgt trivial)
   have hh:yh=.int kh n:=hh
   have hm:ym=.int km n:=hm
   subst hh hm
   have hb:∀(k:IntKind) (i:Int) (y:Nat) (c:BoundsCode),0≤i→i≤y→(Instr.sliceBound (.int k i) y c).run P w=.ok i.toNat w:=by
    intro k i y c g1 g2
    simp[Instr.sliceBound,asIntOf,g1,g2]
   cases bb with
   |none=>
    obtain⟨rfl,rfl⟩:=hz rfl
    refine⟨.slice none 0 0,?_,(none,0),⟨hη,by simp⟩,fun _=>rfl,rfl⟩
    rcases hlo with⟨h1,_⟩|⟨k,h1⟩<;>rw[h1]<;>simp[Instr.sliceAt,run_underlying hu,Instr.slice,Instr.sliceBounds,hb,sizeOf,typeInfo,hinfo,slVal]
   |some b=>
    have hncap:n≤cap:=by
     rcases hown.2 with⟨g,_⟩|⟨g,cap',cur,e1,_,_,e4,_⟩
     ·simp[slVal] at g
     ·simp[slVal] at e1;rw[e1.2];exact e4
    refine⟨.slice (some ⟨b,0,none⟩) n n,?_,(some b,cap),⟨hη,by simp⟩,(fun h=>by cases h),rfl⟩
    have hb2:=hb km n cap .slice3Acap (by omega) (by omega)
    rcases hlo with⟨h1,_⟩|⟨k,h1⟩<;>rw[h1]<;>simp[Instr.sliceAt,run_underlying hu,Instr.slice,Instr.sliceBounds,hb,hb2,sizeOf,typeInfo,hinfo,slVal,Addr.add_none]
  ·trivial
 ·trivial
theorem convertV_sound (hE:a1b E P) {I:Nat→Prop} {η:Eta} {w:World} (s d:TypeId) {a:V} {x:Value} (ha:Den I η w a x):(convertV E s d a).sound P I η w (convert s d x):=by
 unfold convertV
 split
 ·rename_i k k' n hks hkd hkind
  obtain⟨i,dd,hi,hu,_,_,hkind',_,_⟩:=hE.info hkd
  obtain⟨i',ds,hi',hus,_⟩:=hE.info hks
  rw[hkind'] at hkind
  have:dd=.int k:=by cases dd<;>simp[a1o] at hkind<;>rw[hkind]
  subst this
  refine PR.sound_need fun hc=>?_
  have hx:x=.int k' n:=ha
  subst hx
  refine⟨.int k n,?_,rfl⟩
  simp[convert,run_underlying hus,run_underlying hu,Conv.intToInt,wrap_in k _ hc]
 ·trivial
theorem indexV_sound (hE:a1b E P) {I:Nat→Prop} {η:Eta} {w:World} (t:TypeId) {a ix:V} {x y:Value} (ha:Den I η w a x) (hi:Den I η w ix y):(indexV E t a ix).sound P I η w (Instr.index t x y):=by
 unfold indexV
 split
 ·rename_i s k i hk hkind
  obtain⟨inf,d,hinf,hu,_,_,hkind',_,_⟩:=hE.info hk
  rw[hkind'] at hkind
  have:d=.string:=by cases d<;>simp[a1o] at hkind<;>rfl
  subst this
  have hx:x=.string s:=ha
  have hy:y=.int k i:=hi
  subst hx hy
  refine PR.sound_need fun hc=>?_
  have hlt:i.toNat<s.size:=by omega
  have hg:s[i.toNat]? = some s[i.toNat]:=by simp[hlt]
  refine⟨.int .u8 (byteAt s i.toNat),?_,rfl⟩
  simp[Instr.index,asIntOf,run_underlying hu,hc.1,hg,byteAt]
 ·rename_i n e cs k i hk hkind
  split
  ·rename_i hke hagg
   obtain⟨inf,d,hinf,hu,_,_,hkind',_,_⟩:=hE.info hk
   rw[hkind'] at hkind
   have:d=.array n e:=by cases d<;>simp[a1o] at hkind;rw[hkind.1,hkind.2]
   subst this
   obtain⟨inf2,d2,hinf2,hu2,hs2,_,hkind2,_,_⟩:=hE.info hke
   have hag:=run_isAgg hu2 w
   rw[←agg_kind P d2 _ hkind2,hagg] at hag
   obtain⟨vs,rfl,h1,hd⟩:=ha
   have hy:y=.int k i:=hi
   subst hy
   refine PR.sound_need fun hc=>?_
   rw[take_eq,a2f]
   refine⟨.agg ((vs.drop (i.toNat*(E.ti e).size)).take (E.ti e).size).toArray,?_,_,rfl,fun u hu=>h1 u (a0Y (a0X hu)),(hd.drop _).take _⟩
   simp[Instr.index,asIntOf,run_underlying hu,hc,part,hag,sizeOf,typeInfo,hinf2,←hs2]
  split
  ·rename_i hke hagg _ _ c rest hsz hdr
   obtain⟨inf,d,hinf,hu,_,_,hkind',_,_⟩:=hE.info hk
   rw[hkind'] at hkind
   have:d=.array n e:=by cases d<;>simp[a1o] at hkind;rw[hkind.1,hkind.2]
   subst this
   obtain⟨inf2,d2,hinf2,hu2,hs2,_,hkind2,_,_⟩:=hE.info hke
   have hag:=run_isAgg hu2 w
   rw[←agg_kind P d2 _ hkind2,hagg] at hag
   have hsz:=a0f hsz
   obtain⟨vs,rfl,h1,hd⟩:=ha
   have hy:y=.int k i:=hi
   subst hy
   refine PR.sound_need fun hc=>?_
   have hd':=hd.drop i.toNat
   rw[a2f] at hdr
   rw[hdr] at hd'
   obtain⟨u,r,e1,hu1,_⟩:=hd'
   have hz':vs[i.toNat]? = some u:=by
    have:=congrArg (fun l=>l[0]?) e1
    simpa using this
   refine⟨u,?_,hu1⟩
   simp[Instr.index,asIntOf,run_underlying hu,hc,part,hag,sizeOf,typeInfo,hinf2,←hs2,hsz,hz']
  ·trivial
  trivial
 ·trivial
theorem one_den {I:Nat→Prop} {η:Eta} {w:World} {v:V} {x:Value} (h1:v.one=true) (hd:Den I η w v x):x.oneCell'=true:=by
 cases v<;>simp only[V.one,a2N] at h1
 case int=>rw[show x=_ from hd];rfl
 case prop=>rw[show x=_ from hd];rfl
 case kb=>rw[show x=_ from hd];rfl
 case ptr=>obtain⟨_,_,_,rfl⟩:=hd;rfl
 case eptr=>obtain⟨_,_,_,rfl⟩:=hd;rfl
 case iptr=>obtain⟨_,_,_,rfl,_⟩:=hd;rfl
 case sl=>rcases hd with⟨_,_,_,rfl⟩|⟨_,_,_,rfl,_⟩<;>rfl
 case osl=>obtain⟨⟨bb,c⟩,_,_,rfl⟩:=hd;cases bb<;>rfl
 case map=>obtain⟨_,_,_,rfl⟩:=hd;rfl
 case fn=>obtain⟨_,_,rfl,_⟩:=hd;rfl
 case sem=>exact hd.1
 case imap=>obtain⟨_,_,_,rfl,_⟩:=hd;rfl
 case lit=>rw[show x=_ from hd];exact h1
 case yld=>obtain⟨_,_,_,rfl⟩:=hd;rfl
 case win=>rcases hd.2 with⟨_,_,_,rfl⟩|⟨_,_,_,_,_,rfl⟩<;>rfl
 case gsl id i n e=>obtain⟨_,_,rfl⟩:=hd;obtain⟨_|b,c⟩:=e<;>rfl
 case gptr=>obtain⟨_,_,_,_,rfl⟩:=hd;rfl
 case x e=>cases e<;>first|(obtain⟨_,rfl⟩:=hd;rfl)|(obtain⟨_,_,_,_,rfl⟩:=hd;rfl)|(obtain⟨⟨bb,c⟩,_,_,rfl⟩:=hd;cases bb<;>rfl)|(rw[show v=_ from hd];rfl)|(rw[show x=_ from hd];rfl)
theorem a2g {I:Nat→Prop} {η:Eta} {w:World} {v:V} {x:Value} {cs:List V} (h:cells? v=some cs) (hd:Den I η w v x) :
  ∃vs:List Value,x.cells=vs.toArray∧(∀u∈vs,u.oneCell'=true)∧DenL I η w cs vs:=by
 unfold cells? at h
 split at h
 ·cases h
  obtain⟨vs,rfl,h1,h2⟩:=hd
  exact⟨vs,rfl,h1,normL_den h2⟩
 ·simp only[cond_eq_ite] at h
  split at h
  ·rename_i h1
   cases h
   have h2:=one_den h1 hd
   refine⟨[x],?_,by simpa using h2,x,[],rfl,norm_den hd,rfl⟩
   cases x<;>simp[Value.oneCell'] at h2<;>rfl
  ·cases h
theorem splice_eq {α:Type}:∀(xs l:List α) (i:Nat),i+xs.length≤l.length→splice l i xs=l.take i++xs++l.drop (i+xs.length)
 |[],l,i,_=>by simp[splice]
 |x :: xs,l,i,h=>by
  simp only[a2R] at h
  rw[splice,a0v,splice_eq xs _ (i+1) (by simp;omega)]
  have h1:(l.set i x).take (i+1)=l.take i++[x]:=by
   rw[a1D (by simp;omega)]
   simp[List.take_set_of_le]
  have h2:(l.set i x).drop (i+1+xs.length)=l.drop (i+(x :: xs).length):=by
   rw[List.drop_set_of_lt (by omega)]
   simp[Nat.add_comm,Nat.add_left_comm]
  rw[h1,h2]
  simp
theorem DenL.splice {I:Nat→Prop} {η:Eta} {w:World} {cs ds:List V} {vs us:List Value} (i:Nat) (h:DenL I η w cs vs) (k:DenL I η w ds us) (hl:i+ds.length≤cs.length) :
  DenL I η w (Sx.splice cs i ds) (vs.take i++us++vs.drop (i+us.length)):=by
 rw[splice_eq ds cs i hl,k.length]
 exact((h.take i).append k).append (h.drop _)
theorem foldl_set (vs:List Value):∀(off:Nat) (cs:List Value) (k:Nat),off+k+vs.length≤cs.length→
  ((vs.zipIdx k).foldl (fun(c:Array Value) (x:Value×Nat)=>c.setIfInBounds (off+x.2) x.1) cs.toArray)=(Sx.splice cs (off+k) vs).toArray:=by
 induction vs with
 |nil=>intro off cs k _;simp[Sx.splice]
 |cons v vs ih=>
  intro off cs k h
  simp only[a2R] at h
  simp only[List.zipIdx_cons,List.foldl_cons,List.setIfInBounds_toArray,Sx.splice,a0v]
  rw[ih off _ (k+1) (by simp;omega)]
  rfl
theorem fill_sound (hE:a1b E P) {I:Nat→Prop} {η:Eta} {w:World} {T:List V} {a:Act} (hT:SatT I η w T a.tmps) (s:TypeId) (fs:Array Field) (places:Array (Nat×Nat)) (hk:(E.ti s).known=true) (hu:P.underlying s=some (.struct fs))
  (hp:∀(j:Nat) (fd:Field),fs[j]? = some fd→places[j]? = some (fd.offset,P.cellsOf fd.type)):∀(parts:List (Nat×Operand)) (cs:List V) (vs:List Value) (cs':List V),
  (∀p∈parts,a2m T p.2)→DenL I η w cs vs→(∀u∈vs,u.oneCell'=true)→fillV E s T cs parts=some cs'→
  ∃vs':List Value,Instr.fill (places[·]?) vs.toArray (parts.map fun p=>(p.1,a.eval p.2))=some vs'.toArray∧DenL I η w cs' vs'∧(∀u∈vs',u.oneCell'=true)
 |[],cs,vs,cs',_,hd,h1,h=>by simp[fillV] at h;subst h;exact⟨vs,rfl,hd,h1⟩
 |(i,x) :: l,cs,vs,cs',ht,hd,h1,h=>by
  simp only[fillV] at h
  split at h
  ·rename_i o n t us hf hc
   simp only[cond_eq_ite,a0D] at h
   split at h
   ·rename_i hcond
    obtain⟨hn,hle⟩:=hcond
    rw[a1j] at hn hle
    have hn:=a0f hn
    have hle:=a0P hle
    have hx:=a0l hT (ht (i,x) (by simp))
    obtain⟨ws,hws,hw1,hwd⟩:=a2g hc hx
    obtain⟨fs',fd,hu',hfs,ho,hsz,_,_⟩:=fieldOf_spec hE hk hf
    rw[hu] at hu'
    cases hu'
    have hwl:=hwd.length
    have hvl:=hd.length
    have hsp:=DenL.splice (I:=I) (η:=η) (w:=w) o hd hwd (by omega)
    obtain⟨vs',g1,g2,g3⟩:=fill_sound hE hT s fs places hk hu hp l _ _ cs' (fun p hp=>ht p (by simp[hp])) hsp (by
     intro u hu
     simp only[a0U] at hu
     rcases hu with(hu|hu)|hu
     ·exact h1 u (a0X hu)
     ·exact hw1 u hu
     ·exact h1 u (a0Y hu)) h
    refine⟨vs',?_,g2,g3⟩
    simp only[a3Y,Instr.fill,hp i fd hfs]
    rw[hws]
    have hsz':ws.toArray.size=P.cellsOf fd.type:=by simp;omega
    have hbd:¬(fd.offset+ws.length > vs.length):=by omega
    simp only[a2B] at hsz' ⊢
    rw[if_neg (by simp[hsz'];omega)]
    have:=foldl_set ws fd.offset vs 0 (by omega)
    simp only[a2O] at this
    have e2:(Array.foldl (fun cs (x:Value×Nat)=>cs.setIfInBounds (fd.offset+x.2) x.1) vs.toArray ws.toArray.zipIdx)=(Sx.splice vs fd.offset ws).toArray:=by
     rw[←this]
     simp
    rw[e2,splice_eq ws vs fd.offset (by omega),ho]
    exact g1
   ·cases h
  ·cases h
theorem fillA_sound {I:Nat→Prop} {η:Eta} {w:World} {T:List V} {a:Act} (hT:SatT I η w T a.tmps) (sz:Nat):∀(parts:List (Nat×Operand)) (cs:List V) (vs:List Value) (cs':List V),
  (∀p∈parts,a2m T p.2)→DenL I η w cs vs→(∀u∈vs,u.oneCell'=true)→fillA sz T cs parts=some cs'→
  ∃vs':List Value,Instr.fill (fun i=>some (i*sz,sz)) vs.toArray (parts.map fun p=>(p.1,a.eval p.2))=some vs'.toArray∧DenL I η w cs' vs'∧(∀u∈vs',u.oneCell'=true)
 |[],cs,vs,cs',_,hd,h1,h=>by simp[fillA] at h;subst h;exact⟨vs,rfl,hd,h1⟩
 |(i,x) :: l,cs,vs,cs',ht,hd,h1,h=>by
  simp only[fillA] at h
  split at h
  ·rename_i us hc
   simp only[cond_eq_ite,a0D] at h
   split at h
   ·rename_i hcond
    obtain⟨hn,hle⟩:=hcond
    rw[a1j] at hn hle
    have hn:=a0f hn
    have hle:=a0P hle
    have hx:=a0l hT (ht (i,x) (by simp))
    obtain⟨ws,hws,hw1,hwd⟩:=a2g hc hx
    have hwl:=hwd.length
    have hvl:=hd.length
    have hsp:=DenL.splice (I:=I) (η:=η) (w:=w) (i*sz) hd hwd (by omega)
    obtain⟨vs',g1,g2,g3⟩:=fillA_sound hT sz l _ _ cs' (fun p hp=>ht p (by simp[hp])) hsp (by
     intro u hu
     simp only[a0U] at hu
     rcases hu with(hu|hu)|hu
     ·exact h1 u (a0X hu)
     ·exact hw1 u hu
     ·exact h1 u (a0Y hu)) h
    refine⟨vs',?_,g2,g3⟩
    simp only[a3Y,Instr.fill]
    rw[hws]
    have hbd:¬(i*sz+ws.length > vs.length):=by omega
    simp only[a2B]
    rw[if_neg (by simp;omega)]
    have:=foldl_set ws (i*sz) vs 0 (by omega)
    simp only[a2O] at this
    have e2:(Array.foldl (fun cs (x:Value×Nat)=>cs.setIfInBounds (i*sz+x.2) x.1) vs.toArray ws.toArray.zipIdx)=(Sx.splice vs (i*sz) ws).toArray:=by
     rw[←this]
     simp
    rw[e2,splice_eq ws vs (i*sz) (by omega)]
    exact g1
   ·cases h
  ·cases h
theorem build_places {fs:Array Field} (w:World) (h:∀fd∈fs,∃i,P.info? fd.type=some i):(fs.mapM (m:=Sem) fun f=>do pure (f.offset,←sizeOf f.type)).run P w=.ok (fs.map fun f=>(f.offset,P.cellsOf f.type)) w:=by
 obtain⟨l⟩:=fs
 simp only[List.mapM_toArray,List.map_toArray]
 have:∀(l:List Field),(∀fd∈l,∃i,P.info? fd.type=some i)→(l.mapM (m:=Sem) fun f=>do pure (f.offset,←sizeOf f.type)).run P w=.ok (l.map fun f=>(f.offset,P.cellsOf f.type)) w:=by
  intro l
  induction l with
  |nil=>intro _;simp
  |cons f l ih=>
   intro hl
   obtain⟨i,hi⟩:=hl f (by simp)
   have h1:(sizeOf f.type).run P w=.ok (P.cellsOf f.type) w:=run_sizeOf w hi
   simp only[List.mapM_cons,Sem.run_bind,h1,Result.andThen_ok,Sem.run_pure,ih (fun fd hfd=>hl fd (by simp[hfd])),a3Y]
 have h2:=this l (fun fd hfd=>h fd (by simpa using hfd))
 simp only[Sem.run_map,h2,Result.andThen_ok]
theorem allKnown_info (hE:a1b E P):∀(l:List Field),allKnown E (l.map fun f=>(f.offset,P.cellsOf f.type,f.type))=true→∀fd∈l,∃i,P.info? fd.type=some i
 |[],_,fd,h=>by cases h
 |f :: l,h,fd,hm=>by
  simp only[a3Y,allKnown,a0D] at h
  rcases a0Z.1 hm with rfl|hm
  ·obtain⟨i,d,hi,_⟩:=hE.info h.1;exact⟨i,hi⟩
  ·exact allKnown_info hE l h.2 fd hm
theorem a3f {I:Nat→Prop} {η:Eta} {w:World} {T:List V} {a:Act} (h:SatT I η w T a.tmps):∀(l:List Operand),(∀x∈l,a2m T x)→DenL I η w (evs T l) (l.map a.eval)
 |[],_=>rfl
 |x :: l,ht=>⟨a.eval x,_,rfl,a0l h (ht x (by simp)),a3f h l (fun y hy=>ht y (by simp[hy]))⟩
def PR.soundOp (P:Program) (I:Nat→Prop) (η:Eta) (w:World) (s:Sem Next):PR→Prop
 |.bad=>True
 |.ok v=>∃x,s.run P w=.ok (.value x) w∧Den I η w v x
 |.need c v=>c→∃x,s.run P w=.ok (.value x) w∧Den I η w v x
theorem PR.sound.op {I:Nat→Prop} {η:Eta} {w:World} {s:Sem Value} {r:PR} (h:r.sound P I η w s):r.soundOp P I η w (do pure (.value (←s))):=by
 cases r with
 |bad=>trivial
 |ok v=>obtain⟨x,h1,h2⟩:=h;exact⟨x,by simp[h1],h2⟩
 |need c v=>intro hc;obtain⟨x,h1,h2⟩:=h hc;exact⟨x,by simp[h1],h2⟩
theorem builtinV_sound (hE:a1b E P) {I:Nat→Prop} {η:Eta} {w:World} (b:Builtin) (ty:TypeId) (consts:Array Bool) {ts:List TypeId} {vs:List V} {xs:List Value} (hd:DenL I η w vs xs) :
  (builtinV E b ts vs).soundOp P I η w (builtin b ts.toArray ty consts xs.toArray):=by
 unfold builtinV
 split
 ·rename_i t x
  obtain⟨y,r,rfl,hy,hr⟩:=hd
  have hr:r=[]:=hr
  subst hr
  exact(lenV_sound hE t ty hy).op
 ·rename_i x y
  obtain⟨x',r,rfl,hx,hr⟩:=hd
  obtain⟨y',r',rfl,hy,hr'⟩:=hr
  have hr':r'=[]:=hr'
  subst hr'
  split
  ·rename_i k m k' n
   have hx:x'=.int k m:=hx
   have hy:y'=.int k' n:=hy
   subst hx hy
   split
   ·rename_i hk
    subst hk
    refine⟨.int k (max m n),?_,rfl⟩
    simp[builtin,Builtin.max_,Builtin.max2]
    split<;>omega
   ·trivial
  ·trivial
 ·rename_i x y
  obtain⟨x',r,rfl,hx,hr⟩:=hd
  obtain⟨y',r',rfl,hy,hr'⟩:=hr
  have hr':r'=[]:=hr'
  subst hr'
  split
  ·rename_i k m k' n
   have hx:x'=.int k m:=hx
   have hy:y'=.int k' n:=hy
   subst hx hy
   split
   ·rename_i hk
    subst hk
    refine⟨.int k (min m n),?_,rfl⟩
    simp[builtin,Builtin.min_,Builtin.min2]
    split<;>omega
   ·trivial
  ·trivial
 ·trivial
def nilRes (ad:Option Addr):PR→Prop
 |.ok (.kb b)=>ad.isNone=b
 |.need c (.kb b)=>c→ad.isNone=b
 |.need c (.prop p d)=>c→ad.isNone=@decide p d
 |_=>False
theorem nilOf_sound {I:Nat→Prop} {η:Eta} {w:World} {H:List O} (hS:Objs I η w H) {a:V} {x:Value} (ha:Den I η w a x) {r:PR} (h:nilOf H a=some r) :
  ∃(ad:Option Addr) (n c:Nat),x=.slice ad n c∧nilRes ad r:=by
 unfold nilOf at h
 split at h
 ·rename_i id n
  obtain⟨e,hη,he,rfl⟩:=ha
  obtain⟨b,cap⟩:=e
  split at h
  ·rename_i ty sz n' f hg
   cases h
   obtain⟨xs,_,_,hz,_⟩:=hS id _ _ hη (a0j hg trivial)
   cases b with
   |none=>exact⟨none,0,0,rfl,fun hc=>by have:=(he rfl).1;simp[this]⟩
   |some b=>
    refine⟨some ⟨b,0,none⟩,n,cap,rfl,fun hc=>?_⟩
    have:¬n=0:=fun h0=>by have:=hz.2 ⟨rfl,by omega⟩;cases this
    simp[this]
  ·rename_i ty sz n' f hg
   cases h
   obtain⟨xs,_,_,hz,_⟩:=hS id _ _ hη (a0j hg trivial)
   cases b with
   |none=>exact absurd (hz.1 rfl).1 (by simp)
   |some b=>exact⟨some ⟨b,0,none⟩,n,cap,rfl,fun hc=>rfl⟩
  ·cases h
 ·cases h
  exact⟨none,_,_,ha,rfl⟩
 ·cases h
  exact⟨some _,_,_,ha,rfl⟩
 ·cases h
  rcases ha with⟨rfl,ad,cap,rfl⟩|⟨b,o,cap,rfl,_⟩
  ·exact⟨ad,0,cap,rfl,fun hc=>by omega⟩
  ·exact⟨_,_,cap,rfl,fun _=>rfl⟩
 ·cases h
  obtain⟨b,c,_,_,rfl⟩:=ha
  exact⟨_,_,_,rfl,rfl⟩
 ·cases h
theorem keyInts_eqCells:∀{ks:List IntKind} {l m:List V} {k k':List Int} {p:Prop} {d:Decidable p},a1u ks l=some k→a1u ks m=some k'→eqCells l m=some ⟨p,d⟩→(p↔k=k')
 |[],l,m,k,k',p,d,h1,h2,h3=>by
  cases l with
  |nil=>simp[eqCells] at h3
  |cons x l=>simp[a1u] at h1
 |q :: ks,l,m,k,k',p,d,h1,h2,h3=>by
  unfold a1u at h1 h2
  split at h1
  ·cases ‹q :: ks=[]›
  ·rename_i q0 ks0 q1 n l0 heq
   cases heq
   split at h2
   ·cases ‹q :: ks=[]›
   ·rename_i q2 ks2 q3 n' m0 heq
    cases heq
    simp only[cond_eq_ite,decide_eq_true_eq] at h1 h2
    split at h1
    ·rename_i hq1
     subst hq1
     split at h2
     ·rename_i hq2
      subst hq2
      split at h1
      ·rename_i r hr
       cases h1
       split at h2
       ·rename_i r' hr'
        cases h2
        unfold eqCells at h3
        split at h3
        ·rename_i heq1 heq2
         cases heq1
         cases heq2
         split at h3
         ·cases h3
          have e1:ks=[]:=by cases ks with
           |nil=>rfl
           |cons=>simp[a1u] at hr
          subst e1
          simp only[a1u,a1H] at hr hr'
          subst hr hr'
          simp
         ·cases h3
        ·rename_i _ heq1 heq2
         cases heq1
         cases heq2
         split at h3
         ·split at h3
          ·rename_i p' d' he
           cases h3
           have:=keyInts_eqCells hr hr' he
           simp[this]
          ·cases h3
         ·cases h3
        ·cases h3
       ·cases h2
      ·cases h1
     ·cases h2
    ·cases h1
   ·cases h2
  ·cases h1
theorem keyInts_vals:∀{ks:List IntKind} {l:List V} {k:List Int} {I:Nat→Prop} {η:Eta} {w:World} {vs:List Value},a1u ks l=some k→DenL I η w l vs→vs=a0o ks k∧k.length=ks.length
 |[],l,k,I,η,w,vs,h,hd=>by
  cases l with
  |nil=>simp only[a1u,a1H] at h;subst h;exact⟨hd,rfl⟩
  |cons=>simp[a1u] at h
 |q :: ks,l,k,I,η,w,vs,h,hd=>by
  unfold a1u at h
  split at h
  ·cases ‹q :: ks=[]›
  ·rename_i q0 ks0 q1 n l0 heq
   cases heq
   simp only[cond_eq_ite,decide_eq_true_eq] at h
   split at h
   ·rename_i hq
    subst hq
    split at h
    ·rename_i r hr
     cases h
     obtain⟨v,rest,rfl,hv,hrest⟩:=hd
     obtain⟨g1,g2⟩:=keyInts_vals hr hrest
     have hv:v=.int q n:=hv
     rw[g1,hv]
     exact⟨rfl,by simp[g2]⟩
    ·cases h
   ·cases h
  ·cases h
theorem binA_sound (hE:a1b E P) {I:Nat→Prop} {η:Eta} {w:World} (op:BinOp) (t:TypeId) (ox oy:Operand) {a b:V} {x y:Value} (ha:Den I η w a x) (hb:Den I η w b y) :
  (binA E op t a b).sound P I η w (do eqGuard op t ox oy x y;binOp op t x y):=by
 unfold binA
 split
 ·rename_i n e l m hk heq hkind
  split
  ·rename_i ks hks
   obtain⟨i,dd,hinfo,hu,hs,_,hkind',_,heq'⟩:=hE.info hk
   have hagg:(E.ti t).agg=true:=by simp[TI.agg,hkind]
   rw[hkind'] at hkind
   have:dd=.array n e:=by cases dd<;>simp[a1o] at hkind;rw[hkind.1,hkind.2]
   subst this
   rw[heq'] at heq
   simp only[eqOk,a3P] at heq
   obtain⟨ka,hka,hf⟩:=flat_of hE 8 t ks hks
   rw[hagg] at hka
   subst hka
   obtain⟨xs,rfl,_,hl⟩:=ha
   obtain⟨ys,rfl,_,hm⟩:=hb
   have main:∀(k k':List Int) (p:Prop) (d:Decidable p),a1u ks l=some k→a1u ks m=some k'→eqCells l m=some ⟨p,d⟩→
     (eqGuard op t ox oy (.agg xs.toArray) (.agg ys.toArray)).run P w=.ok () w∧(Op.equalIn 10000 t (.agg xs.toArray) (.agg ys.toArray)).run P w=.ok (@decide p d) w:=by
    intro k k' p d h1 h2 h3
    obtain⟨rfl,l1⟩:=keyInts_vals h1 hl
    obtain⟨rfl,l2⟩:=keyInts_vals h2 hm
    refine⟨run_eqGuard_agg w op t ox oy _ _ heq,?_⟩
    have:=hf.equal w 10000 k k' (by omega) l1 l2
    simp only[encK,cond_true] at this
    rw[this]
    congr 1
    rw[decide_eq_decide]
    exact(keyInts_eqCells h1 h2 h3).symm
   split
   ·rename_i k k' p d h1 h2 h3
    obtain⟨g1,g2⟩:=main _ _ p d h1 h2 h3
    exact⟨.bool (@decide p d),by simp[g1,run_eql_struct,g2],rfl⟩
   ·rename_i k k' p d h1 h2 h3
    obtain⟨g1,g2⟩:=main _ _ p d h1 h2 h3
    exact⟨.bool (!@decide p d),by simp[g1,run_neq_struct,g2],by simp only[Den];congr 1;by_cases hp:p<;>simp[hp]⟩
   ·trivial
  ·trivial
 ·trivial
theorem binW_sound {E:Env} {I:Nat→Prop} {η:Eta} {w:World} (op:BinOp) (t:TypeId) (ox oy:Operand) {a b:V} {x y:Value} (ha:Den I η w a x) (hb:Den I η w b y) :
  (binW E op a b).sound P I η w (do eqGuard op t ox oy x y;binOp op t x y):=by
 unfold binW
 cases Nat.beq (get {} E 0).size 1 with
 |false=>trivial
 |true=>
  dsimp only[cond]
  split
  ·rename_i k m k' n
   split
   ·rename_i hk
    subst hk
    have hx:x=.int k m:=ha
    have hy:y=.int k n:=hb
    subst hx hy
    exact⟨.int k (k.wrap (m+n)),by simp[eqGuard_at_int,binOp,Op.intArith],rfl⟩
   ·trivial
  ·trivial
theorem binH_sound (hE:a1b E P) {I:Nat→Prop} {η:Eta} {w:World} {H:List O} (hS:Objs I η w H) (op:BinOp) (t:TypeId) (ox oy:Operand) {a b:V} {x y:Value} (ha:Den I η w a x) (hb:Den I η w b y) :
  (binH E H op t a b).sound P I η w (do eqGuard op t ox oy x y;binOp op t x y):=by
 unfold binH
 split
 ·rename_i e hn he
  obtain⟨hu,_⟩:=a0q hE he
  have hy:y=.slice none 0 0:=by
   unfold isNil at hn
   split at hn
   ·exact hb
   ·cases hn
  subst hy
  have hg:∀(ad:Option Addr) (n c:Nat),(eqGuard op t ox oy (.slice ad n c) (.slice none 0 0)).run P w=.ok () w:=by
   intro ad n c
   unfold eqGuard
   split<;>simp
  split
  ·rename_i r hr
   obtain⟨ad,n,c,rfl,h⟩:=nilOf_sound hS ha hr
   have hrun:(do eqGuard .eql t ox oy (.slice ad n c) (.slice none 0 0);binOp .eql t (.slice ad n c) (.slice none 0 0):Sem Value).run P w=.ok (.bool ad.isNone) w:=by
    simp[hg,binOp,run_equal_slice_nil w t e ad n c hu]
   cases r with
   |bad=>exact h.elim
   |ok v=>cases v with
    |kb b=>exact⟨_,hrun,by rw[h];rfl⟩
    |_=>exact h.elim
   |need c v=>cases v with
    |kb b=>exact fun hc=>⟨_,hrun,by rw[h hc];rfl⟩
    |prop p d=>exact fun hc=>⟨_,hrun,by rw[h hc];rfl⟩
    |_=>exact h.elim
  ·rename_i r hr
   obtain⟨ad,n,c,rfl,h⟩:=nilOf_sound hS ha hr
   have hrun:(do eqGuard .neq t ox oy (.slice ad n c) (.slice none 0 0);binOp .neq t (.slice ad n c) (.slice none 0 0):Sem Value).run P w=.ok (.bool (!ad.isNone)) w:=by
    simp[hg,binOp,run_equal_slice_nil w t e ad n c hu]
   cases r with
   |bad=>exact h.elim
   |ok v=>cases v with
    |kb b=>cases b<;>exact⟨_,hrun,by rw[h];rfl⟩
    |_=>exact h.elim
   |need c v=>cases v with
    |kb b=>cases b<;>exact fun hc=>⟨_,hrun,by rw[h hc];rfl⟩
    |prop p d=>exact fun hc=>⟨_,hrun,by rw[h hc];simp only[Den];congr 1;by_cases hp:p<;>simp[hp]⟩
    |_=>exact h.elim
  ·trivial
 ·exact(binW_sound op t ox oy ha hb).orElse ((binA_sound hE op t ox oy ha hb).orElse (binV_sound hE op t ox oy ha hb))
theorem a2a (hE:a1b E P) {I:Nat→Prop} {η:Eta} {w:World} {T:List V} {H:List O} {a:Act} (hS:Objs I η w H) (hT:SatT I η w T a.tmps) (o:Oper) (ht:∀x∈a2e o.op,a2m T x) :
  (a1f E T H o.op).soundOp P I η w (execOp a.eval o):=by
 unfold a1f
 split<;>rename_i hop<;>simp only[hop,a2e,Op.operands,Call.operands] at ht
 ·exact⟨_,by simp[execOp,hop],ev0_den hT _⟩
 ·exact⟨_,by simp[execOp,hop],ev0_den hT _⟩
 ·rename_i c x y
  have:=(pickV_sound (P:=P) (a0l hT (ht c (by simp))) (ev0_den hT x) (ev0_den hT y)).op
  simpa [execOp,hop] using this
 ·rename_i t x
  have:=(loadV_sound hE hS t (a0l hT (ht x (by simp)))).op
  simpa [execOp,hop] using this
 ·rename_i s x f
  have:=(fieldAddrV_sound hE s f (a0l hT (ht x (by simp)))).op
  simpa [execOp,hop] using this
 ·rename_i s x f
  have:=(fieldV_sound hE s f (a0l hT (ht x (by simp)))).op
  simpa [execOp,hop] using this
 ·rename_i t x i
  have:=(indexAddrV_sound hE t (a0l hT (ht x (by simp))) (a0l hT (ht i (by simp)))).op
  simpa [execOp,hop] using this
 ·rename_i op t x y t'
  have:=(binH_sound hE hS op t x y (a0l hT (ht x (by simp))) (a0l hT (ht y (by simp)))).op
  simpa [execOp,hop] using this
 ·rename_i op t x
  have:=(unV_sound (P:=P) op (a0l hT (ht x (by simp)))).op
  simpa [execOp,hop] using this
 ·rename_i x i
  have hx:=a0l hT (ht x (by simp))
  split
  ·rename_i vs hv
   rw[hv] at hx
   obtain⟨us,hu,hd⟩:=hx
   simp only[cond_eq_ite]
   split
   ·rename_i hi
    rw[a1j] at hi
    have hi':i<vs.length:=a0P hi
    obtain⟨u,h1,h2⟩:=hd.getElem? i vs[i] (by simp[hi'])
    refine⟨u,?_,by rw[a0z];simpa [hi'] using h2⟩
    simp[execOp,hop,hu,Instr.extract,h1]
   ·trivial
  ·trivial
 ·rename_i fn first cap
  refine⟨.func fn (first.toList.map a.eval).toArray (cap.toList.map a.eval).toArray,?_,_,_,rfl,a3f hT _ (fun x hx=>ht x (by simp;exact .inl (by simpa using hx))),a3f hT _ (fun x hx=>ht x (by simp;exact .inr (by simpa using hx)))⟩
  simp[execOp,hop,Instr.makeFunc]
  exact⟨by cases first;simp,by cases cap;simp⟩
 ·rename_i x
  have hx:=a0l hT (ht x (by simp))
  unfold nilCheckV
  split
  ·rename_i id off hv
   rw[hv] at hx
   obtain⟨b,c,hη,he⟩:=hx
   exact⟨_,by simp[execOp,hop,he],b,c,hη,rfl⟩
  ·rename_i id sz i off hv
   rw[hv] at hx
   obtain⟨b,c,hη,he⟩:=hx
   exact⟨_,by simp[execOp,hop,he],b,c,hη,rfl⟩
  ·rename_i cs hv
   rw[hv] at hx
   obtain⟨b,off,vs,he,hrest⟩:=hx
   exact⟨_,by simp[execOp,hop,he],b,off,vs,rfl,hrest⟩
  ·trivial
 ·rename_i s d x
  have:=(convertV_sound hE s d (a0l hT (ht x (by simp)))).op
  simpa [execOp,hop] using this
 ·rename_i t x i
  have:=(indexV_sound hE t (a0l hT (ht x (by simp))) (a0l hT (ht i (by simp)))).op
  simpa [execOp,hop] using this
 ·rename_i t x lo hi
  split
  ·rename_i n e ha
   have:=(sliceA_sound hE hT t ha (a0l hT (ht x (by simp))) (lo:=lo) (hi:=hi) (fun y hy=>ht y (by simp[hy])) (fun y hy=>ht y (by simp[hy]))).op
   simpa [execOp,hop] using this
  ·have:=(sliceV_sound hE hS hT t (a0l hT (ht x (by simp))) (lo:=lo) (hi:=hi) (fun y hy=>ht y (by simp[hy])) (fun y hy=>ht y (by simp[hy]))).op
   simpa [execOp,hop] using this
 ·rename_i t x lo hi mx
  split
  ·rename_i id n _ hxv
   have hx:=a0l hT (ht x (by simp))
   rw[hxv] at hx
   have:=(slice3W_sound hE hS hT t hx (lo:=lo) (fun y hy=>ht y (by simp[hy])) (a0l hT (ht hi (by simp))) (a0l hT (ht mx (by simp)))).op
   simpa [execOp,hop] using this
  ·have:=(slice3_sound hE hT t (a0l hT (ht x (by simp))) (lo:=lo) (fun y hy=>ht y (by simp[hy])) (a0l hT (ht hi (by simp))) (a0l hT (ht mx (by simp)))).op
   simpa [execOp,hop] using this
 ·rename_i t parts
  split
  ·rename_i n e z hk hkind hz
   obtain⟨i,d,hi,hu,hs,_,hkind',hz',_⟩:=hE.info hk
   rw[hkind'] at hkind
   rw[hz'] at hz
   obtain⟨zv,hzv,rfl,hz1,_⟩:=a1d hz
   have:d=.array n e:=by revert hkind;cases d<;>simp[a1o]
   subst this
   simp only[cond_eq_ite]
   split
   ·rename_i hke
    obtain⟨i',d',hi',_,hs',_⟩:=hE.info hke
    split
    ·rename_i cs hf
     obtain⟨vs,g1,g2,g3⟩:=fillA_sound hT (E.ti e).size parts.toList _ _ cs (fun p hp=>ht p.2 (by simp;exact⟨p.1,by simpa using hp⟩)) (a2c I η w zv.cells.toList) hz1 hf
     refine⟨.agg vs.toArray,?_,vs,rfl,g3,g2⟩
     simp only[execOp,hop,Instr.build,zeroValue,typeInfo,sizeOf,Sem.run_bind,run_program,Result.andThen_ok,hi,hi',Sem.run_pure,hzv,run_underlying hu,a3M,a3L,hs'] at g1 ⊢
     simp only[g1]
     simp
    ·trivial
   ·trivial
  ·rename_i fs z hk hkind hz
   obtain⟨i,d,hi,hu,hs,_,hkind',hz',_⟩:=hE.info hk
   rw[hkind'] at hkind
   rw[hz'] at hz
   obtain⟨zv,hzv,rfl,hz1,_⟩:=a1d hz
   have:∃fs',d=.struct fs':=by revert hkind;cases d<;>simp[a1o]
   obtain⟨fs',rfl⟩:=this
   simp only[a1o,TK.struct.injEq] at hkind
   subst hkind
   simp only[cond_eq_ite]
   split
   ·rename_i hall
    split
    ·rename_i cs hf
     have hinfo:∀fd∈fs',∃i,P.info? fd.type=some i:=fun fd hfd=>allKnown_info hE fs'.toList hall fd (by simpa using hfd)
     have hpl:=build_places (P:=P) w hinfo
     obtain⟨vs,g1,g2,g3⟩:=fill_sound hE hT t fs' (fs'.map fun f=>(f.offset,P.cellsOf f.type)) hk hu (fun j fd hj=>by simp[hj]) parts.toList _ _ cs
      (fun p hp=>ht p.2 (by simp;exact⟨p.1,by simpa using hp⟩)) (a2c I η w zv.cells.toList) hz1 hf
     refine⟨.agg vs.toArray,?_,vs,rfl,g3,g2⟩
     simp only[execOp,hop,Instr.build,zeroValue,typeInfo,Sem.run_bind,run_program,Result.andThen_ok,hi,Sem.run_pure,hzv,run_underlying hu,hpl,a3M,a3L] at g1 ⊢
     simp only[g1]
     simp
    ·trivial
   ·trivial
  ·trivial
 ·rename_i x t
  have hx:=a0l hT (ht x (by simp))
  have:=((lenM_sound (P:=P) hE hS t o.type hx).orElse (lenV_sound hE t o.type hx)).op
  simpa [execOp,hop,resolve,invoke,builtin] using this
 ·rename_i b args argTypes _
  obtain⟨l⟩:=args
  have hx:=a3f hT l (fun x hx=>ht x (by simpa using hx))
  have hb:=fun consts=>builtinV_sound (P:=P) hE b o.type consts hx (ts:=argTypes.toList)
  have e1:execOp a.eval o=builtin b argTypes o.type (Array.map (fun|Operand.const _=>true|_=>false) ⟨l⟩) (Array.map a.eval ⟨l⟩):=by
   simp only[execOp,hop,resolve]
   rfl
  rw[e1]
  have:=hb (Array.map (fun|Operand.const _=>true|_=>false) ⟨l⟩)
  simpa using this
 ·rename_i t x i c
  have:=(lookupV_sound hE hS t (a0l hT (ht x (by simp))) (a0l hT (ht i (by simp))) c).op
  simpa [execOp,hop] using this
 ·rename_i x
  have:=(entryV_sound (P:=P) hS (a0l hT (ht x (by simp)))).op
  simpa [execOp,hop] using this
 ·trivial
end Go.Sx
namespace Go.Sx
open Go
variable {P:Program} {E:Env}
structure Good (I:Nat→Prop) (η:Eta) (w:World) (T:List V) (H:List O) (a:Act):Prop where
 sat:Sat I η w H
 tmp:SatT I η w T a.tmps
theorem World.alloc_heap (w:World) (o:Obj):(w.alloc o).heap=w.heap.push o:=rfl
theorem a1n {w w':World} {ty:TypeId} {sz n:Nat} {e:Option Nat×Nat} {xs:List Value} (h:w.ownsRow 0 ty sz (slVal e n) n xs) (hb:∀b,e.1=some b→w'.heap[b]? = w.heap[b]?):w'.ownsRow 0 ty sz (slVal e n) n xs:=by
 obtain⟨g1,g2⟩:=h
 refine⟨g1,?_⟩
 rcases g2 with g2|⟨g,cap,cur,e1,e2,e3,e4⟩
 ·exact .inl g2
 ·refine .inr ⟨g,cap,cur,e1,e2,?_,e4⟩
  obtain⟨bb,c⟩:=e
  cases bb with
  |none=>simp[slVal] at e1
  |some b=>
   simp[slVal] at e1
   obtain⟨rfl,rfl⟩:=e1
   rw[hb b rfl];exact e3
theorem SatO.mono {I I':Nat→Prop} {η η':Eta} {w w':World} (m:Mono I η w I' η' w') {e:Option Nat×Nat} {o:O} (h:SatO I η w e o)
  (hb:∀b,o.has e b→w'.heap[b]? = w.heap[b]?):SatO I' η' w' e o:=by
 cases o with
 |cells ty vs=>
  obtain⟨b,c,rfl,xs,h1,h2,h3⟩:=h
  exact⟨b,c,rfl,xs,by rw[hb b (.inl ⟨trivial,rfl⟩)];exact h1,h2,DenL.mono m _ _ h3⟩
 |row ty sz n f nz=>
  obtain⟨xs,h1,h2,h3,h4⟩:=h
  exact⟨xs,a1n h1 (fun b hb'=>hb b (.inl ⟨trivial,hb'⟩)),h2,h3,fun i hi=>DenL.mono m.nil _ _ (h4 i hi)⟩
 |map ks ka va dom val n g=>
  obtain⟨b,c,rfl,es,h1,h2⟩:=h
  exact⟨b,c,rfl,es,by rw[hb b (.inl ⟨trivial,rfl⟩)];exact h1,h2.imp (fun k vs hk=>DenL.mono m.nil _ _ hk)⟩
 |iter mid g dom done=>
  obtain⟨b,c,mb,c',rfl,h1,h2,h3⟩:=h
  exact⟨b,c,mb,c',rfl,m.eta _ _ h1 (by simp),by rw[hb b (.inl ⟨trivial,rfl⟩)];exact h2,h3⟩
 |mapx ks ka va dom val=>
  obtain⟨n,g,b,c,rfl,es,h1,h2⟩:=h
  exact⟨n,g,b,c,rfl,es,by rw[hb b (.inl ⟨trivial,rfl⟩)];exact h1,h2.imp (fun k vs hk=>DenL.mono m.nil _ _ hk)⟩
 |loop T ps assign body st=>
  obtain⟨b,c,fn,tmps,D,rfl,h1,h2⟩:=h
  exact⟨b,c,fn,tmps,D,rfl,by rw[hb b (.inl ⟨trivial,rfl⟩)];exact h1,DenL.mono m _ _ h2⟩
 |grid ty ety esz n k f β hole nz=>
  obtain⟨⟨xs,h1,h2,h3,h4⟩,h5,h6,h7⟩:=h
  refine⟨⟨xs,a1n h1 (fun b hb'=>hb b (.inl ⟨trivial,hb'⟩)),h2,h3,h4⟩,fun i hi hh=>?_,h6,h7⟩
  obtain⟨g0,ys,g1,g2,g3⟩:=h5 i hi hh
  exact⟨g0,ys,a1n g1 (fun b hb'=>hb b (.inr ⟨i,hi,hh,hb'⟩)),g2,fun j hj=>DenL.mono m.nil _ _ (g3 j hj)⟩
 |gone=>trivial
theorem Sat.push {I:Nat→Prop} {η:Eta} {w:World} {H:List O} (h:Sat I η w H) (ob:Obj) (o:O) (c:Nat)
  (ho:SatO I (η++[(some w.heap.size,c)]) (w.alloc ob) (some w.heap.size,c) o) (hin:∀b,¬o.inner b:=by exact fun _ h=>h) :
  Sat I (η++[(some w.heap.size,c)]) (w.alloc ob) (H++[o])∧Mono I η w I (η++[(some w.heap.size,c)]) (w.alloc ob)∧
   Step I (own η H) w I (own (η++[(some w.heap.size,c)]) (H++[o])) (w.alloc ob):=by
 have hblk:∀b,b<w.heap.size→(w.alloc ob).heap[b]? = w.heap[b]?:=by
  intro b hb
  rw[World.alloc_heap,a3E]
  have:b≠w.heap.size:=by omega
  simp[this]
 have m:Mono I η w I (η++[(some w.heap.size,c)]) (w.alloc ob):=
  ⟨fun id e he _=>by rw[a0F (a0B.1 he).1];exact he,fun _ hb=>hb,fun b hb=>hblk b (h.ilt b hb)⟩
 have key:∀(j b:Nat) (e:Option Nat×Nat) (oo:O),(η++[(some w.heap.size,c)])[j]? = some e→(H++[o])[j]? = some oo→(j<η.length∧η[j]? = some e∧H[j]? = some oo)∨(j=η.length∧e=(some w.heap.size,c)∧oo=o∧(oo.has e b→b=w.heap.size)):=by
  intro j b e oo hj1 hj2
  by_cases hj:j<η.length
  ·rw[a0F hj] at hj1
   rw[a0F (by rw[←h.len];exact hj)] at hj2
   exact .inl ⟨hj,hj1,hj2⟩
  ·have hlt:=(a0B.1 hj1).1
   simp at hlt
   have hj':j=η.length:=by omega
   subst hj'
   rw[h.len] at hj2
   simp at hj1 hj2
   subst hj1 hj2
   refine .inr ⟨rfl,rfl,rfl,?_⟩
   rintro(⟨_,h1⟩|h1)
   ·exact(a1Z h1).symm
   ·exact(hin b h1).elim
 have hown:∀b,own (η++[(some w.heap.size,c)]) (H++[o]) b→own η H b∨b=w.heap.size:=by
  rintro b ⟨id,e',o',h1,h2,h3⟩
  rcases key id b e' o' h1 h2 with⟨_,g1,g2⟩|⟨_,_,_,g⟩
  ·exact .inl ⟨id,e',o',g1,g2,h3⟩
  ·exact .inr (g h3)
 refine⟨⟨by simp[h.len],?_,?_,?_,?_,?_⟩,m,⟨rfl,rfl,rfl,by simp,fun b hb _=>hblk b hb,fun _ hb=>hb,fun _ hb=>.inl hb,?_,m.eta⟩⟩
 ·intro id e o' he ho'
  rcases key id 0 e o' he ho' with⟨_,g1,g2⟩|⟨_,rfl,rfl,_⟩
  ·exact(h.obj id e o' g1 g2).mono m (fun b hb=>hblk b (h.lt b ⟨id,e,o',g1,g2,hb⟩))
  ·exact ho
 ·intro id id' b e1 e2 o1 o2 h1 h2 h3 h4 l1 l2
  rcases key id b e1 o1 h1 h3 with⟨g1,g2,g3⟩|⟨g1,_,_,g2⟩<;>rcases key id' b e2 o2 h2 h4 with⟨k1,k2,k3⟩|⟨k1,_,_,k2⟩
  ·exact h.apart id id' b e1 e2 o1 o2 g2 k2 g3 k3 l1 l2
  ·have:=h.lt b ⟨id,e1,o1,g2,g3,l1⟩;have:=k2 l2;omega
  ·have:=h.lt b ⟨id',e2,o2,k2,k3,l2⟩;have:=g2 l1;omega
  ·omega
 ·intro b hb
  rcases hown b hb with h1|rfl
  ·exact h.notI b h1
  ·intro hI;have:=h.ilt _ hI;omega
 ·intro b hb
  simp only[World.size_alloc]
  rcases hown b hb with h1|rfl
  ·have:=h.lt b h1;omega
  ·omega
 ·intro b hb
  simp only[World.size_alloc]
  have:=h.ilt b hb;omega
 ·intro b hb
  rcases hown b hb with h1|rfl
  ·exact .inl h1
  ·exact .inr (a0K _)
theorem Sat.turnG {I:Nat→Prop} {η:Eta} {w w':World} {H:List O} (h:Sat I η w H) {id:Nat} {e:Option Nat×Nat} {o o':O} (hη:η[id]? = some e) (hH:H[id]? = some o)
  (hsub:∀k,o'.has e k→o.has e k) (hos:w'.os=w.os) (htape:w'.tape=w.tape) (hout:w'.output=w.output) (hsz:w'.heap.size=w.heap.size) (hblk:∀k,¬o.has e k→w'.heap[k]? = w.heap[k]?) (ho:Mono I η w I η w'→SatO I η w' e o') :
  Sat I η w' (H.set id o')∧Mono I η w I η w'∧Step I (own η H) w I (own η (H.set id o')) w':=by
 have hob:∀b,o.has e b→own η H b:=fun b hb=>⟨id,e,o,hη,hH,hb⟩
 have m:Mono I η w I η w':=⟨fun _ _ he _=>he,fun _ hb=>hb,fun k hk=>hblk k (fun g=>h.notI k (hob k g) hk)⟩
 have hidH:=(a0B.1 hH).1
 have key:∀(j k:Nat) (e1:Option Nat×Nat) (o1:O),η[j]? = some e1→(H.set id o')[j]? = some o1→o1.has e1 k→∃o2,H[j]? = some o2∧o2.has e1 k:=by
  intro j k e1 o1 h1 h2 h3
  rw[a0G] at h2
  by_cases hj:id=j
  ·subst hj
   rw[if_pos rfl,if_pos hidH] at h2
   cases h2
   rw[hη] at h1
   cases h1
   exact⟨o,hH,hsub k h3⟩
  ·rw[if_neg hj] at h2;exact⟨o1,h2,h3⟩
 have hown:∀k,own η (H.set id o') k→own η H k:=by
  rintro k ⟨j,e1,o1,h1,h2,h3⟩
  obtain⟨o2,g1,g2⟩:=key j k e1 o1 h1 h2 h3
  exact⟨j,e1,o2,h1,g1,g2⟩
 refine⟨⟨by simp[h.len],?_,?_,fun k hk=>h.notI k (hown k hk),fun k hk=>by rw[hsz];exact h.lt k (hown k hk),fun k hk=>by rw[hsz];exact h.ilt k hk⟩,m,
  ⟨hos,htape,hout,by rw[hsz];exact a0K _,fun k _ hk=>hblk k (fun g=>hk (hob k g)),fun _ hb=>hb,fun _ hb=>.inl hb,fun k hk=>.inl (hown k hk),m.eta⟩⟩
 ·intro j e1 o1 h1 h2
  rw[a0G] at h2
  by_cases hj:id=j
  ·subst hj
   rw[if_pos rfl,if_pos hidH] at h2
   cases h2
   rw[hη] at h1
   cases h1
   exact ho m
  ·rw[if_neg hj] at h2
   exact(h.obj j e1 o1 h1 h2).mono m (fun k hk=>hblk k (fun g=>hj (h.apart id j k e e1 o o1 hη h1 hH h2 g hk)))
 ·intro j j' k c1 c2 o1 o2 h1 h2 h3 h4 l1 l2
  obtain⟨o3,g1,g2⟩:=key j k c1 o1 h1 h3 l1
  obtain⟨o4,g3,g4⟩:=key j' k c2 o2 h2 h4 l2
  exact h.apart j j' k c1 c2 o3 o4 h1 h2 g1 g3 g2 g4
theorem Sat.write {I:Nat→Prop} {η:Eta} {w:World} {H:List O} (h:Sat I η w H) {id b c:Nat} {o o':O} (hη:η[id]? = some (some b,c)) (hH:H[id]? = some o) (hl:o.live) (_hl':o'.live) (cur:Array Value)
  (ho:∀w',w'=w.setRow b cur→Mono I η w I η w'→SatO I η w' (some b,c) o') (hin:∀b,o'.inner b→o.inner b:=by exact fun _ h=>h.elim) :
  Sat I η (w.setRow b cur) (H.set id o')∧Mono I η w I η (w.setRow b cur)∧Step I (own η H) w I (own η (H.set id o')) (w.setRow b cur):=
 h.turnG hη hH (fun k hk=>hk.elim (fun g=>.inl ⟨hl,g.2⟩) (fun g=>.inr (hin k g))) rfl rfl rfl (by simp) (fun k hk=>setRow_other w b k _ (fun e=>hk (.inl ⟨hl,by rw[e]⟩))) (ho _ rfl)
end Go.Sx
namespace Go.Sx
open Go
variable {P:Program} {E:Env}
theorem a0w {p:Prop} (hp:p):∀{l:List V} {i:Nat} {xs:List V},a2d p l i xs=splice l i xs
 |l,i,[]=>rfl
 |l,i,x :: xs=>by
  simp only[a2d,splice]
  rw[mrg1_pos hp,a0w hp]
theorem a0t {p:Prop} (hp:¬p):∀{l:List V} {i:Nat} {xs:List V},a2d p l i xs=l
 |l,i,[]=>rfl
 |l,i,x :: xs=>by
  simp only[a2d]
  rw[mrg1_neg hp,a0t hp]
  have key:∀(l:List V) (i:Nat),set l i (get .any l i)=l:=by
   intro l
   induction l with
   |nil=>intro i;rfl
   |cons a l ih=>
    intro i
    cases i with
    |zero=>rfl
    |succ i=>simp only[set,get];rw[ih]
  exact key l i
mutual
theorem fo_nil {I:Nat→Prop} {η:Eta} {w:World}:∀(c:V) (v:Value),c.fo=true→Den I η w c v→Den I [] w c v
 |.int _ _,_,_,h=>h
 |.prop _ _,_,_,h=>h
 |.kb _,_,_,h=>h
 |.ptr _ _,_,f,_=>by cases f
 |.eptr _ _ _ _,_,f,_=>by cases f
 |.iptr _,_,_,h=>h
 |.sl _ _ _,_,_,h=>h
 |.osl _ _,_,f,_=>by cases f
 |.map _,_,f,_=>by cases f
 |.fn _ a b,_,f,h=>by
  simp only[V.fo,a0D] at f
  obtain⟨as,bs,h1,h2,h3⟩:=h
  exact⟨as,bs,h1,fo_nil_list a as f.1 h2,fo_nil_list b bs f.2 h3⟩
 |.agg cs,_,f,h=>by obtain⟨vs,h1,h2,h3⟩:=h;exact⟨vs,h1,h2,fo_nil_list cs vs f h3⟩
 |.tup cs,_,f,h=>by obtain⟨vs,h1,h2⟩:=h;exact⟨vs,h1,fo_nil_list cs vs f h2⟩
 |.lit _,_,_,h=>h
 |.ite _ u,v,f,h=>⟨fun hp=>fo_nil u v f (h.1 hp),h.2⟩
 |.sem _,_,_,h=>h
 |.imap _ _ _ _ _ _,_,_,h=>h
 |.yld _,_,f,_=>by cases f
 |.win _ _ _ _,_,f,_=>by cases f
 |.gsl _ _ _ _,_,f,_=>by cases f
 |.gptr _ _ _ _ _ _,_,f,_=>by cases f
 |.x e,_,f,h=>by cases e<;>first|exact h|cases f
 |.any,_,_,_=>trivial
theorem fo_nil_list {I:Nat→Prop} {η:Eta} {w:World}:∀(cs:List V) (vs:List Value),foL cs=true→DenL I η w cs vs→DenL I [] w cs vs
 |[],_,_,h=>h
 |c :: cs,_,f,h=>by
  simp only[foL,a0D] at f
  obtain⟨v,r,h1,h2,h3⟩:=h
  exact⟨v,r,h1,fo_nil c v f.1 h2,fo_nil_list cs r f.2 h3⟩
end
abbrev Rel:=(Nat→Prop)→Own→World→(Nat→Prop)→Own→World→Prop
structure RelOk (R:Rel):Prop where
 step:∀{I W w I' W' w'},Step I W w I' W' w'→R I W w I' W' w'
 le:∀{I W w I' W' w'},R I W w I' W' w'→StepB 0 I W w I' W' w'
 trans:∀{I W w I' W' w' I'' W'' w''},R I W w I' W' w'→R I' W' w' I'' W'' w''→R I W w I'' W'' w''
theorem relOk_step (B:Nat):RelOk (StepB B):=⟨fun h=>h.toB,fun h=>⟨h.os,h.tape,h.output,h.size,h.block,h.imono,h.inew,h.wnew,fun _ _ h0=>(Nat.not_lt_zero _ h0).elim⟩,fun h k=>h.trans k⟩
def Fw (r:Option Nat):Fence:={fn:=fun _=>True,depth:=none,alive:=false,round:=r}
def Plain (P : Program) (g : FuncId) : Prop := ∃ fn, P.funcs[g]? = some fn ∧ (fn.name == "runtime.NumGoroutine") = false ∧ fn.body.isNone = false
@[irreducible] def Callee (P : Program) (g : FuncId) (args : List V) (H : List O) (K : V → List O → Prop) : Prop :=
 Plain P g∧∀I η w vals,Sat I η w H→DenL I η w args vals→Calls P g vals.toArray w fun e w'=>
  ∃I' η' H' ret v,e=.returned v∧K ret H'∧Sat I' η' w' H'∧Den I' η' w' ret v∧Mono I η w I' η' w'∧Step I (own η H) w I' (own η' H') w'
@[irreducible] def YCall (P : Program) (id : Nat) (args : List V) (H : List O) (K : V → List O → Prop) : Prop :=
 ∀I η w vals,Sat I η w H→DenL I η w args vals→∃b c fn tmps assign body,η[id]? = some (some b,c)∧(invoke (.fn (.yield b) #[]) vals.toArray).run P w=.ok (.round b fn tmps assign body) w∧
  RoundIn (Fw none) 0 P b fn tmps assign body w fun e w'=>
   ∃I' η' H' ret v,e=.returned v∧K ret H'∧Sat I' η' w' H'∧Den I' η' w' ret v∧Mono I η w I' η' w'∧Step I (own η H) w I' (own η' H') w'
@[irreducible] def SCall (P : Program) (D : (Nat → Prop) → World → Value → Prop) (args : List V) (H : List O) (K : V → List O → Prop) : Prop :=
 ∀I η w f vals,Sat I η w H→Den I η w (.sem D) f→DenL I η w args vals→∃g as bs,f=.func (.func g) as bs∧Plain P g∧Calls P g (as++vals.toArray++bs) w fun e w'=>
  ∃I' η' H' ret v,e=.returned v∧K ret H'∧Sat I' η' w' H'∧Den I' η' w' ret v∧Mono I η w I' η' w'∧Step I (own η H) w I' (own η' H') w'
def a1r (R:Rel) (I:Nat→Prop) (W:Own) (w:World) (ds:List Deferred) (K:KT) (a':Act) (w':World):Prop:=
 a'.defers=ds∧∃I' η' T' H',K T' H'∧Good I' η' w' T' H' a'∧R I W w I' (own η' H') w'
theorem a1r.mono {R:Rel} {I:Nat→Prop} {W:Own} {w:World} {ds:List Deferred} {K K':KT} {a':Act} {w':World} (h:a1r R I W w ds K a' w') (hk:∀T H,K T H→K' T H):a1r R I W w ds K' a' w':=by
 obtain⟨h1,I',η',T',H',h2,h3⟩:=h
 exact⟨h1,I',η',T',H',hk _ _ h2,h3⟩
theorem a0m {r:Option Nat} {n:Nat} {o:Oper} {a:Act} {w w':World} {v:Value} {next:Act→World→Prop} {Q:Exit→Act→World→Prop} (hd:∀c,o.op≠.defer c)
  (h:(execOp a.eval o).run P w=.ok (.value v) w') (hn:next (a.put o.dst v) w'):o.wpIn (Fw r) n P a w next Q:=by
 refine⟨fun _ _=>trivial,?_⟩
 rw[Oper.semAt_eq _ _ _ hd,h]
 exact hn
theorem a2y {r:Option Nat} {n:Nat} {o:Oper} {a:Act} {w w':World} {next:Act→World→Prop} {Q:Exit→Act→World→Prop} (hd:∀c,o.op≠.defer c)
  (h:(execOp a.eval o).run P w=.ok .skip w') (hn:next (a.put o.dst undef) w'):o.wpIn (Fw r) n P a w next Q:=by
 refine⟨fun _ _=>trivial,?_⟩
 rw[Oper.semAt_eq _ _ _ hd,h]
 exact hn
structure RelH (R:Rel):Prop where
 step:∀{I:Nat→Prop} {η:Eta} {w:World} {I':Nat→Prop} {η':Eta} {w':World} {H H':List O},Step I (own η H) w I' (own η' H') w'→(∀(id:Nat) (e:Option Nat×Nat),η[id]? = some e→η'[id]? = some e)→R I (own η H) w I' (own η' H') w'
theorem RelOk.toH {R:Rel} (h:RelOk R):RelH R:=⟨fun hs _=>h.step hs⟩
section
variable {R:Rel} (hR:RelH R) (hE:a1b E P) {r:Option Nat} {n:Nat} {Q:Exit→Act→World→Prop}
include hR hE
theorem stepPure_sound {T:List V} {H:List O} {o:Oper} {K:KT} {L:Prop} {I:Nat→Prop} {η:Eta} {w:World} {a:Act} (hg:Good I η w T H a) (h:stepPure E T H o K L) (hd:∀c,o.op≠.defer c) :
  o.wpIn (Fw r) n P a w (a1r R I (own η H) w a.defers K) Q∨L:=by
 unfold stepPure at h
 have key:∀(v:V),conds T True (a2e o.op) (putK T o.dst v fun T'=>K T' H)→((∀x∈a2e o.op,a2m T x)→∃x,(execOp a.eval o).run P w=.ok (.value x) w∧Den I η w v x)→
   o.wpIn (Fw r) n P a w (a1r R I (own η H) w a.defers K) Q:=by
  intro v hc hx
  obtain⟨h1,h2⟩:=a0x trivial hc
  obtain⟨x,e1,e2⟩:=hx h1
  rw[a0n] at h2
  exact a0m hd e1 ⟨Act.put_defers' _ _ _,I,η,_,H,h2,⟨hg.sat,hg.tmp.put e2⟩,hR.step (Step.refl _ _ _) (fun _ _ h=>h)⟩
 split at h
 ·exact .inr h
 ·rename_i v hp
  left
  refine key v h (fun ht=>?_)
  have:=a2a hE hg.sat.obj hg.tmp o ht
  rw[hp] at this
  exact this
 ·rename_i c v hp
  left
  refine key v h.2 (fun ht=>?_)
  have:=a2a hE hg.sat.obj hg.tmp o ht
  rw[hp] at this
  exact this h.1
theorem heapOp_sound {T:List V} {H:List O} {o:Oper} {K:KT} {I:Nat→Prop} {η:Eta} {w:World} {a:Act} (hg:Good I η w T H a) (h:heapOp E T H o K) (ht:∀x∈o.op.operands.toList,a2m T x) :
  o.wpIn (Fw r) n P a w (a1r R I (own η H) w a.defers K) Q:=by
 have hd:∀c,o.op≠.defer c:=by
  intro c hc
  unfold heapOp at h
  rw[hc] at h
  exact h
 have pushed:∀(t:TypeId) (zs:List V) (vs:List Value),(execOp a.eval o).run P w=.ok (.value (.pointer (some ⟨w.heap.size,0,none⟩))) (w.alloc (.cells vs.toArray t))→DenL I η w zs vs→(∀u∈vs,u.oneCell'=true)→
   (lenK H fun n=>forceL zs fun z=>pushK H (.cells t z) fun H'=>putK T o.dst (.ptr n 0) fun T'=>K T' H')→o.wpIn (Fw r) n P a w (a1r R I (own η H) w a.defers K) Q:=by
  intro t zs vs hrun hden h1 hk
  rw[a1k,forceL_eq,a1i,a0n] at hk
  have hso:SatO I (η++[(some w.heap.size,0)]) (w.alloc (.cells vs.toArray t)) (some w.heap.size,0) (.cells t zs):=by
   have hbb:(w.alloc (.cells vs.toArray t)).heap[w.heap.size]? = some (.cells vs.toArray t (0,0)):=by rw[World.alloc_heap];simp
   refine⟨_,_,rfl,vs,hbb,h1,DenL.mono ?_ _ _ hden⟩
   exact⟨fun id e he _=>by rw[a0F (a0B.1 he).1];exact he,fun _ hb=>hb,fun b hb=>by
    have:=hg.sat.ilt b hb
    rw[World.alloc_heap,a3E]
    have:b≠w.heap.size:=by omega
    simp[this]⟩
  obtain⟨s1,s2,s3⟩:=hg.sat.push (.cells vs.toArray t) (.cells t zs) 0 hso
  refine a0m hd hrun ⟨Act.put_defers' _ _ _,I,_,_,_,hk,⟨s1,?_⟩,hR.step s3 (fun id e he=>by rw[a0F (a0B.1 he).1];exact he)⟩
  refine(hg.tmp.mono s2).put ?_
  refine⟨w.heap.size,0,?_,rfl⟩
  rw[←hg.sat.len]
  simp
 unfold heapOp at h
 split at h
 ·rename_i t hop
  split at h
  ·rename_i z hk hz
   obtain⟨i,d,hi,hu,hs,_,_,hz',_⟩:=hE.info hk
   rw[hz'] at hz
   obtain⟨zv,hzv,rfl,hz1,_⟩:=a1d hz
   refine pushed t _ zv.cells.toList ?_ (a2c I η w _) hz1 h
   simp[execOp,hop,Instr.alloc,zeroValue,typeInfo,hi,hzv,newVar,newRow,newObj,Sem.run]
  ·exact h.elim
 ·rename_i t x hop
  split at h
  ·rename_i z hz
   have hx:=a0l hg.tmp (ht x (by simp[hop,Op.operands]))
   obtain⟨vs,g1,g2,g3⟩:=a2g hz hx
   refine pushed t _ vs ?_ g3 g2 h
   simp[execOp,hop,Instr.box,newVar,newRow,newObj,g1,Sem.run]
  ·exact h.elim
 ·rename_i t x y hop
  have hx:=a0l hg.tmp (ht x (by simp[hop,Op.operands]))
  have hy:=a0l hg.tmp (ht y (by simp[hop,Op.operands]))
  split at h
  ·rename_i id off z hk hxa hz
   rw[hxa] at hx
   obtain⟨b,c,hη,hxe⟩:=hx
   obtain⟨vs,g1,g2,g3⟩:=a2g hz hy
   obtain⟨i,d,hi,hu,hs,_,_,_,_⟩:=hE.info hk
   split at h
   ·rename_i ty cs hgt
    simp only[cond_eq_ite,a0D] at h
    split at h
    ·rename_i hc
     rw[a1j,a1j] at hc
     have hc1:=a0f hc.1
     have hc2:=a0P hc.2
     have hH:=a0j hgt trivial
     obtain⟨b',c',heq,xs,hb,h1,hden⟩:=hg.sat.obj id _ _ hη hH
     cases heq
     have hl1:=g3.length
     have hl2:=hden.length
     have hst:=run_storeCells_at P b off ty vs 0 xs.toArray w hb (by simp;omega) g2
     simp only[a2O] at hst
     have hq:spliceQ cs off z=splice cs off z:=by
      unfold spliceQ
      cases hb0:(Nat.beq off 0 && Nat.beq (len z) (len cs)) with
      |false=>rfl
      |true=>
       simp only[a0D] at hb0
       have e1:=a0f hb0.1
       have e2:=a0f hb0.2
       rw[a1j,a1j] at e2
       subst e1
       rw[splice_eq z cs 0 (by omega)]
       simp[e2]
     rw[hq] at h
     rw[forceL_eq,a0p,a0v,a0n] at h
     obtain⟨s1,s2,s3⟩:=hg.sat.write (o':=.cells ty (splice cs off z)) hη hH trivial trivial (xs.take off++vs++xs.drop (off+vs.length)).toArray (by
      rintro w' rfl m
      refine⟨b,c,rfl,_,setRow_heap w b _ _ ty _ hb,?_,DenL.splice off (DenL.mono m _ _ hden) (DenL.mono m _ _ g3) (by omega)⟩
      intro u hu
      simp only[a0U] at hu
      rcases hu with(hu|hu)|hu
      ·exact h1 u (a0X hu)
      ·exact g2 u hu
      ·exact h1 u (a0Y hu))
     refine a2y hd (w':=w.setRow b (xs.take off++vs++xs.drop (off+vs.length)).toArray) ?_ ⟨Act.put_defers' _ _ _,I,η,_,_,h,⟨s1,(hg.tmp.mono s2).put trivial⟩,hR.step s3 (fun _ _ h=>h)⟩
     have e1:vs.length=i.size:=by omega
     have e2:(a.eval y).cells.size=i.size:=by rw[g1];simpa using e1
     simp[execOp,hop,hxe,Instr.storeAt,Instr.sureAddr,storeVar,sizeOf,typeInfo,hi,g1]
     rw[hst]
     simp
     exact e1
    ·exact h.elim
   ·exact h.elim
  ·rename_i id sz ix off z hk hxa hz
   rw[hxa] at hx
   obtain⟨b,c,hη,hxe⟩:=hx
   obtain⟨vs,g1,g2,g3⟩:=a2g hz hy
   obtain⟨i,d,hi,hu,hs,_,_,_,_⟩:=hE.info hk
   split at h
   ·rename_i ty sz' n' f nz hgt
    simp only[cond_eq_ite,a0D] at h
    split at h
    ·rename_i hc
     rw[a1j] at hc
     obtain⟨⟨⟨hc1,hc2⟩,hc3⟩,hfo⟩:=hc
     have g3n:=fo_nil_list z vs hfo g3
     have hc1:=a0f hc1
     have hc2:=a0P hc2
     obtain rfl:=a0f hc3
     obtain⟨hin,h⟩:=h
     have hH:=a0j hgt trivial
     obtain⟨xs,hown,h1,hnil,hden⟩:=hg.sat.obj id _ _ hη hH
     have hsv:slVal (some b,c) n'=.slice (some ⟨b,0,none⟩) n' c:=rfl
     rw[hsv] at hown
     obtain⟨hxl,hown2⟩:=hown
     rcases hown2 with⟨hbad,_⟩|⟨g,cap,cur,hge,_,hheap,hnc,hcm,hcs,htake⟩
     ·cases hbad
     ·cases hge
      have hl1:=g3.length
      have hfit:ix*sz+off+vs.length≤n'*sz:=by
       have:(ix+1)*sz≤n'*sz:=a0H _ hin
       rw[a0W] at this
       omega
      have hcap:n'*sz≤c*sz:=a0H _ hnc
      have hst:=run_storeCells_at P b (ix*sz+off) ty vs 0 cur w hheap (by omega) g2
      simp only[a2O] at hst
      rw[forceL_eq,a0p,a0v,a0n] at h
      have hxs:xs=cur.toList.take (n'*sz):=htake.symm
      have hxl':xs.length=n'*sz:=hxl
      obtain⟨s1,s2,s3⟩:=hg.sat.write (o':=.row ty sz n' (fun j=>a2d (j=ix) (f j) off z) nz) hη hH trivial trivial
       (cur.toList.take (ix*sz+off)++vs++cur.toList.drop (ix*sz+off+vs.length)).toArray (by
       rintro w' rfl m
       have hnew:(cur.toList.take (ix*sz+off)++vs++cur.toList.drop (ix*sz+off+vs.length)).take (n'*sz)=xs.take (ix*sz+off)++vs++xs.drop (ix*sz+off+vs.length):=by
        rw[hxs]
        apply a1J
        intro j
        simp only[a1C,a1G,a0M,a0J,a0R,a2Y]
        have hcl:cur.size=c*sz:=hcs
        by_cases c1:j<n'*sz
        ·rw[if_pos c1]
         have e1:min (ix*sz+off) cur.size=ix*sz+off:=by omega
         have e2:min (ix*sz+off) (min (n'*sz) cur.size)=ix*sz+off:=by omega
         simp only[e1,e2]
         by_cases c2:j<ix*sz+off+vs.length
         ·simp only[c2,if_true]
          by_cases c3:j<ix*sz+off
          ·simp[c3]
           omega
          ·simp[c3]
         ·simp only[c2,if_false]
          rw[if_pos (by omega)]
        ·rw[if_neg c1]
         have e2:min (ix*sz+off) (min (n'*sz) cur.size)=ix*sz+off:=by omega
         simp only[e2]
         rw[if_neg (by omega),if_neg (by omega)]
       refine⟨xs.take (ix*sz+off)++vs++xs.drop (ix*sz+off+vs.length),⟨?_,.inr ⟨b,c,_,rfl,a1X _,setRow_heap w b _ _ ty _ hheap,hnc,hcm,?_,?_⟩⟩,?_,hnil,?_⟩
       ·simp only[a0M,a0J,a1E,hxl'];omega
       ·simp only[a2B,a0M,a0J,a1E,a2Y];omega
       ·simpa using hnew
       ·intro u hu
        simp only[a0U] at hu
        rcases hu with(hu|hu)|hu
        ·exact h1 u (a0X hu)
        ·exact g2 u hu
        ·exact h1 u (a0Y hu)
       ·intro j hj
        have hdj:=DenL.mono m.nil _ _ (hden j hj)
        by_cases hji:j=ix
        ·subst hji
         dsimp only
         rw[a0w (p:=j=j) rfl]
         have hsp:=DenL.splice (I:=I) (η:=[]) off hdj (DenL.mono m.nil _ _ g3n) (by
          have:=hdj.length
          simp only[a0J,a1E,hxl'] at this
          have:(j+1)*sz≤n'*sz:=a0H _ hin
          rw[a0W] at this
          omega)
         refine Eq.mp ?_ hsp
         congr 1
         apply a1J
         intro k
         simp only[a1C,a1G,a0M,a0J,a0R,a1E,hxl']
         have hle:(j+1)*sz≤n'*sz:=a0H _ hin
         rw[a0W] at hle
         have e1:min off (min sz (n'*sz-j*sz))=off:=by omega
         have e2:min (j*sz+off) (n'*sz)=j*sz+off:=by omega
         simp only[e1,e2]
         by_cases c0:k<sz
         ·simp only[c0,if_true]
          by_cases c1:k<off
          ·have d1:k<off+vs.length:=by omega
           have d2:j*sz+k<j*sz+off+vs.length:=by omega
           have d3:j*sz+k<j*sz+off:=by omega
           simp[c1,d1,d2,d3]
          ·by_cases c2:k<off+vs.length
           ·have d2:j*sz+k<j*sz+off+vs.length:=by omega
            have d3:¬j*sz+k<j*sz+off:=by omega
            have d4:j*sz+k-(j*sz+off)=k-off:=by omega
            simp[c1,c2,d2,d3,d4]
           ·have d2:¬j*sz+k<j*sz+off+vs.length:=by omega
            have d5:off+vs.length+(k-(off+vs.length))=k:=by omega
            have d6:j*sz+off+vs.length+(j*sz+k-(j*sz+off+vs.length))=j*sz+k:=by omega
            simp[c2,d2,d5,d6,c0]
         ·have c2:¬k<off+vs.length:=by omega
          simp only[c0,c2,if_false]
          rw[if_neg (by omega)]
        ·dsimp only
         rw[a0t hji]
         refine Eq.mp ?_ hdj
         congr 1
         apply a1J
         intro k
         simp only[a1C,a1G,a0M,a0J,a0R,hxl']
         have e2:min (ix*sz+off) (n'*sz)=ix*sz+off:=by omega
         simp only[e2]
         by_cases c0:k<sz
         ·simp only[c0,if_true]
          rcases Nat.lt_or_gt_of_ne hji with hlt|hgt
          ·have:(j+1)*sz≤ix*sz:=a0H _ hlt
           rw[a0W] at this
           have d2:j*sz+k<ix*sz+off+vs.length:=by omega
           have d3:j*sz+k<ix*sz+off:=by omega
           simp[d2,d3]
          ·have:(ix+1)*sz≤j*sz:=a0H _ hgt
           rw[a0W] at this
           have d2:¬j*sz+k<ix*sz+off+vs.length:=by omega
           have d6:ix*sz+off+vs.length+(j*sz+k-(ix*sz+off+vs.length))=j*sz+k:=by omega
           simp[d2,d6]
         ·simp only[c0,if_false])
      refine a2y hd (w':=w.setRow b _) ?_ ⟨Act.put_defers' _ _ _,I,η,_,_,h,⟨s1,(hg.tmp.mono s2).put trivial⟩,hR.step s3 (fun _ _ h=>h)⟩
      have e1:vs.length=i.size:=by omega
      have e2:(a.eval y).cells.size=i.size:=by rw[g1];simpa using e1
      simp[execOp,hop,hxe,Instr.storeAt,Instr.sureAddr,storeVar,sizeOf,typeInfo,hi,g1]
      rw[hst]
      simp
      exact e1
    ·exact h.elim
   ·exact h.elim
  ·exact h.elim
 ·exact h.elim
end
end Go.Sx
