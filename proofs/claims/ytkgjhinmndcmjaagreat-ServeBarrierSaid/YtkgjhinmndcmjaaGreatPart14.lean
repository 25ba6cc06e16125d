/- Own work: texts of the proof of a law (WpA, WsC, WsI). No condition. -/
import Derived.Test.YtkgjhinmndcmjaaGreatPart13
import Derived.Test.YtkgjhinmndcmjaaGreatPart0
import Derived.Test.YtkgjhinmndcmjaaGreatPart11
set_option linter.unusedVariables false
set_option linter.unusedSimpArgs false
set_option maxRecDepth 100000
set_option maxHeartbeats 40000000
namespace Go.Proofs.Ca
open Go Go.Sx
structure C6 where
 a0:Int
 a1:Int
 a2:Int
 a3:Int
 a4:Int
 a5:Int
deriving DecidableEq
namespace C6
def all (n:Int):C6:=⟨n,n,n,n,n,n⟩
def get (c:C6):Nat→Int
 |0=>c.a0
 |1=>c.a1
 |2=>c.a2
 |3=>c.a3
 |4=>c.a4
 |5=>c.a5
 |_=>0
def set (c:C6):Nat→Int→C6
 |0,x=>{c with a0:=x}
 |1,x=>{c with a1:=x}
 |2,x=>{c with a2:=x}
 |3,x=>{c with a3:=x}
 |4,x=>{c with a4:=x}
 |5,x=>{c with a5:=x}
 |_,_=>c
def c (m:C6):List V:=[.int .i64 m.a0,.int .i64 m.a1,.int .i64 m.a2,.int .i64 m.a3,.int .i64 m.a4,.int .i64 m.a5]
@[ext] theorem ext' {x y : C6} (h : ∀ b, b < 6 → x.get b = y.get b) : x = y := by
 cases x;cases y
 have h0:=h 0 (by omega)
 have h1:=h 1 (by omega)
 have h2:=h 2 (by omega)
 have h3:=h 3 (by omega)
 have h4:=h 4 (by omega)
 have h5:=h 5 (by omega)
 simp only[get] at h0 h1 h2 h3 h4 h5
 simp[*]
theorem get_set {x:C6} {b j:Nat} {n:Int} (hb:b<6) (hj:j<6):(x.set b n).get j=if j=b then n else x.get j:=by
 have hb':b=0∨b=1∨b=2∨b=3∨b=4∨b=5:=by omega
 have hj':j=0∨j=1∨j=2∨j=3∨j=4∨j=5:=by omega
 rcases hb' with rfl|rfl|rfl|rfl|rfl|rfl<;>rcases hj' with rfl|rfl|rfl|rfl|rfl|rfl<;>simp[get,set]
theorem get_all {n:Int} {b:Nat} (hb:b<6):(all n).get b=n:=by
 have hb':b=0∨b=1∨b=2∨b=3∨b=4∨b=5:=by omega
 rcases hb' with rfl|rfl|rfl|rfl|rfl|rfl<;>rfl
end C6
structure PS where
 M:C6
 E:List C6
 W:Int
namespace PS
def ep (s:PS) (e:Nat):C6:=s.E.getD e (C6.all (-3))
def begin:PS:=⟨C6.all (-1),[C6.all (-3)],0⟩
def wr (s:PS) (e b:Nat):PS:=if(s.ep e).get b=-3 then s else⟨s.M.set b ((s.ep e).get b),s.E.set e ((s.ep e).set b (-3)),s.W+1⟩
def wrB (s:PS) (e:Nat):Nat→PS
 |0=>s
 |b+1=>(s.wrB e b).wr e b
def wrE (s:PS):Nat→PS
 |0=>s
 |e+1=>(s.wrE e).wrB e 6
def put (s:PS) (b:Nat) (n:Int):PS:=⟨s.M,s.E.set (s.E.length-1) ((s.ep (s.E.length-1)).set b n),s.W⟩
def tidy (s:PS):PS:=⟨s.M,(s.E.dropLast.filter (fun c=>c≠C6.all (-3)))++[s.ep (s.E.length-1)],s.W⟩
def order (s:PS) (n:Int) (o:Int×Int):PS:=
 if o.1=1 then(s.put o.2.toNat n).tidy
 else if o.1=2 then((((s.put o.2.toNat n).wrE (s.E.length-1))).wr (s.E.length-1) o.2.toNat).tidy
 else if o.1=3 then(⟨s.M,s.E++[C6.all (-3)],s.W⟩:PS).tidy
 else if o.1=4 then(s.wrE s.E.length).tidy
 else s.tidy
def first (s:PS):Option Nat:=s.E.findIdx? (fun c=>c≠C6.all (-3))
end PS
open Go Go.Sx
open Go Go.Sx
theorem six {b:Nat} (h:b<6):b=0∨b=1∨b=2∨b=3∨b=4∨b=5:=by omega
def fillC (n:Int) (i:Nat):C6:=⟨if 0<i then n else 0,if 1<i then n else 0,if 2<i then n else 0,if 3<i then n else 0,if 4<i then n else 0,if 5<i then n else 0⟩
open Go Go.Sx
def eR (E:List C6):Nat→List V:=a0e C6.c (C6.all (-3)) E
def stCs (s:PS) (id:Nat):List V:=[.int .i64 s.M.a0,.int .i64 s.M.a1,.int .i64 s.M.a2,.int .i64 s.M.a3,.int .i64 s.M.a4,.int .i64 s.M.a5,.osl id s.E.length,.int .i64 s.W]
def stI (s:PS):V:=.iptr [.int .i64 s.M.a0,.int .i64 s.M.a1,.int .i64 s.M.a2,.int .i64 s.M.a3,.int .i64 s.M.a4,.int .i64 s.M.a5,.sl 6 s.E.length (eR s.E),.int .i64 s.W]
structure PS.Sm (s:PS):Prop where
 ne:0<s.E.length
 len:s.E.length≤1000000
 W:0≤s.W∧s.W≤1000000000
theorem eR_set {E:List C6} {e b:Nat} (he:e<E.length) (hb:b<6) (x:Int):(fun j=>a2d (j=e) (eR E j) b [.int .i64 x])=eR (E.set e ((E.getD e (C6.all (-3))).set b x)):=by
 funext j
 unfold eR a0e
 by_cases hj:j=e
 ·subst hj
  rw[a0w rfl]
  simp only[a0A,a0G,if_true,he,a2S,a0C]
  rcases six hb with rfl|rfl|rfl|rfl|rfl|rfl<;>rfl
 ·rw[a0t hj]
  simp only[a0A,a0G,if_neg (Ne.symm hj)]
theorem PS.wr_pos {s:PS} {e b:Nat} (h:(s.ep e).get b≠-3):s.wr e b=⟨s.M.set b ((s.ep e).get b),s.E.set e ((s.ep e).set b (-3)),s.W+1⟩:=if_neg h
theorem PS.wr_neg {s:PS} {e b:Nat} (h:(s.ep e).get b=-3):s.wr e b=s:=if_pos h
theorem PS.Sm.wr {s:PS} (h:s.Sm) {e b:Nat} (hW:s.W+1≤1000000000):(s.wr e b).Sm:=by
 unfold PS.wr
 split
 ·exact h
 ·obtain⟨h1,h2,h3⟩:=h
  exact⟨by simpa using h1,by simpa using h2,by dsimp only;omega⟩
theorem PS.wr_len (s:PS) (e b:Nat):(s.wr e b).E.length=s.E.length:=by
 unfold PS.wr
 split<;>simp
theorem PS.wr_W (s:PS) (e b:Nat):s.W≤(s.wr e b).W∧(s.wr e b).W≤s.W+1:=by
 unfold PS.wr
 split
 ·omega
 ·dsimp only;omega
theorem PS.wrB_len (s:PS) (e:Nat):∀b,(s.wrB e b).E.length=s.E.length
 |0=>rfl
 |b+1=>by rw[PS.wrB,PS.wr_len,PS.wrB_len s e b]
theorem PS.wrE_len (s:PS):∀e,(s.wrE e).E.length=s.E.length
 |0=>rfl
 |e+1=>by rw[PS.wrE,PS.wrB_len,PS.wrE_len s e]
theorem PS.wrB_W (s:PS) (e:Nat):∀b:Nat,s.W≤(s.wrB e b).W∧(s.wrB e b).W≤s.W+b
 |0=>by simp[PS.wrB]
 |b+1=>by
  have h1:=PS.wr_W (s.wrB e b) e b
  have h2:=PS.wrB_W s e b
  rw[PS.wrB]
  omega
theorem PS.wrE_W (s:PS):∀e:Nat,s.W≤(s.wrE e).W∧(s.wrE e).W≤s.W+6*e
 |0=>by simp[PS.wrE]
 |e+1=>by
  have h1:=PS.wrB_W (s.wrE e) e 6
  have h2:=PS.wrE_W s e
  rw[PS.wrE]
  omega
open Go Go.Sx
theorem C6.ext_iff' {x y:C6}:x=y↔x.a0=y.a0∧x.a1=y.a1∧x.a2=y.a2∧x.a3=y.a3∧x.a4=y.a4∧x.a5=y.a5:=by
 cases x;cases y;simp
def isN (x:C6):Bool:=decide (x=C6.all (-3))
def isS (x:C6):Bool:=!isN x
theorem isN_iff {x:C6}:isN x=true↔x=C6.all (-3):=by simp[isN]
theorem isS_iff {x:C6}:isS x=true↔x≠C6.all (-3):=by simp[isS,isN]
def idxC (p:C6→Bool) (E:List C6):Int:=match E.findIdx? p with
 |some i=>i
 |none=>-1
theorem idxC_some {p:C6→Bool} {E:List C6} {i:Nat} (h:i<E.length) (hp:p (E.getD i (C6.all (-3)))=true) (hn:∀j,j<i→p (E.getD j (C6.all (-3)))=false):idxC p E=i:=by
 have:E.findIdx? p=some i:=by
  rw[List.findIdx?_eq_some_iff_getElem]
  refine⟨h,by simpa [List.getD_eq_getElem?_getD,h] using hp,fun j hj=>?_⟩
  have:=hn j hj
  simpa [List.getD_eq_getElem?_getD,show j<E.length by omega] using this
 simp[idxC,this]
theorem idxC_none {p:C6→Bool} {E:List C6} (hn:∀j,j<E.length→p (E.getD j (C6.all (-3)))=false):idxC p E=-1:=by
 have:E.findIdx? p=none:=by
  rw[List.findIdx?_eq_none_iff]
  intro x hx
  obtain⟨j,hj,rfl⟩:=List.mem_iff_getElem.1 hx
  have:=hn j hj
  simpa [List.getD_eq_getElem?_getD,hj] using this
 simp[idxC,this]
theorem eR_all {G:List C6} {e:Nat} (he:e<G.length) (x:C6):(fun j=>a2d (j=e) (eR G j) 0 x.c)=eR (G.set e x):=by
 funext j
 unfold eR a0e
 by_cases hj:j=e
 ·subst hj
  rw[a0w rfl]
  simp only[a0A,a0G,if_true,he,a2S,a0C]
  rfl
 ·rw[a0t hj]
  simp only[a0A,a0G,if_neg (Ne.symm hj)]
def a2s (p:C6→Bool) (E:List C6) (m:Nat):List C6:=(E.take m).filter (fun x=>!p x)
theorem leftC_succ {p:C6→Bool} {E:List C6} {j:Nat} (h:j<E.length):a2s p E (j+1)=if p (E.getD j (C6.all (-3)))=true then a2s p E j else a2s p E j++[E.getD j (C6.all (-3))]:=by
 unfold a2s
 rw[a1D h,a3K]
 have:E.getD j (C6.all (-3))=E[j]:=by simp[a0A,h]
 rw[this]
 cases hp:p E[j]<;>simp[hp]
theorem leftC_le (p:C6→Bool) (E:List C6) (m:Nat):(a2s p E m).length≤m:=by
 have h1:=List.length_filter_le (fun x=>!p x) (E.take m)
 have h2:(E.take m).length≤m:=by simp;omega
 unfold a2s
 omega
theorem idxC_spec (p:C6→Bool) (E:List C6):(idxC p E=-1∧∀j,j<E.length→p (E.getD j (C6.all (-3)))=false)∨∃i:Nat,idxC p E=i∧i<E.length∧p (E.getD i (C6.all (-3)))=true∧∀j,j<i→p (E.getD j (C6.all (-3)))=false:=by
 unfold idxC
 cases h:E.findIdx? p with
 |none=>
  refine .inl ⟨rfl,fun j hj=>?_⟩
  rw[List.findIdx?_eq_none_iff] at h
  have:=h E[j] (a0N hj)
  simpa [List.getD_eq_getElem?_getD,hj] using this
 |some i=>
  rw[List.findIdx?_eq_some_iff_getElem] at h
  obtain⟨h1,h2,h3⟩:=h
  refine .inr ⟨i,rfl,h1,by simpa [List.getD_eq_getElem?_getD,h1] using h2,fun j hj=>?_⟩
  have:=h3 j hj
  simpa [List.getD_eq_getElem?_getD,show j<E.length by omega] using this
theorem take_getD {α:Type} {l:List α} {d:α} {m i:Nat} (h:i<m):(l.take m).getD i d=l.getD i d:=by
 simp[a0A,h]
theorem leftC_none {p:C6→Bool} {E:List C6} {m:Nat} (hm:m≤E.length) (h:∀j,j<m→p (E.getD j (C6.all (-3)))=false):a2s p E m=E.take m:=by
 unfold a2s
 rw[a4B]
 intro x hx
 obtain⟨j,hj,rfl⟩:=List.mem_iff_getElem.1 hx
 simp only[a0J] at hj
 have:=h j (by omega)
 simp only[List.getElem_take]
 simpa [List.getD_eq_getElem?_getD,show j<E.length by omega] using this
def clearC (G:List C6) (a b:Nat):List C6:=(List.range G.length).map (fun k=>if a≤k∧k<a+b then C6.all 0 else G.getD k (C6.all (-3)))
theorem clearC_getD {G:List C6} {a b k:Nat} (h:k<G.length):(clearC G a b).getD k (C6.all (-3))=if a≤k∧k<a+b then C6.all 0 else G.getD k (C6.all (-3)):=by
 unfold clearC
 simp[a0A,h]
theorem eR_snoc {F G:List C6} {x:C6} (hg:∀i,i<F.length→G.getD i (C6.all (-3))=F.getD i (C6.all (-3))):∀i,i<F.length+1→appF F.length (eR G) (fun _=>x.c) i=eR (F++[x]) i:=by
 intro i hi
 unfold appF eR a0e
 by_cases h:i<F.length
 ·rw[if_pos h,hg i h]
  simp only[a0A,a0F h]
 ·rw[if_neg h]
  obtain rfl:i=F.length:=by omega
  simp
theorem tidy_E (s:PS):s.tidy.E=a2s isN s.E (s.E.length-1)++[s.ep (s.E.length-1)]:=by
 unfold PS.tidy a2s
 simp only[List.dropLast_eq_take]
 congr 1
 apply List.filter_congr
 intro x _
 simp[isN]
open Go Go.Sx
theorem tidy_len (s:PS):s.tidy.E.length≤s.E.length-1+1∧0<s.tidy.E.length:=by
 have:=leftC_le isN s.E (s.E.length-1)
 rw[tidy_E]
 simp
 omega
theorem PS.Sm.put {s:PS} (h:s.Sm) (b:Nat) (n:Int):(s.put b n).Sm:=⟨by unfold PS.put;simpa using h.ne,by unfold PS.put;simpa using h.len,h.W⟩
open Go Go.Sx
def PS.can (s:PS) (b:Nat):Prop:=0≤idxC isS s.E∧(s.ep (idxC isS s.E).toNat).get b≠-3
instance (s:PS) (b:Nat):Decidable (s.can b):=inferInstanceAs (Decidable (_∧_))
def cntC (x:C6):Nat→Int
 |0=>0
 |b+1=>cntC x b+if x.get b=-3 then 0 else 1
def cntE (E:List C6):Nat→Int
 |0=>0
 |e+1=>cntE E e+cntC (E.getD e (C6.all (-3))) 6
theorem cntC_pos {x:C6} {b:Nat} (h:x.get b≠-3):cntC x (b+1)=cntC x b+1:=by show cntC x b+(if _ then _ else _)=_;rw[if_neg h]
theorem cntC_neg {x:C6} {b:Nat} (h:x.get b=-3):cntC x (b+1)=cntC x b:=by show cntC x b+(if _ then _ else _)=_;rw[if_pos h];omega
theorem cntC_le (x:C6):∀b:Nat,0≤cntC x b∧cntC x b≤b
 |0=>by simp[cntC]
 |b+1=>by have:=cntC_le x b;unfold cntC;split<;>omega
def PS.drain (s:PS) (b:Nat):PS:=(s.wr (idxC isS s.E).toNat b).tidy
open Go Go.Sx
noncomputable def iteI (p:Prop) (a:Int):Int:=@ite _ p (Classical.propDecidable p) a 0
noncomputable def shE (E:List C6) (K:Nat):Nat→Nat→List V
 |0,_=>[]
 |r+1,i=>.int .i64 (iteI (i<K) (E.getD i (C6.all (-3))).a0) :: .int .i64 (iteI (i<K) (E.getD i (C6.all (-3))).a1) :: .int .i64 (iteI (i<K) (E.getD i (C6.all (-3))).a2) ::
   .int .i64 (iteI (i<K) (E.getD i (C6.all (-3))).a3) :: .int .i64 (iteI (i<K) (E.getD i (C6.all (-3))).a4) :: .int .i64 (iteI (i<K) (E.getD i (C6.all (-3))).a5) :: shE E K r (i+1)
noncomputable def shC (s:PS):List V:=.int .i64 s.M.a0 :: .int .i64 s.M.a1 :: .int .i64 s.M.a2 :: .int .i64 s.M.a3 :: .int .i64 s.M.a4 :: .int .i64 s.M.a5 :: .int .i64 s.E.length :: shE s.E (min s.E.length 17) 17 0
open Go Go.Sx
def drV (D:List (Int×Int)):V:=.sl 2 D.length (a0e oC (0,0) D)
structure Trip where
 s:PS
 D:List (Int×Int)
def trC (t:Trip):List V:=[stI t.s,drV t.D]
def trV (t:Trip):V:=.agg [stI t.s,drV t.D]
def Trip.with (t:Trip) (d:Int×Int):Trip:=⟨t.s.drain d.2.toNat,t.D++[d]⟩
theorem sl0_lit {I:Nat→Prop} {w:World} {sz:Nat} {f:Nat→List V} {v:Value} (h:Den I [] w (.sl sz 0 f) v):∃a cap,v=.slice a 0 cap:=by
 rcases h with⟨_,a,cap,rfl⟩|⟨b,o,cap,rfl,_⟩
 ·exact⟨a,cap,rfl⟩
 ·exact⟨_,cap,rfl⟩
open Go Go.Sx
namespace PS
theorem put_len (s:PS) (b:Nat) (n:Int):(s.put b n).E.length=s.E.length:=by simp[put]
def run (l:List (Int×Int)):Nat→PS
 |0=>begin
 |k+1=>(run l k).order k (l.getD k (0,0))
end PS
theorem Cache.chk_ok {x:Cache} (h:x.chk=0):x.Ok:=by
 unfold Cache.chk at h
 split at h
 ·assumption
 ·omega
theorem Cache.Ok.blk {x:Cache} (h:x.Ok) {k:Nat} (hk:k<x.l.length):(x.l.getD k (0,0)).1=1∨(x.l.getD k (0,0)).1=2→0≤(x.l.getD k (0,0)).2∧(x.l.getD k (0,0)).2<6:=by
 have e:x.l.getD k (0,0)=x.l[k]:=by simp[a0A,hk]
 rw[e]
 intro hp
 have h1:=h.ord x.l[k] (a0N hk)
 have h2:=h.n
 unfold Cache.OkO at h1
 omega
open Go Go.Sx
inductive Rch (x:Cache):Nat→PS→List (Int×Int)→Prop
 |begin:Rch x 0 PS.begin []
 |drain {k:Nat} {s:PS} {D:List (Int×Int)} {b:Nat}:Rch x k s D→(b:Int)<x.n→s.can b→Rch x k (s.drain b) (D++[((k:Int),(b:Int))])
 |order {k:Nat} {s:PS} {D:List (Int×Int)}:Rch x k s D→k<x.l.length→Rch x (k+1) (s.order k (x.l.getD k (0,0))) D
noncomputable def shIE (E:List C6) (K:Nat):Nat→Nat→List Int
 |0,_=>[]
 |r+1,i=>iteI (i<K) (E.getD i (C6.all (-3))).a0 :: iteI (i<K) (E.getD i (C6.all (-3))).a1 :: iteI (i<K) (E.getD i (C6.all (-3))).a2 ::
   iteI (i<K) (E.getD i (C6.all (-3))).a3 :: iteI (i<K) (E.getD i (C6.all (-3))).a4 :: iteI (i<K) (E.getD i (C6.all (-3))).a5 :: shIE E K r (i+1)
noncomputable def shI (s:PS):List Int:=s.M.a0 :: s.M.a1 :: s.M.a2 :: s.M.a3 :: s.M.a4 :: s.M.a5 :: (s.E.length:Int) :: shIE s.E (min s.E.length 17) 17 0
def K109:List IntKind:=List.replicate 109 .i64
def shF (f:Nat→Int):List Int:=[f 0,f 1,f 2,f 3,f 4,f 5,f 6,f 7,f 8,f 9,f 10,f 11,f 12,f 13,f 14,f 15,f 16,f 17,f 18,f 19,f 20,f 21,f 22,f 23,f 24,f 25,f 26,f 27,f 28,f 29,f 30,f 31,f 32,f 33,f 34,f 35,f 36,f 37,f 38,f 39,f 40,f 41,f 42,f 43,f 44,f 45,f 46,f 47,f 48,f 49,f 50,f 51,f 52,f 53,f 54,f 55,f 56,f 57,f 58,f 59,f 60,f 61,f 62,f 63,f 64,f 65,f 66,f 67,f 68,f 69,f 70,f 71,f 72,f 73,f 74,f 75,f 76,f 77,f 78,f 79,f 80,f 81,f 82,f 83,f 84,f 85,f 86,f 87,f 88,f 89,f 90,f 91,f 92,f 93,f 94,f 95,f 96,f 97,f 98,f 99,f 100,f 101,f 102,f 103,f 104,f 105,f 106,f 107,f 108]
def shFV (f:Nat→Int):List V:=[.int .i64 (f 0),.int .i64 (f 1),.int .i64 (f 2),.int .i64 (f 3),.int .i64 (f 4),.int .i64 (f 5),.int .i64 (f 6),.int .i64 (f 7),.int .i64 (f 8),.int .i64 (f 9),.int .i64 (f 10),.int .i64 (f 11),.int .i64 (f 12),.int .i64 (f 13),.int .i64 (f 14),.int .i64 (f 15),.int .i64 (f 16),.int .i64 (f 17),.int .i64 (f 18),.int .i64 (f 19),.int .i64 (f 20),.int .i64 (f 21),.int .i64 (f 22),.int .i64 (f 23),.int .i64 (f 24),.int .i64 (f 25),.int .i64 (f 26),.int .i64 (f 27),.int .i64 (f 28),.int .i64 (f 29),.int .i64 (f 30),.int .i64 (f 31),.int .i64 (f 32),.int .i64 (f 33),.int .i64 (f 34),.int .i64 (f 35),.int .i64 (f 36),.int .i64 (f 37),.int .i64 (f 38),.int .i64 (f 39),.int .i64 (f 40),.int .i64 (f 41),.int .i64 (f 42),.int .i64 (f 43),.int .i64 (f 44),.int .i64 (f 45),.int .i64 (f 46),.int .i64 (f 47),.int .i64 (f 48),.int .i64 (f 49),.int .i64 (f 50),.int .i64 (f 51),.int .i64 (f 52),.int .i64 (f 53),.int .i64 (f 54),.int .i64 (f 55),.int .i64 (f 56),.int .i64 (f 57),.int .i64 (f 58),.int .i64 (f 59),.int .i64 (f 60),.int .i64 (f 61),.int .i64 (f 62),.int .i64 (f 63),.int .i64 (f 64),.int .i64 (f 65),.int .i64 (f 66),.int .i64 (f 67),.int .i64 (f 68),.int .i64 (f 69),.int .i64 (f 70),.int .i64 (f 71),.int .i64 (f 72),.int .i64 (f 73),.int .i64 (f 74),.int .i64 (f 75),.int .i64 (f 76),.int .i64 (f 77),.int .i64 (f 78),.int .i64 (f 79),.int .i64 (f 80),.int .i64 (f 81),.int .i64 (f 82),.int .i64 (f 83),.int .i64 (f 84),.int .i64 (f 85),.int .i64 (f 86),.int .i64 (f 87),.int .i64 (f 88),.int .i64 (f 89),.int .i64 (f 90),.int .i64 (f 91),.int .i64 (f 92),.int .i64 (f 93),.int .i64 (f 94),.int .i64 (f 95),.int .i64 (f 96),.int .i64 (f 97),.int .i64 (f 98),.int .i64 (f 99),.int .i64 (f 100),.int .i64 (f 101),.int .i64 (f 102),.int .i64 (f 103),.int .i64 (f 104),.int .i64 (f 105),.int .i64 (f 106),.int .i64 (f 107),.int .i64 (f 108)]
noncomputable def shf (s:PS) (i:Nat):Int:=(shI s).getD i 0
noncomputable def Trip.sh (t:Trip):List Int:=shF (shf t.s)
def Trip.none:Trip:=⟨PS.begin,[]⟩
structure Trip.Good (x:Cache) (k:Nat) (t:Trip):Prop where
 r:Rch x k t.s t.D
 sm:t.s.Sm
 len:t.s.E.length≤17
 W:t.s.W≤1000
 D:t.D.length≤1000
noncomputable def cntV (dom:List Int→Prop) (c:List Int→Int) (k:List Int):Int:=@ite _ (dom k) (Classical.propDecidable _) (c k) 0
noncomputable def cntUp (dom:List Int→Prop) (c:List Int→Int) (k:List Int) (k':List Int):Int:=@ite _ (k'=k) (Classical.propDecidable _) (cntV dom c k+1) (c k')
theorem cntUp_eq (dom:List Int→Prop) (c:List Int→Int) (k k':List Int) (h:a1l dom k k') :
  valPut (valEnt dom (fun k=>[.int .i64 (c k)]) [.int .i64 0]) k [.int .i64 (cntV dom c k+1)] k'=[.int .i64 (cntUp dom c k k')]:=by
 unfold valPut valEnt mrgL cntUp
 by_cases hk:k'=k
 ·subst hk
  simp[pickDL,pickD]
 ·have hd:dom k':=h.resolve_left hk
  simp[pickDL,pickD,hk,hd]
theorem cntV_again (dom:List Int→Prop) (c:List Int→Int) (k:List Int):V.int .i64 (@ite _ (a1l dom k k) (Classical.propDecidable _) (cntV dom c k) 0)=V.int .i64 (cntV dom c k):=by
 rw[if_pos (show a1l dom k k from .inl rfl)]
theorem cnt_new {dom:List Int→Prop} {c:List Int→Int} {k:List Int} (h:∀k,dom k→1≤c k) :
  (@ite _ (a1l dom k k) (Classical.propDecidable _) (@ite _ (k=k) (Classical.propDecidable _) (cntV dom c k+1) (cntV dom c k)) 0=1)↔¬dom k:=by
 rw[if_pos (show a1l dom k k from .inl rfl),if_pos rfl]
 unfold cntV
 split
 ·rename_i hk
  have:=h k hk
  exact⟨fun e=>by omega,fun e=>absurd hk e⟩
 ·rename_i hk
  exact⟨fun _=>hk,fun _=>by omega⟩
theorem cntUp_le {dom:List Int→Prop} {c:List Int→Int} {k:List Int} {n:Nat} (h:∀k,dom k→1≤c k∧c k≤n):∀k',a1l dom k k'→1≤cntUp dom c k k'∧cntUp dom c k k'≤(n+1:Nat):=by
 intro k' hk'
 unfold cntUp cntV
 split
 ·split
  ·rename_i h2;have:=h k h2;omega
  ·omega
 ·rename_i hne
  have:=h k' (hk'.resolve_left hne)
  omega
open Go Go.Sx
noncomputable def shS (s:PS):List Int:=shF (shf s)
structure Closed (x:Cache) (k:Nat) (l l':List Trip):Prop where
 pre:l <+: l'
 good:∀t∈l',t.Good x k
 nd:(l'.map Trip.sh).Nodup
 all:∀t∈l',∀b:Nat,(b:Int)<x.n→t.s.can b→∃t'∈l',t'.sh=shS (t.s.drain b)
structure Closed' (x:Cache) (k:Nat) (l l':List Trip) (i:Nat):Prop where
 pre:l <+: l'
 good:∀t∈l',t.Good x k
 nd:(l'.map Trip.sh).Nodup
 le:i≤l'.length
 all:∀j (h:j<l'.length),j<i→∀b:Nat,(b:Int)<x.n→l'[j].s.can b→∃t'∈l',t'.sh=shS (l'[j].s.drain b)
theorem Closed'.start {x:Cache} {k:Nat} {l:List Trip} (hl:∀t∈l,t.Good x k) (hnd:(l.map Trip.sh).Nodup):Closed' x k l l 0:=
 ⟨List.prefix_rfl,hl,hnd,by omega,fun j _ h=>by omega⟩
theorem seen_snoc {l:List Trip} {i:Nat} (hi:i<l.length) (key:List Int):(key=(l.getD i Trip.none).sh∨∃t∈l.take i,t.sh=key)↔∃t∈l.take (i+1),t.sh=key:=by
 have e:l.getD i Trip.none=l[i]:=by simp[a0A,hi]
 have e2:=a1D hi
 rw[e]
 constructor
 ·rintro(rfl|⟨t,h,rfl⟩)
  ·exact⟨l[i],e2▸List.mem_append_right _ (a1B.2 rfl),rfl⟩
  ·exact⟨t,e2▸a2D _ h,rfl⟩
 ·rintro⟨t,h,rfl⟩
  rw[e2] at h
  rcases a0U.1 h with h|h
  ·exact .inr ⟨t,h,rfl⟩
  ·exact .inl (by rw[a1B.1 h])
structure Inner (x:Cache) (k:Nat) (l l1 l2:List Trip) (i b:Nat):Prop where
 cl:Closed' x k l l2 i
 pre:l1 <+: l2
 lt:i<l2.length
 at':∀b':Nat,b'<b→(b':Int)<x.n→(l2.getD i Trip.none).s.can b'→∃t'∈l2,t'.sh=shS ((l2.getD i Trip.none).s.drain b')
theorem Inner.start {x:Cache} {k:Nat} {l l1:List Trip} {i:Nat} (h:Closed' x k l l1 i) (hi:i<l1.length):Inner x k l l1 l1 i 0:=
 ⟨h,List.prefix_rfl,hi,fun b' hb=>by omega⟩
theorem Inner.skip {x:Cache} {k:Nat} {l l1 l2:List Trip} {i b:Nat} (h:Inner x k l l1 l2 i b) (hc:¬(l2.getD i Trip.none).s.can b):Inner x k l l1 l2 i (b+1):=
 ⟨h.cl,h.pre,h.lt,fun b' hb hn hcan=>by
  rcases a0I (show b'≤b by omega) with h1|rfl
  ·exact h.at' b' h1 hn hcan
  ·exact absurd hcan hc⟩
theorem getD_at {l:List Trip} {i:Nat} (h:i<l.length):l.getD i Trip.none=l[i]:=by simp[a0A,h]
theorem Inner.done {x:Cache} {k:Nat} {l l1 l2:List Trip} {i:Nat} (h:Inner x k l l1 l2 i x.n.toNat) (hx:x.Ok):Closed' x k l l2 (i+1):=
 ⟨h.cl.pre,h.cl.good,h.cl.nd,h.lt,fun j hj hji b hb hcan=>by
  rcases a0I (show j≤i by omega) with h1|rfl
  ·exact h.cl.all j hj h1 b hb hcan
  ·rw[←getD_at hj] at hcan ⊢
   have:=hx.n
   exact h.at' b (by omega) hb hcan⟩
theorem Closed'.end' {x:Cache} {k:Nat} {l l1:List Trip} (h:Closed' x k l l1 l1.length):Closed x k l l1:=
 ⟨h.pre,h.good,h.nd,fun t ht b hb hc=>by
  obtain⟨j,hj,rfl⟩:=a1A ht
  exact h.all j hj hj b hb hc⟩
theorem Inner.old {x:Cache} {k:Nat} {l l1 l2:List Trip} {i b:Nat} (h:Inner x k l l1 l2 i b) (hd:∃t'∈l2,t'.sh=shS ((l2.getD i Trip.none).s.drain b)):Inner x k l l1 l2 i (b+1):=
 ⟨h.cl,h.pre,h.lt,fun b' hb hn hcan=>by
  rcases a0I (show b'≤b by omega) with h1|rfl
  ·exact h.at' b' h1 hn hcan
  ·exact hd⟩
theorem Inner.add {x:Cache} {k:Nat} {l l1 l2:List Trip} {i b:Nat} (h:Inner x k l l1 l2 i b) {t:Trip} (ht:t.Good x k) (hs:t.sh=shS ((l2.getD i Trip.none).s.drain b)) (hn:¬∃t'∈l2,t'.sh=t.sh):Inner x k l l1 (l2++[t]) i (b+1):=by
 have hlt:=h.lt
 have e:(l2++[t]).getD i Trip.none=l2.getD i Trip.none:=by simp only[a0A];rw[a0F hlt]
 refine⟨⟨h.cl.pre.trans (List.prefix_append _ _),fun t' ht'=>?_,?_,by simp;omega,fun j hj hji b' hb' hcan=>?_⟩,h.pre.trans (List.prefix_append _ _),by simp;omega,fun b' hb hn' hcan=>?_⟩
 ·rcases a0U.1 ht' with h1|h1
  ·exact h.cl.good t' h1
  ·rw[a1B.1 h1];exact ht
 ·rw[List.map_append,List.nodup_append]
  refine⟨h.cl.nd,by simp,fun a ha c hc=>?_⟩
  simp only[a3Y,List.map_nil,a1B] at hc
  subst hc
  intro hac
  obtain⟨t',ht',rfl⟩:=a2V.1 ha
  exact hn ⟨t',ht',hac⟩
 ·have hjl:j<l2.length:=by omega
  have e2:(l2++[t])[j]=l2[j]:=List.getElem_append_left hjl
  rw[e2] at hcan ⊢
  obtain⟨t',h1,h2⟩:=h.cl.all j hjl hji b' hb' hcan
  exact⟨t',a2D _ h1,h2⟩
 ·rw[e] at hcan ⊢
  rcases a0I (show b'≤b by omega) with h1|rfl
  ·obtain⟨t',h3,h4⟩:=h.at' b' h1 hn' hcan
   exact⟨t',a2D _ h3,h4⟩
  ·exact⟨t,by simp,hs⟩
theorem dom_snoc {dom:List Int→Prop} {l:List Trip} (h:∀k,dom k↔∃t∈l,t.sh=k) (t:Trip):∀k,a1l dom t.sh k↔∃t'∈l++[t],t'.sh=k:=by
 intro k
 unfold a1l
 rw[h]
 constructor
 ·rintro(rfl|⟨t',h1,rfl⟩)
  ·exact⟨t,by simp,rfl⟩
  ·exact⟨t',a2D _ h1,rfl⟩
 ·rintro⟨t',h1,rfl⟩
  rcases a0U.1 h1 with h1|h1
  ·exact .inr ⟨t',h1,rfl⟩
  ·exact .inl (by rw[a1B.1 h1])
theorem dom_same {dom:List Int→Prop} {l:List Trip} (h:∀k,dom k↔∃t∈l,t.sh=k) {key:List Int} (hk:dom key):∀k,a1l dom key k↔∃t'∈l,t'.sh=k:=by
 intro k
 unfold a1l
 rw[←h]
 exact⟨fun g=>g.elim (fun e=>e▸hk) id,.inr⟩
open Go Go.Sx
structure Img where
 t:Trip
 h:C6
 torn:Bool
def imC (i:Img):List V:=[stI i.t.s,drV i.t.D,.int .i64 i.h.a0,.int .i64 i.h.a1,.int .i64 i.h.a2,.int .i64 i.h.a3,.int .i64 i.h.a4,.int .i64 i.h.a5,.prop (i.torn=true) inferInstance]
def Img.none:Img:=⟨Trip.none,C6.all 0,false⟩
def keyH (h:C6):List Int:=[h.a0,h.a1,h.a2,h.a3,h.a4,h.a5]
def K6:List IntKind:=List.replicate 6 .i64
theorem keyH_inj {a b:C6} (h:keyH a=keyH b):a=b:=by
 cases a;cases b
 simp only[keyH,List.cons.injEq] at h
 simp[h]
open Classical in
noncomputable def addI (L:List Img) (dom:List Int→Prop) (i:Img):List Img:=if dom (keyH i.h) then L else L++[i]
open Go Go.Sx
def PS.same (s s':PS):Prop:=s.M=s'.M∧s.E=s'.E
namespace PS.same
theorem wr {s s':PS} (h:s.same s') (e b:Nat):(s.wr e b).same (s'.wr e b):=by
 obtain⟨M,E,W⟩:=s
 obtain⟨M',E',W'⟩:=s'
 obtain⟨h1,h2⟩:=h
 dsimp only at h1 h2
 subst h1 h2
 unfold PS.wr PS.ep
 dsimp only
 split
 ·exact⟨rfl,rfl⟩
 ·exact⟨rfl,rfl⟩
theorem wrB {s s':PS} (h:s.same s') (e:Nat):∀b,(s.wrB e b).same (s'.wrB e b)
 |0=>h
 |b+1=>(wrB h e b).wr e b
theorem wrE {s s':PS} (h:s.same s'):∀e,(s.wrE e).same (s'.wrE e)
 |0=>h
 |e+1=>(wrE h e).wrB e 6
theorem put {s s':PS} (h:s.same s') (b:Nat) (n:Int):(s.put b n).same (s'.put b n):=by
 obtain⟨h1,h2⟩:=h
 unfold PS.put PS.ep
 rw[h2]
 exact⟨h1,rfl⟩
theorem tidy {s s':PS} (h:s.same s'):s.tidy.same s'.tidy:=by
 obtain⟨h1,h2⟩:=h
 unfold PS.tidy PS.ep
 rw[h2]
 exact⟨h1,rfl⟩
theorem len {s s':PS} (h:s.same s'):s.E.length=s'.E.length:=by rw[h.2]
theorem order {s s':PS} (h:s.same s') (n:Int) (o:Int×Int):(s.order n o).same (s'.order n o):=by
 unfold PS.order
 rw[h.len]
 split
 ·exact(h.put _ _).tidy
 split
 ·exact(((h.put _ _).wrE _).wr _ _).tidy
 split
 ·exact tidy ⟨h.1,by show s.E++_=s'.E++_;rw[h.2]⟩
 split
 ·exact(h.wrE _).tidy
 ·exact h.tidy
theorem can {s s':PS} (h:s.same s') {b:Nat}:s.can b↔s'.can b:=by
 unfold PS.can PS.ep
 rw[h.2]
theorem drain {s s':PS} (h:s.same s') (b:Nat):(s.drain b).same (s'.drain b):=by
 unfold PS.drain
 rw[h.2]
 exact(h.wr _ _).tidy
theorem symm {s s':PS} (h:s.same s'):s'.same s:=⟨h.1.symm,h.2.symm⟩
theorem trans {s s' s'':PS} (h:s.same s') (g:s'.same s''):s.same s'':=⟨h.1.trans g.1,h.2.trans g.2⟩
theorem shS {s s':PS} (h:s.same s'):Go.Proofs.Ca.shS s=Go.Proofs.Ca.shS s':=by
 show shI s=shI s'
 unfold shI
 rw[h.1,h.2]
end PS.same
theorem shIE_inj {E E':List C6} {K:Nat}:∀(r i:Nat),shIE E K r i=shIE E' K r i→∀j,i≤j→j<i+r→j<K→E.getD j (C6.all (-3))=E'.getD j (C6.all (-3))
 |0,i,_,j,h1,h2,_=>by omega
 |r+1,i,h,j,h1,h2,h3=>by
  simp only[shIE,List.cons.injEq] at h
  obtain⟨a0,a1,a2,a3,a4,a5,h⟩:=h
  rcases a0I h1 with h4|rfl
  ·exact shIE_inj r (i+1) h j h4 (by omega) h3
  ·unfold iteI at a0 a1 a2 a3 a4 a5
   rw[if_pos h3,if_pos h3] at a0 a1 a2 a3 a4 a5
   generalize E.getD i (C6.all (-3))=c at *
   generalize E'.getD i (C6.all (-3))=c' at *
   cases c;cases c'
   simp_all
theorem shS_inj {s s':PS} (h1:s.E.length≤17) (h:shS s=shS s'):s.same s':=by
 have h:shI s=shI s':=h
 unfold shI at h
 simp only[List.cons.injEq] at h
 obtain⟨a0,a1,a2,a3,a4,a5,al,h⟩:=h
 have al:s.E.length=s'.E.length:=by omega
 refine⟨?_,?_⟩
 ·obtain⟨M,_,_⟩:=s
  obtain⟨M',_,_⟩:=s'
  cases M;cases M'
  simp_all
 ·rw[←al] at h
  have key:=shIE_inj 17 0 h
  refine a2L al fun j g1 g2=>?_
  have:=key j (a1X _) (by omega) (by omega)
  simpa [List.getD_eq_getElem?_getD,g1,g2] using this
def Cover (x:Cache) (k:Nat) (l:List Trip):Prop:=∀s D,Rch x k s D→∃t∈l,t.s.same s
theorem cover_of {x:Cache} {k:Nat} {l l':List Trip} (hc:Closed x k l l')
  (he:∀s D,Rch x k s D→(k=0∧s=PS.begin)∨(∃k' s' D',k=k'+1∧Rch x k' s' D'∧k'<x.l.length∧s=s'.order k' (x.l.getD k' (0,0)))→∃t∈l,t.s.same s):Cover x k l':=by
 intro s D h
 induction h with
 |begin=>
  obtain⟨t,h1,h2⟩:=he _ _ .begin (.inl ⟨rfl,rfl⟩)
  exact⟨t,hc.pre.subset h1,h2⟩
 |@drain k s D b hr hb hcan ih=>
  obtain⟨t,h1,h2⟩:=ih hc he
  obtain⟨t',h3,h4⟩:=hc.all t h1 b hb (h2.can.2 hcan)
  have hg:=hc.good t' h3
  exact⟨t',h3,(shS_inj hg.len h4).trans (h2.drain b)⟩
 |@order k s D hr hk ih=>
  obtain⟨t,h1,h2⟩:=he _ _ (.order hr hk) (.inr ⟨k,s,D,rfl,hr,hk,rfl⟩)
  exact⟨t,hc.pre.subset h1,h2⟩
open Go Go.Sx
structure NextOk (x:Cache) (k:Nat) (l nx:List Trip) (j:Nat):Prop where
 good:∀t∈nx,t.Good x (k+1)
 nd:(nx.map Trip.sh).Nodup
 all:∀i,i<j→∃t∈nx,t.sh=shS ((l.getD i Trip.none).s.order k (x.l.getD k (0,0)))
structure Entry (x:Cache) (k:Nat) (l:List Trip):Prop where
 good:∀t∈l,t.Good x k
 nd:(l.map Trip.sh).Nodup
 ne:0<l.length
 all:∀l',Closed x k l l'→Cover x k l'
def FitT (f:Nat→List V) (l:List Trip):Prop:=∀i,i<l.length→∀(I:Nat→Prop) (w:World) (vs:List Value),DenL I [] w (f i) vs→DenL I [] w (a0e trC Trip.none l i) vs
theorem FitT.own (l:List Trip):FitT (a0e trC Trip.none l) l:=fun _ _ _ _ _ h=>h
theorem FitT.begin:FitT (fun _=>[stI PS.begin,.lit (.slice none 0 0)]) [⟨PS.begin,[]⟩]:=by
 intro i hi I w vs h
 obtain rfl:i=0:=by simp at hi;omega
 obtain⟨v,r,rfl,h1,v2,r2,rfl,h2,rfl⟩:=h
 exact⟨v,_,rfl,h1,v2,_,rfl,.inl ⟨rfl,none,0,h2⟩,rfl⟩
theorem NextOk.start {x:Cache} {k:Nat} {l:List Trip}:NextOk x k l [] 0:=⟨by simp,by simp,fun i hi=>by omega⟩
theorem NextOk.add {x:Cache} {k:Nat} {l nx:List Trip} {i:Nat} (h:NextOk x k l nx i) {t:Trip} (ht:t.Good x (k+1)) (hs:t.sh=shS ((l.getD i Trip.none).s.order k (x.l.getD k (0,0)))) (hn:¬∃t'∈nx,t'.sh=t.sh):NextOk x k l (nx++[t]) (i+1):=by
 refine⟨fun t' ht'=>?_,?_,fun j hj=>?_⟩
 ·rcases a0U.1 ht' with h1|h1
  ·exact h.good t' h1
  ·rw[a1B.1 h1];exact ht
 ·rw[List.map_append,List.nodup_append]
  refine⟨h.nd,by simp,fun a ha c hc=>?_⟩
  simp only[a3Y,List.map_nil,a1B] at hc
  subst hc
  intro hac
  obtain⟨t',ht',rfl⟩:=a2V.1 ha
  exact hn ⟨t',ht',hac⟩
 ·rcases a0I (show j≤i by omega) with h1|rfl
  ·obtain⟨t',h3,h4⟩:=h.all j h1
   exact⟨t',a2D _ h3,h4⟩
  ·exact⟨t,by simp,hs⟩
theorem NextOk.old {x:Cache} {k:Nat} {l nx:List Trip} {i:Nat} (h:NextOk x k l nx i) (hs:∃t'∈nx,t'.sh=shS ((l.getD i Trip.none).s.order k (x.l.getD k (0,0)))):NextOk x k l nx (i+1):=
 ⟨h.good,h.nd,fun j hj=>by
  rcases a0I (show j≤i by omega) with h1|rfl
  ·exact h.all j h1
  ·exact hs⟩
theorem NextOk.entry {x:Cache} {k:Nat} {l' nx:List Trip} (h:NextOk x k l' nx l'.length) (hk:k<x.l.length) (hpos:0<l'.length) (hcov:Cover x k l'):Entry x (k+1) nx:=by
 refine⟨h.good,h.nd,?_,fun l'' hc=>cover_of hc ?_⟩
 ·obtain⟨t,h1,_⟩:=h.all 0 (by
   have:=hcov
   have hne:0<l'.length:=hpos
   exact hne)
  exact List.length_pos_of_mem h1
 ·rintro s D hr (⟨h0,_⟩|⟨k',s',D',h0,hr',hk',rfl⟩)
  ·omega
  ·obtain rfl:k'=k:=by omega
   obtain⟨t,h1,h2⟩:=hcov s' D' hr'
   obtain⟨i,hi,rfl⟩:=a1A h1
   obtain⟨t2,h3,h4⟩:=h.all i hi
   rw[getD_at hi] at h4
   exact⟨t2,h3,(shS_inj (h.good t2 h3).len h4).trans (h2.order _ _)⟩
def ImgOk (x:Cache) (im:Img):Prop:=
 (im.torn=false∧Rch x x.l.length im.t.s im.t.D∧im.h=im.t.s.M)∨
 (im.torn=true∧∃(s:PS) (D:List (Int×Int)) (b:Nat),Rch x x.l.length s D∧(b:Int)<x.n∧s.can b∧im.h=s.M.set b (-2)∧im.t=⟨s.drain b,D++[((x.l.length:Int),(b:Int))]⟩)
structure ImgsOk (x:Cache) (L:List Img) (dom:List Int→Prop):Prop where
 ok:∀im∈L,ImgOk x im
 dom:∀k,dom k↔∃im∈L,keyH im.h=k
def HasI (x:Cache) (L:List Img) (s:PS) (b:Nat):Prop:=(∃im∈L,im.h=s.M)∧∀b':Nat,b'<b→(b':Int)<x.n→s.can b'→∃im∈L,im.h=s.M.set b' (-2)
def Done (x:Cache) (l:List Trip) (L:List Img) (i:Nat):Prop:=∀j,j<i→HasI x L (l.getD j Trip.none).s 6
theorem ImgsOk.nil (x:Cache):ImgsOk x [] (fun _=>False):=⟨by simp,by simp⟩
theorem Done.zero (x:Cache) (l:List Trip):Done x l [] 0:=fun j hj=>by omega
structure Imgs (x:Cache) (L:List Img):Prop where
 ok:∀im∈L,ImgOk x im
 all:∀s D,Rch x x.l.length s D→HasI x L s 6
 len:L.length≤30064771072
theorem HasI.sub {x:Cache} {L L':List Img} {s:PS} {b:Nat} (h:HasI x L s b) (hs:∀im∈L,im∈L'):HasI x L' s b:=
 ⟨h.1.imp fun _ g=>⟨hs _ g.1,g.2⟩,fun b' h1 h2 h3=>(h.2 b' h1 h2 h3).imp fun _ g=>⟨hs _ g.1,g.2⟩⟩
theorem Done.sub {x:Cache} {l:List Trip} {L L':List Img} {i:Nat} (h:Done x l L i) (hs:∀im∈L,im∈L'):Done x l L' i:=fun j hj=>(h j hj).sub hs
theorem Done.step {x:Cache} {l:List Trip} {L:List Img} {i:Nat} (h:Done x l L i) (hi:HasI x L (l.getD i Trip.none).s 6):Done x l L (i+1):=fun j hj=>by
 rcases a0I (show j≤i by omega) with h1|rfl
 ·exact h j h1
 ·exact hi
theorem HasI.full {x:Cache} {L:List Img} {s:PS} (h:HasI x L s x.n.toNat) (hx:x.Ok):HasI x L s 6:=⟨h.1,fun b' _ h2 h3=>h.2 b' (by have:=hx.n;omega) h2 h3⟩
theorem HasI.skip {x:Cache} {L:List Img} {s:PS} {b:Nat} (h:HasI x L s b) (hc:¬s.can b):HasI x L s (b+1):=⟨h.1,fun b' h1 h2 h3=>by
 rcases a0I (show b'≤b by omega) with h4|rfl
 ·exact h.2 b' h4 h2 h3
 ·exact absurd h3 hc⟩
theorem HasI.add {x:Cache} {L:List Img} {s:PS} {b:Nat} (h:HasI x L s b) (hc:∃im∈L,im.h=s.M.set b (-2)):HasI x L s (b+1):=⟨h.1,fun b' h1 h2 h3=>by
 rcases a0I (show b'≤b by omega) with h4|rfl
 ·exact h.2 b' h4 h2 h3
 ·exact hc⟩
theorem ImgsOk.add {x:Cache} {L:List Img} {dom:List Int→Prop} (h:ImgsOk x L dom) {im:Img} (hi:ImgOk x im) :
  ImgsOk x (addI L dom im) (a1l dom (keyH im.h))∧(∀y∈L,y∈addI L dom im)∧(∃y∈addI L dom im,y.h=im.h)∧(addI L dom im).length≤L.length+1:=by
 unfold addI
 split
 ·rename_i hd
  refine⟨⟨h.ok,fun k=>?_⟩,fun y hy=>hy,?_,by omega⟩
  ·unfold a1l
   rw[←h.dom]
   exact⟨fun g=>g.elim (fun e=>e▸hd) id,.inr⟩
  ·obtain⟨y,h1,h2⟩:=(h.dom _).1 hd
   exact⟨y,h1,keyH_inj h2⟩
 ·refine⟨⟨fun y hy=>?_,fun k=>?_⟩,fun y hy=>a2D _ hy,⟨im,by simp,rfl⟩,by simp⟩
  ·rcases a0U.1 hy with h1|h1
   ·exact h.ok y h1
   ·rw[a1B.1 h1];exact hi
  ·unfold a1l
   rw[h.dom]
   constructor
   ·rintro(rfl|⟨y,h1,rfl⟩)
    ·exact⟨im,by simp,rfl⟩
    ·exact⟨y,a2D _ h1,rfl⟩
   ·rintro⟨y,h1,rfl⟩
    rcases a0U.1 h1 with h1|h1
    ·exact .inr ⟨y,h1,rfl⟩
    ·exact .inl (by rw[a1B.1 h1])
theorem ImgsOk.imgs {x:Cache} {L:List Img} {dom:List Int→Prop} {l:List Trip} (h:ImgsOk x L dom) (hd:Done x l L l.length) (hc:Cover x x.l.length l) (hl:L.length≤30064771072):Imgs x L:=by
 refine⟨h.ok,fun s D hr=>?_,hl⟩
 obtain⟨t,h1,h2⟩:=hc s D hr
 obtain⟨i,hi,rfl⟩:=a1A h1
 have h3:=hd i hi
 rw[getD_at hi] at h3
 obtain⟨h4,h5⟩:=h3
 rw[h2.1] at h4 h5
 exact⟨h4,fun b' g1 g2 g3=>h5 b' g1 g2 (h2.can.2 g3)⟩
open Go Go.Sx
open Go Go.Sx
def intC (n:Int):List V:=[.int .i64 n]
def swapAt:Nat→List Int→List Int
 |0,x :: y :: l=>y :: x :: l
 |k+1,x :: l=>x :: swapAt k l
 |_,l=>l
theorem byteAt_le (s:ByteArray) (i:Nat):0≤byteAt s i∧byteAt s i≤255:=by
 unfold byteAt
 cases s[i]? with
 |none=>simp
 |some b=>
  simp only[a3U,a2S]
  have:=b.toNat_lt
  omega
theorem sorted_unique:∀(m l:List Int),m.Perm l→m.Pairwise (·≤·)→l.Pairwise (·<·)→m=l
 |[],l,h,_,_=>(List.nil_perm.1 h).symm
 |x :: m,[],h,_,_=>absurd h.length_eq (by simp)
 |x :: m,y :: l,h,h1,h2=>by
  have p1:=a3D.1 h1
  have p2:=a3D.1 h2
  have hxy:x=y:=by
   have hx:x∈y :: l:=h.mem_iff.1 a1V
   have hy:y∈x :: m:=h.mem_iff.2 a1V
   rcases a0Z.1 hx with h|hx
   ·exact h
   ·rcases a0Z.1 hy with h|hy
    ·exact h.symm
    ·have:=p1.1 y hy
     have:=p2.1 x hx
     omega
  subst hxy
  rw[sorted_unique m l (List.Perm.cons_inv h) p1.2 p2.2]
open Go Go.Sx
abbrev NO:C6:=C6.all (-3)
namespace C6
def overB (M c:C6):Nat→C6
 |0=>M
 |b+1=>if c.get b=-3 then overB M c b else(overB M c b).set b (c.get b)
def clrB (c:C6):Nat→C6
 |0=>c
 |b+1=>(clrB c b).set b (-3)
theorem clrB_get (c:C6):∀(b j:Nat),b≤6→j<6→(clrB c b).get j=if j<b then -3 else c.get j
 |0,j,_,_=>by simp[clrB]
 |b+1,j,hb,hj=>by
  simp only[clrB]
  rw[get_set (by omega) hj,clrB_get c b j (by omega) hj]
  by_cases h1:j=b
  ·rw[if_pos h1,if_pos (by omega)]
  ·rw[if_neg h1]
   by_cases h2:j<b
   ·rw[if_pos h2,if_pos (by omega)]
   ·rw[if_neg h2,if_neg (by omega)]
theorem clrB_all (c:C6):clrB c 6=NO:=by
 refine ext' fun b hb=>?_
 rw[clrB_get c 6 b (by omega) hb,if_pos hb,get_all hb]
theorem overB_get (M c:C6):∀(b j:Nat),b≤6→j<6→(overB M c b).get j=if j<b∧c.get j≠-3 then c.get j else M.get j
 |0,j,_,_=>by simp[overB]
 |b+1,j,hb,hj=>by
  simp only[overB]
  by_cases h0:c.get b=-3
  ·rw[if_pos h0,overB_get M c b j (by omega) hj]
   by_cases h1:j=b
   ·subst h1;simp[h0]
   ·by_cases h2:j<b
    ·simp[h2,show j<b+1 by omega]
    ·simp[h2,show ¬j<b+1 by omega]
  ·rw[if_neg h0,get_set (by omega) hj,overB_get M c b j (by omega) hj]
   by_cases h1:j=b
   ·subst h1;rw[if_pos rfl,if_pos ⟨by omega,h0⟩]
   ·rw[if_neg h1]
    by_cases h2:j<b
    ·simp[h2,show j<b+1 by omega]
    ·simp[h2,show ¬j<b+1 by omega]
theorem overB_no (M:C6) (b:Nat) (hb:b≤6):overB M NO b=M:=by
 refine ext' fun j hj=>?_
 rw[overB_get M _ b j hb hj,if_neg (fun h=>h.2 (get_all hj))]
theorem set_self {c:C6} {b:Nat} {n:Int} (hb:b<6) (h:c.get b=n):c.set b n=c:=by
 refine ext' fun j hj=>?_
 rw[get_set hb hj]
 split
 ·rename_i h1;rw[h1,h]
 ·rfl
end C6
theorem cntC_no (b:Nat) (hb:b≤6):cntC NO b=0:=by
 induction b with
 |zero=>rfl
 |succ b ih=>rw[cntC_neg (C6.get_all (by omega)),ih (by omega)]
def cntL:List C6→Int
 |[]=>0
 |c :: l=>cntC c 6+cntL l
theorem a2k:∀l m:List C6,cntL (l++m)=cntL l+cntL m
 |[],m=>by simp[cntL]
 |c :: l,m=>by simp only[List.cons_append,cntL,a2k l m];omega
theorem cntL_nonneg:∀l:List C6,0≤cntL l
 |[]=>by simp[cntL]
 |c :: l=>by have:=cntL_nonneg l;have:=cntC_le c 6;simp only[cntL];omega
theorem cntL_filter:∀l:List C6,cntL (l.filter isS)=cntL l
 |[]=>rfl
 |c :: l=>by
  rw[List.filter_cons]
  split
  ·simp only[cntL,cntL_filter l]
  ·rename_i h
   have:c=NO:=a0O.1 (fun hh=>h (isS_iff.2 hh))
   subst this
   simp only[cntL,cntL_filter l,cntC_no 6 (by omega)]
   omega
def apM (M:C6) (l:List C6):C6:=l.foldl (fun M c=>C6.overB M c 6) M
theorem apM_filter (l:List C6):∀M,apM M (l.filter isS)=apM M l:=by
 induction l with
 |nil=>intro M;rfl
 |cons c l ih=>
  intro M
  rw[List.filter_cons]
  split
  ·exact ih _
  ·rename_i h
   have:c=NO:=a0O.1 (fun hh=>h (isS_iff.2 hh))
   subst this
   rw[ih]
   show _=apM (C6.overB M NO 6) l
   rw[C6.overB_no M 6 (by omega)]
namespace PS
theorem wr_at (M:C6) (pre:List C6) (c:C6) (post:List C6) (W:Int) (b:Nat) :
  (⟨M,pre++c :: post,W⟩:PS).wr pre.length b=if c.get b=-3 then⟨M,pre++c :: post,W⟩ else⟨M.set b (c.get b),pre++c.set b (-3) :: post,W+1⟩:=by
 have e:(pre++c :: post).getD pre.length NO=c:=by simp[a0A]
 unfold wr ep
 dsimp only
 rw[e]
 split
 ·rfl
 ·simp
theorem wrB_at (M:C6) (pre:List C6) (c:C6) (post:List C6) (W:Int):∀b:Nat,b≤6→
  (⟨M,pre++c :: post,W⟩:PS).wrB pre.length b=⟨C6.overB M c b,pre++C6.clrB c b :: post,W+cntC c b⟩
 |0,_=>by simp[wrB,C6.overB,C6.clrB,cntC]
 |b+1,hb=>by
  simp only[wrB]
  rw[wrB_at M pre c post W b (by omega),wr_at]
  have hg:(C6.clrB c b).get b=c.get b:=by rw[C6.clrB_get c b b (by omega) (by omega),if_neg (by omega)]
  rw[hg]
  by_cases h:c.get b=-3
  ·rw[if_pos h]
   simp only[C6.overB,C6.clrB,if_pos h,cntC_neg h]
   rw[C6.set_self (by omega) (by rw[hg,h])]
  ·rw[if_neg h]
   simp only[C6.overB,C6.clrB,if_neg h,cntC_pos h]
   congr 1
   omega
theorem wrE_at (_post:List C6):∀(n:Nat) (l:List C6),l.length=n→∀(M:C6) (post:List C6) (W:Int),(⟨M,l++post,W⟩:PS).wrE n=⟨apM M l,List.replicate n NO++post,W+cntL l⟩
 |0,l,hl,M,post,W=>by
  have:l=[]:=List.length_eq_zero_iff.1 hl
  subst this
  simp[wrE,apM,cntL]
 |n+1,l,hl,M,post,W=>by
  obtain⟨l',c,rfl⟩:∃l' c,l=l'++[c]:=by
   have hne:l≠[]:=by intro h;subst h;simp at hl
   exact⟨l.dropLast,l.getLast hne,(List.dropLast_concat_getLast hne).symm⟩
  have hl':l'.length=n:=by simpa using hl
  simp only[wrE]
  rw[a1P,List.singleton_append,wrE_at post n l' hl' M (c :: post) W]
  have hr:(List.replicate n NO).length=n:=List.length_replicate
  have:=wrB_at (apM M l') (List.replicate n NO) c post (W+cntL l') 6 (by omega)
  rw[hr] at this
  rw[this,C6.clrB_all]
  have e1:apM M (l'++[c])=C6.overB (apM M l') c 6:=by simp[apM]
  have e2:List.replicate (n+1) NO++post=List.replicate n NO++NO :: post:=by
   rw[List.replicate_succ']
   simp
  rw[e1,e2,a2k]
  simp only[cntL]
  congr 1
  omega
theorem tidy_at (M:C6) (l:List C6) (z:C6) (W:Int):(⟨M,l++[z],W⟩:PS).tidy=⟨M,l.filter isS++[z],W⟩:=by
 unfold tidy ep
 have e:(l++[z]).getD ((l++[z]).length-1) NO=z:=by simp[a0A]
 dsimp only
 rw[e,List.dropLast_concat]
 congr 2
 apply List.filter_congr
 intro c _
 unfold isS isN
 simp
def orderU (s:PS) (n:Int) (o:Int×Int):PS:=
 if o.1=1 then s.put o.2.toNat n
 else if o.1=2 then((s.put o.2.toNat n).wrE (s.E.length-1)).wr (s.E.length-1) o.2.toNat
 else if o.1=3 then⟨s.M,s.E++[NO],s.W⟩
 else if o.1=4 then s.wrE s.E.length
 else s
def drainU (s:PS) (b:Nat):PS:=s.wr (idxC isS s.E).toNat b
theorem put_at (M:C6) (l:List C6) (z:C6) (W:Int) (b:Nat) (n:Int):(⟨M,l++[z],W⟩:PS).put b n=⟨M,l++[z.set b n],W⟩:=by
 unfold put ep
 have e:(l++[z]).getD ((l++[z]).length-1) NO=z:=by simp[a0A]
 dsimp only
 rw[e]
 congr 1
 simp
theorem force_at (M:C6) (l:List C6) (z:C6) (W:Int) (b:Nat):((⟨M,l++[z],W⟩:PS).wrE l.length).wr l.length b =
  if z.get b=-3 then⟨apM M l,List.replicate l.length NO++[z],W+cntL l⟩ else⟨(apM M l).set b (z.get b),List.replicate l.length NO++[z.set b (-3)],W+cntL l+1⟩:=by
 rw[wrE_at [] l.length l rfl M [z] W]
 have:=wr_at (apM M l) (List.replicate l.length NO) z [] (W+cntL l) b
 rw[List.length_replicate] at this
 exact this
theorem flush_at (M:C6) (l:List C6) (z:C6) (W:Int):(⟨M,l++[z],W⟩:PS).wrE (l.length+1)=⟨apM M (l++[z]),List.replicate l.length NO++[NO],W+cntL (l++[z])⟩:=by
 have:=wrE_at [] (l.length+1) (l++[z]) (by simp) M [] W
 rw[a3V] at this
 rw[this,a3V,List.replicate_succ']
theorem filter_no (n:Nat):(List.replicate n NO).filter isS=[]:=by
 rw[a3O]
 intro c hc
 rw[List.eq_of_mem_replicate hc]
 decide
theorem order_tidy (M:C6) (l:List C6) (z:C6) (W:Int) (n:Int) (o:Int×Int):((⟨M,l++[z],W⟩:PS).orderU n o).tidy=(⟨M,l.filter isS++[z],W⟩:PS).order n o:=by
 have hlen:∀(l:List C6) (z:C6),(l++[z]).length-1=l.length:=by intro l z;simp
 have hlen':∀(l:List C6) (z:C6),(l++[z]).length=l.length+1:=by intro l z;simp
 unfold orderU order
 split
 ·rw[put_at,put_at,tidy_at,tidy_at,List.filter_filter];simp
 split
 ·dsimp only
  rw[hlen,hlen,put_at,put_at,force_at,force_at,apM_filter,cntL_filter]
  split
  ·rw[tidy_at,tidy_at,filter_no,filter_no]
  ·rw[tidy_at,tidy_at,filter_no,filter_no]
 split
 ·have e1:l.filter isS++[z]++[NO]=(l.filter isS++[z])++[NO]:=rfl
  rw[tidy_at,tidy_at,a3K,a3K,List.filter_filter]
  simp
 split
 ·dsimp only
  rw[hlen',hlen',flush_at,flush_at,tidy_at,tidy_at,filter_no,filter_no]
  unfold apM
  rw[a3A,a3A]
  have:=apM_filter l M
  unfold apM at this
  rw[this,a2k,a2k,cntL_filter]
 ·rw[tidy_at,tidy_at,List.filter_filter];simp
theorem nil_or (l:List C6):l=[]∨∃p y,l=p++[y]:=by
 by_cases h:l=[]
 ·exact .inl h
 ·exact .inr ⟨l.dropLast,l.getLast h,(List.dropLast_concat_getLast h).symm⟩
theorem split_last (E:List C6) (h:0<E.length):∃l z,E=l++[z]:=by
 have hne:E≠[]:=by intro e;subst e;simp at h
 exact⟨E.dropLast,E.getLast hne,(List.dropLast_concat_getLast hne).symm⟩
theorem first_at {E:List C6} (h:0≤idxC isS E):∃pre c post,E=pre++c :: post∧(∀x∈pre,x=NO)∧c≠NO∧(idxC isS E).toNat=pre.length:=by
 rcases idxC_spec isS E with⟨h1,_⟩|⟨i,h1,h2,h3,h4⟩
 ·omega
 ·have e:E.getD i (C6.all (-3))=E[i]:=by simp[a0A,h2]
  refine⟨E.take i,E[i],E.drop (i+1),?_,fun x hx=>?_,?_,?_⟩
  ·rw[←a2A h2,a1T]
  ·obtain⟨j,hj,rfl⟩:=a1A hx
   simp only[a0J] at hj
   have:=h4 j (by omega)
   rw[List.getElem_take]
   have e2:E.getD j (C6.all (-3))=E[j]:=by simp[a0A,show j<E.length by omega]
   rw[e2] at this
   exact a0O.1 (fun hn=>by rw[isS_iff.2 hn] at this;cases this)
  ·rw[e] at h3;exact isS_iff.1 h3
  ·rw[h1];simp;omega
theorem idx_at {pre:List C6} {c:C6} {post:List C6} (h1:∀x∈pre,x=NO) (h2:c≠NO):idxC isS (pre++c :: post)=pre.length:=by
 refine idxC_some (by simp) ?_ fun j hj=>?_
 ·have e:(pre++c :: post).getD pre.length NO=c:=by simp[a0A]
  rw[e];exact isS_iff.2 h2
 ·have e:(pre++c :: post).getD j NO=pre[j]:=by simp[a0A,a0F hj,hj]
  rw[e,h1 _ (a0N hj)]
  decide
theorem can_at {M:C6} {pre:List C6} {c:C6} {post:List C6} {W:Int} (h1:∀x∈pre,x=NO) (h2:c≠NO) (b:Nat):(⟨M,pre++c :: post,W⟩:PS).can b↔c.get b≠-3:=by
 unfold can ep
 dsimp only
 rw[idx_at h1 h2]
 have e:(pre++c :: post).getD pre.length NO=c:=by simp[a0A]
 simp only[a0E]
 rw[show(C6.all (-3))=NO from rfl,e]
 exact⟨fun h=>h.2,fun h=>⟨by omega,h⟩⟩
theorem drainU_at {M:C6} {pre:List C6} {c:C6} {post:List C6} {W:Int} (h1:∀x∈pre,x=NO) (h2:c≠NO) {b:Nat} (h3:c.get b≠-3) :
  (⟨M,pre++c :: post,W⟩:PS).drainU b=⟨M.set b (c.get b),pre++c.set b (-3) :: post,W+1⟩:=by
 unfold drainU
 dsimp only
 rw[idx_at h1 h2,a0E,wr_at,if_neg h3]
theorem filter_pre {pre:List C6} (h:∀x∈pre,x=NO):pre.filter isS=[]:=by
 rw[a3O]
 intro c hc
 rw[h c hc]
 decide
theorem can_tidy (s:PS) (h:0<s.E.length) (b:Nat):s.tidy.can b↔s.can b:=by
 obtain⟨M,E,W⟩:=s
 obtain⟨l,z,rfl⟩:=split_last E h
 rw[tidy_at]
 by_cases hz:0≤idxC isS (l++[z])
 ·obtain⟨pre,c,post,e,h1,h2,_⟩:=first_at hz
  rw[show(⟨M,l++[z],W⟩:PS)=⟨M,pre++c :: post,W⟩ by rw[e],can_at h1 h2]
  rcases nil_or post with rfl|⟨post',y,rfl⟩
  ·have e2:=List.append_inj' e rfl
   obtain⟨rfl,e3⟩:=e2
   cases e3
   rw[filter_pre h1]
   exact can_at (pre:=[]) (post:=[]) (by simp) h2 b
  ·have e':l++[z]=(pre++c :: post')++[y]:=by rw[e];simp
   have e2:=List.append_inj' e' rfl
   obtain⟨rfl,e3⟩:=e2
   cases e3
   rw[a3K,filter_pre h1,List.filter_cons_of_pos (isS_iff.2 h2)]
   exact can_at (pre:=[]) (post:=List.filter isS post'++[z]) (by simp) h2 b
 ·have hz':idxC isS (l++[z])=-1:=by
   rcases idxC_spec isS (l++[z]) with⟨h1,_⟩|⟨i,h1,_⟩
   ·exact h1
   ·omega
  have hall:∀x∈l++[z],x=NO:=by
   rcases idxC_spec isS (l++[z]) with⟨_,h2⟩|⟨i,h1,_⟩
   ·intro x hx
    obtain⟨j,hj,rfl⟩:=a1A hx
    have:=h2 j hj
    rw[show(l++[z]).getD j (C6.all (-3))=(l++[z])[j] by rw[a0A,a0C hj];rfl] at this
    exact a0O.1 (fun hn=>by rw[isS_iff.2 hn] at this;cases this)
   ·omega
  have hl:l.filter isS=[]:=filter_pre fun x hx=>hall x (by simp[hx])
  rw[hl]
  have hzn:z=NO:=hall z (by simp)
  have e1:idxC isS ([]++[z])=-1:=by
   subst hzn
   exact idxC_none (fun j hj=>by(have:j=0:=by simp at hj;omega);subst this;decide)
  unfold can
  dsimp only
  rw[e1,hz']
  exact⟨fun h=>absurd h.1 (by omega),fun h=>absurd h.1 (by omega)⟩
theorem drain_tidy (s:PS) (h:0<s.E.length) {b:Nat} (hc:s.can b):(s.drainU b).tidy=s.tidy.drain b:=by
 obtain⟨M,E,W⟩:=s
 obtain⟨l,z,rfl⟩:=split_last E h
 have hz:0≤idxC isS (l++[z]):=hc.1
 obtain⟨pre,c,post,e,h1,h2,_⟩:=first_at hz
 have hcb:c.get b≠-3:=by
  rw[show(⟨M,l++[z],W⟩:PS)=⟨M,pre++c :: post,W⟩ by rw[e],can_at h1 h2] at hc
  exact hc
 rw[tidy_at]
 rw[show(⟨M,l++[z],W⟩:PS)=⟨M,pre++c :: post,W⟩ by rw[e],drainU_at h1 h2 hcb]
 have dr:∀s:PS,s.drain b=(s.drainU b).tidy:=fun _=>rfl
 rw[dr]
 rcases nil_or post with rfl|⟨post',y,rfl⟩
 ·have e2:=List.append_inj' e rfl
  obtain⟨rfl,e3⟩:=e2
  cases e3
  rw[filter_pre h1,drainU_at (pre:=[]) (post:=[]) (by simp) h2 hcb,tidy_at,filter_pre h1]
  have:=tidy_at (M.set b (z.get b)) [] (z.set b (-3)) (W+1)
  exact this.symm
 ·have e':l++[z]=(pre++c :: post')++[y]:=by rw[e];simp
  have e2:=List.append_inj' e' rfl
  obtain⟨rfl,e3⟩:=e2
  cases e3
  rw[a3K,filter_pre h1,List.filter_cons_of_pos (isS_iff.2 h2),a4A]
  have q1:=drainU_at (M:=M) (W:=W) (pre:=[]) (post:=List.filter isS post'++[z]) (by simp) h2 hcb
  rw[show(c :: List.filter isS post')++[z]=[]++c :: (List.filter isS post'++[z]) by simp,q1]
  have q2:=tidy_at (M.set b (c.get b)) (pre++c.set b (-3) :: post') z (W+1)
  have q3:=tidy_at (M.set b (c.get b)) (c.set b (-3) :: List.filter isS post') z (W+1)
  rw[show pre++c.set b (-3) :: (post'++[z])=(pre++c.set b (-3) :: post')++[z] by simp]
  rw[q2,show []++c.set b (-3) :: (List.filter isS post'++[z])=(c.set b (-3) :: List.filter isS post')++[z] by simp,q3]
  rw[a3K,filter_pre h1,a4A,List.filter_cons,List.filter_cons,List.filter_filter]
  simp
end PS
open Go Go.Sx
inductive RchU (x:Cache):Nat→PS→List (Int×Int)→Prop
 |begin:RchU x 0 PS.begin []
 |drain {k:Nat} {u:PS} {D:List (Int×Int)} {b:Nat}:RchU x k u D→(b:Int)<x.n→u.can b→RchU x k (u.drainU b) (D++[((k:Int),(b:Int))])
 |order {k:Nat} {u:PS} {D:List (Int×Int)}:RchU x k u D→k<x.l.length→RchU x (k+1) (u.orderU k (x.l.getD k (0,0))) D
def nb (x:Cache):Nat→Nat
 |0=>0
 |k+1=>nb x k+if(x.l.getD k (0,0)).1=3 then 1 else 0
theorem nb_le (x:Cache):∀k,nb x k≤k
 |0=>by simp[nb]
 |k+1=>by have:=nb_le x k;simp only[nb];split<;>omega
def putQ (x:Cache) (q b:Nat):Prop:=((x.l.getD q (0,0)).1=1∨(x.l.getD q (0,0)).1=2)∧(x.l.getD q (0,0)).2=b
def CP (x:Cache) (K e b:Nat) (v:Int):Prop:=v=-3∨∃q:Nat,q<K∧v=q∧putQ x q b∧nb x q=e
def MP (x:Cache) (K b:Nat) (v:Int):Prop:=v=-1∨∃q:Nat,q<K∧v=q∧putQ x q b
structure InvC (x:Cache) (K:Nat) (u:PS):Prop where
 cell:∀e b,b<6→CP x K e b ((u.ep e).get b)
 med:∀b,b<6→MP x K b (u.M.get b)
theorem InvC.mono {x:Cache} {K K':Nat} {u:PS} (h:InvC x K u) (hk:K≤K'):InvC x K' u:=
 ⟨fun e b hb=>(h.cell e b hb).imp id fun⟨q,h1,h2⟩=>⟨q,by omega,h2⟩,fun b hb=>(h.med b hb).imp id fun⟨q,h1,h2⟩=>⟨q,by omega,h2⟩⟩
theorem ep_set {E:List C6} {e e':Nat} {c:C6}:(E.set e c).getD e' NO=if e'=e∧e<E.length then c else E.getD e' NO:=by
 simp only[a0A,a0G]
 by_cases h:e=e'
 ·subst h
  by_cases h2:e<E.length
  ·simp[h2]
  ·simp[h2]
 ·rw[if_neg h,if_neg (fun g=>h g.1.symm)]
theorem InvC.wr {x:Cache} {K:Nat} {u:PS} (h:InvC x K u) (e b:Nat) (hb:b<6):InvC x K (u.wr e b):=by
 by_cases hc:(u.ep e).get b=-3
 ·rw[PS.wr_neg hc];exact h
 ·rw[PS.wr_pos hc]
  refine⟨fun e' b' hb'=>?_,fun b' hb'=>?_⟩
  ·show CP x K e' b' (((u.E.set e _).getD e' NO).get b')
   rw[ep_set]
   split
   ·rename_i he
    rw[C6.get_set hb hb']
    split
    ·exact .inl rfl
    ·rw[he.1]
     exact h.cell e b' hb'
   ·exact h.cell e' b' hb'
  ·show MP x K b' ((u.M.set b _).get b')
   rw[C6.get_set hb hb']
   split
   ·rename_i hbb
    subst hbb
    rcases h.cell e b' hb with h1|⟨q,h1,h2,h3,_⟩
    ·exact absurd h1 hc
    ·exact .inr ⟨q,h1,h2,h3⟩
   ·exact h.med b' hb'
theorem InvC.wrB {x:Cache} {K:Nat} {u:PS} (h:InvC x K u) (e:Nat):∀b,b≤6→InvC x K (u.wrB e b)
 |0,_=>h
 |b+1,hb=>(InvC.wrB h e b (by omega)).wr e b (by omega)
theorem InvC.wrE {x:Cache} {K:Nat} {u:PS} (h:InvC x K u):∀e,InvC x K (u.wrE e)
 |0=>h
 |e+1=>(InvC.wrE h e).wrB e 6 (by omega)
theorem InvC.put {x:Cache} {k:Nat} {u:PS} (h:InvC x k u) (hl:u.E.length=nb x k+1) {b:Nat} (hb:b<6) (hp:putQ x k b):InvC x (k+1) (u.put b k):=by
 have h:=h.mono (Nat.le_succ k)
 refine⟨fun e' b' hb'=>?_,h.med⟩
 show CP x (k+1) e' b' (((u.E.set (u.E.length-1) _).getD e' NO).get b')
 rw[ep_set]
 split
 ·rename_i he
  rw[C6.get_set hb hb']
  split
  ·rename_i hbb
   subst hbb
   exact .inr ⟨k,by omega,rfl,hp,by omega⟩
  ·rw[he.1]
   exact h.cell _ b' hb'
 ·exact h.cell e' b' hb'
def oneE (n:Int):Int:=if n=-3 then 0 else 1
theorem one_le (n:Int):0≤oneE n∧oneE n≤1:=by unfold oneE;split<;>omega
theorem one_no:oneE (-3)=0:=rfl
theorem one_pos {n:Int} (h:n≠-3):oneE n=1:=if_neg h
theorem cntC_succ (c:C6) (b:Nat):cntC c (b+1)=cntC c b+oneE (c.get b):=rfl
theorem cntC_set0 {c:C6} {b:Nat} (hb:b<6) (n:Int):∀j,j≤b→cntC (c.set b n) j=cntC c j
 |0,_=>rfl
 |j+1,hj=>by rw[cntC_succ,cntC_succ,cntC_set0 hb n j (by omega),C6.get_set hb (by omega),if_neg (by omega)]
theorem cntC_set {c:C6} {b:Nat} (hb:b<6) (n:Int):∀j,b<j→j≤6→cntC (c.set b n) j=cntC c j+oneE n-oneE (c.get b)
 |0,h,_=>by omega
 |j+1,h,hj=>by
  rw[cntC_succ,cntC_succ,C6.get_set hb (by omega)]
  by_cases h1:j=b
  ·subst h1
   rw[if_pos rfl,cntC_set0 hb n j (by omega)]
   omega
  ·rw[if_neg h1,cntC_set hb n j (by omega) (by omega)]
   omega
theorem cntL_set {E:List C6} {e:Nat} (he:e<E.length) (c:C6):cntL (E.set e c)=cntL E+cntC c 6-cntC (E.getD e NO) 6:=by
 have h1:E=E.take e++E[e] :: E.drop (e+1):=by rw[←a2A he,a1T]
 have h2:E.set e c=E.take e++c :: E.drop (e+1):=by rw[List.set_eq_take_append_cons_drop,if_pos he]
 have h3:E.getD e NO=E[e]:=by simp[a0A,he]
 rw[h2,h3]
 have h4:=congrArg cntL h1
 rw[a2k] at h4 ⊢
 simp only[cntL] at h4 ⊢
 omega
theorem cntL_set' {E:List C6} {e:Nat} (he:e<E.length) (c:C6):cntL (E.set e c)=cntL E+cntC c 6-cntC (E.getD e (C6.all (-3))) 6:=cntL_set he c
def PS.tot (u:PS):Int:=u.W+cntL u.E
theorem PS.tot_wr (u:PS) (e b:Nat) (hb:b<6):(u.wr e b).tot=u.tot:=by
 by_cases hc:(u.ep e).get b=-3
 ·rw[PS.wr_neg hc]
 ·rw[PS.wr_pos hc]
  have he:e<u.E.length:=by
   refine a0Q fun hn=>hc ?_
   unfold PS.ep
   rw[a0A,a0V (by omega)]
   exact C6.get_all hb
  unfold PS.tot
  dsimp only
  rw[cntL_set' he,cntC_set hb _ 6 hb (by omega)]
  unfold PS.ep at hc ⊢
  rw[one_no,one_pos hc]
  omega
theorem PS.tot_wrB (u:PS) (e:Nat):∀b,b≤6→(u.wrB e b).tot=u.tot
 |0,_=>rfl
 |b+1,hb=>by simp only[PS.wrB];rw[PS.tot_wr _ _ _ (by omega),PS.tot_wrB u e b (by omega)]
theorem PS.tot_wrE (u:PS):∀e,(u.wrE e).tot=u.tot
 |0=>rfl
 |e+1=>by simp only[PS.wrE];rw[PS.tot_wrB _ _ _ (by omega),PS.tot_wrE u e]
theorem PS.tot_put (u:PS) (h:0<u.E.length) (b:Nat) (hb:b<6) (n:Int):u.tot≤(u.put b n).tot+1∧(u.put b n).tot≤u.tot+1:=by
 unfold PS.tot PS.put
 dsimp only
 rw[cntL_set' (by omega),cntC_set hb _ 6 hb (by omega)]
 unfold PS.ep
 have h1:=one_le n
 have h2:=one_le ((u.E.getD (u.E.length-1) (C6.all (-3))).get b)
 omega
structure InvU (x:Cache) (k:Nat) (u:PS) (D:List (Int×Int)):Prop where
 inv:InvC x k u
 len:u.E.length=nb x k+1
 tot:u.tot≤k
 D:(D.length:Int)≤u.W
theorem PS.orderU_len (u:PS) (n:Int) (o:Int×Int):(u.orderU n o).E.length=u.E.length+if o.1=3 then 1 else 0:=by
 unfold PS.orderU
 split
 ·rename_i h;rw[PS.put_len,if_neg (by omega)];rfl
 split
 ·rename_i h;rw[PS.wr_len,PS.wrE_len,PS.put_len,if_neg (by omega)];rfl
 split
 ·rename_i h;simp
 split
 ·rw[PS.wrE_len];rfl
 ·rfl
theorem PS.wr_Wle (u:PS) (e b:Nat):u.W≤(u.wr e b).W:=(PS.wr_W u e b).1
theorem RchU.inv {x:Cache} (hx:x.Ok) {k:Nat} {u:PS} {D:List (Int×Int)} (h:RchU x k u D):InvU x k u D:=by
 induction h with
 |begin=>
  refine⟨⟨fun e b hb=>.inl ?_,fun b hb=>.inl (C6.get_all hb)⟩,rfl,by decide,by decide⟩
  unfold PS.ep PS.begin
  cases e with
  |zero=>exact C6.get_all hb
  |succ e=>exact C6.get_all hb
 |@drain k u D b hr hb hcan ih=>
  have hb6:b<6:=by have:=hx.n;omega
  refine⟨ih.inv.wr _ _ hb6,by unfold PS.drainU;rw[PS.wr_len];exact ih.len,by unfold PS.drainU;rw[PS.tot_wr _ _ _ hb6];exact ih.tot,?_⟩
  have hW:(u.drainU b).W=u.W+1:=by unfold PS.drainU;rw[PS.wr_pos hcan.2]
  have:=ih.D
  rw[hW]
  simp
  omega
 |@order k u D hr hk ih=>
  have hblk:=hx.blk hk
  have hlen:(u.orderU k (x.l.getD k (0,0))).E.length=nb x (k+1)+1:=by rw[PS.orderU_len,ih.len];simp only[nb];omega
  have hpos:0<u.E.length:=by rw[ih.len];omega
  have ho:(x.l.getD k (0,0)).1=1∨(x.l.getD k (0,0)).1=2→putQ x k (x.l.getD k (0,0)).2.toNat:=fun g=>⟨g,by have:=hblk g;omega⟩
  have hWt:=ih.tot
  have hD:=ih.D
  refine⟨?_,hlen,?_,?_⟩
  ·unfold PS.orderU
   split
   ·rename_i h1;exact ih.inv.put ih.len (by have:=hblk (.inl h1);omega) (ho (.inl h1))
   split
   ·rename_i h1
    have hb6:(x.l.getD k (0,0)).2.toNat<6:=by have:=hblk (.inr h1);omega
    exact((ih.inv.put ih.len hb6 (ho (.inr h1))).wrE _).wr _ _ hb6
   split
   ·have:=ih.inv.mono (Nat.le_succ k)
    refine⟨fun e b hb=>?_,this.med⟩
    show CP x (k+1) e b (((u.E++[NO]).getD e NO).get b)
    rcases a1N e u.E.length with g|g
    ·have e1:(u.E++[NO]).getD e NO=u.E.getD e NO:=by simp only[a0A,a0F g]
     rw[e1]
     exact this.cell e b hb
    ·left
     have e1:(u.E++[NO]).getD e NO=NO:=by
      simp only[a0A,a0S g]
      cases e-u.E.length<;>simp
     rw[e1]
     exact C6.get_all hb
   split
   ·exact(ih.inv.mono (Nat.le_succ k)).wrE _
   ·exact ih.inv.mono (Nat.le_succ k)
  ·unfold PS.orderU
   split
   ·rename_i h1
    have:=(PS.tot_put u hpos (x.l.getD k (0,0)).2.toNat (by have:=hblk (.inl h1);omega) k).2
    omega
   split
   ·rename_i h1
    have hb6:(x.l.getD k (0,0)).2.toNat<6:=by have:=hblk (.inr h1);omega
    rw[PS.tot_wr _ _ _ hb6,PS.tot_wrE]
    have:=(PS.tot_put u hpos (x.l.getD k (0,0)).2.toNat hb6 k).2
    omega
   split
   ·show u.W+cntL (u.E++[NO])≤_
    rw[a2k]
    simp only[cntL,cntC_no 6 (by omega)]
    unfold PS.tot at hWt
    omega
   split
   ·rw[PS.tot_wrE];omega
   ·omega
  ·refine a3Z hD ?_
   unfold PS.orderU
   split
   ·exact a1Q _
   split
   ·exact a3Z (PS.wrE_W (u.put (x.l.getD k (0,0)).2.toNat k) (u.E.length-1)).1 (PS.wr_Wle _ _ _)
   split
   ·exact a1Q _
   split
   ·exact(PS.wrE_W u u.E.length).1
   ·exact a1Q _
theorem begin_tidy:PS.begin.tidy=PS.begin:=PS.tidy_at (C6.all (-1)) [] NO 0
theorem PS.orderU_tidy (u:PS) (h:0<u.E.length) (n:Int) (o:Int×Int):(u.orderU n o).tidy=u.tidy.order n o:=by
 obtain⟨M,E,W⟩:=u
 obtain⟨l,z,rfl⟩:=PS.split_last E h
 rw[PS.order_tidy,PS.tidy_at]
theorem rch_u {x:Cache} (hx:x.Ok) {k:Nat} {s:PS} {D:List (Int×Int)} (h:Rch x k s D):∃u,RchU x k u D∧s=u.tidy:=by
 induction h with
 |begin=>exact⟨_,.begin,begin_tidy.symm⟩
 |@drain k s D b hr hb hcan ih=>
  obtain⟨u,h1,rfl⟩:=ih
  have hl:0<u.E.length:=by rw[(h1.inv hx).len];omega
  have hc:=(PS.can_tidy u hl b).1 hcan
  exact⟨_,.drain h1 hb hc,(PS.drain_tidy u hl hc).symm⟩
 |@order k s D hr hk ih=>
  obtain⟨u,h1,rfl⟩:=ih
  have hl:0<u.E.length:=by rw[(h1.inv hx).len];omega
  exact⟨_,.order h1 hk,(PS.orderU_tidy u hl _ _).symm⟩
theorem u_rch {x:Cache} (hx:x.Ok) {k:Nat} {u:PS} {D:List (Int×Int)} (h:RchU x k u D):Rch x k u.tidy D:=by
 induction h with
 |begin=>rw[begin_tidy];exact .begin
 |@drain k u D b hr hb hcan ih=>
  have hl:0<u.E.length:=by rw[(hr.inv hx).len];omega
  rw[PS.drain_tidy u hl hcan]
  exact .drain ih hb ((PS.can_tidy u hl b).2 hcan)
 |@order k u D hr hk ih=>
  have hl:0<u.E.length:=by rw[(hr.inv hx).len];omega
  rw[PS.orderU_tidy u hl]
  exact .order ih hk
theorem RchU.le {x:Cache} {k:Nat} {u:PS} {D:List (Int×Int)} (h:RchU x k u D):k≤x.l.length:=by
 induction h with
 |begin=>omega
 |drain _ _ _ ih=>exact ih
 |order _ hk _=>omega
theorem rch_good {x:Cache} (hx:x.Ok) (k:Nat) (s:PS) (D:List (Int×Int)) (h:Rch x k s D):(⟨s,D⟩:Trip).Good x k:=by
 obtain⟨u,h1,rfl⟩:=rch_u hx h
 have hi:=h1.inv hx
 have hk:=h1.le
 have h16:=hx.len
 have ht:=PS.tot_wrE u 0
 have hl:=tidy_len u
 have hnb:=nb_le x k
 have hle:=hi.len
 have htot:=hi.tot
 have hD:=hi.D
 unfold PS.tot at htot
 have hcn:=cntL_nonneg u.E
 refine⟨h,⟨hl.2,by dsimp only;omega,?_⟩,by dsimp only;omega,?_,by dsimp only;omega⟩
 ·show 0≤u.W∧u.W≤_;omega
 ·show u.W≤_;omega
open Go Go.Sx
def bitQ (x:Cache) (u:PS) (q:Nat):Nat:=if(u.ep (nb x q)).get (x.l.getD q (0,0)).2.toNat=q then 1 else 0
open Classical in
noncomputable def uOf (x:Cache) (k:Nat) (t:Trip):PS:=if h:∃u,RchU x k u t.D∧t.s=u.tidy then h.choose else PS.begin
theorem uOf_spec {x:Cache} (hx:x.Ok) {k:Nat} {t:Trip} (h:t.Good x k):RchU x k (uOf x k t) t.D∧t.s=(uOf x k t).tidy:=by
 have he:∃u,RchU x k u t.D∧t.s=u.tidy:=rch_u hx h.r
 unfold uOf
 rw[dif_pos he]
 exact he.choose_spec
open Go Go.Sx
structure Cache.Small (x:Cache):Prop where
 ok:x.Ok
 n:x.n≤3
 l:x.l.length≤7
def PosI (x:Cache) (h:C6):Prop:=∃im,ImgOk x im∧im.h=h
theorem Imgs.pos {x:Cache} (hx:x.Ok) {L:List Img} (h:Imgs x L) (c:C6):(∃im∈L,im.h=c)↔PosI x c:=by
 constructor
 ·rintro⟨im,h1,rfl⟩
  exact⟨im,h.ok im h1,rfl⟩
 ·rintro⟨im,h1,rfl⟩
  rcases h1 with⟨_,h2,h3⟩|⟨_,s,D,b,h2,h3,h4,h5,_⟩
  ·rw[h3];exact(h.all _ _ h2).1
  ·rw[h5];exact(h.all _ _ h2).2 b (by have:=hx.n;omega) h3 h4
def PosV (x:Cache) (b:Nat) (n:Int):Prop:=∃c,PosI x c∧c.get b=n
open Go Go.Sx
def okAt (x:Cache) (b:Nat) (n:Int):Prop:=n=-1∨n=-2∨(0≤n∧n≤x.l.length-1)∧((x.l.getD n.toNat (0,0)).1=1∨(x.l.getD n.toNat (0,0)).1=2)∧(x.l.getD n.toNat (0,0)).2=b
def IsImg (x:Cache) (l:List Int):Prop:=(l.length:Int)=x.n∧∀b,b<l.length→okAt x b (l.getD b 0)
def Eqs (c:C6) (l:List Int):Prop:=∀b,b<l.length→c.get b=l.getD b 0
def zI:V:=.agg [.lit (.pointer none),.lit (.slice none 0 0),.int .i64 0,.int .i64 0,.int .i64 0,.int .i64 0,.int .i64 0,.int .i64 0,.prop False inferInstance]
inductive Found (x:Cache) (l:List Int):V→Prop
 |chk:x.chk≠0→Found x l (.tup [zI,.kb false,.int .i64 x.chk])
 |img:x.chk=0→¬IsImg x l→Found x l (.tup [zI,.kb false,.int .i64 81])
 |none:x.chk=0→IsImg x l→(¬∃c,PosI x c∧Eqs c l)→Found x l (.tup [zI,.kb false,.int .i64 0])
 |some (im:Img):x.chk=0→IsImg x l→ImgOk x im→Eqs im.h l→Found x l (.tup [.agg (imC im),.kb true,.int .i64 0])
open Go Go.Sx
def IsPos (x:Cache) (l:List Int):Prop:=∃c,PosI x c∧Eqs c l
inductive PosR (x:Cache) (l:List Int):V→Prop
 |chk:x.chk≠0→PosR x l (.tup [.prop False inferInstance,.int .i64 x.chk])
 |img:x.chk=0→¬IsImg x l→PosR x l (.tup [.prop False inferInstance,.int .i64 81])
 |pos:x.chk=0→IsImg x l→PosR x l (.tup [.prop (IsPos x l) (Classical.propDecidable _),.int .i64 0])
theorem ImgOk.pos {x:Cache} {im:Img} (h:ImgOk x im):PosI x im.h:=⟨im,h,rfl⟩
inductive ShowR (x:Cache) (l:List Int):V→Prop
 |chk:x.chk≠0→ShowR x l (.tup [.lit (.slice none 0 0),.prop False inferInstance,.int .i64 x.chk])
 |img:x.chk=0→¬IsImg x l→ShowR x l (.tup [.lit (.slice none 0 0),.prop False inferInstance,.int .i64 81])
 |no:x.chk=0→IsImg x l→¬IsPos x l→ShowR x l (.tup [.lit (.slice none 0 0),.prop False inferInstance,.int .i64 3])
 |yes (im:Img):x.chk=0→IsImg x l→ImgOk x im→Eqs im.h l→ShowR x l (.tup [drV im.t.D,.prop (im.torn=true) inferInstance,.int .i64 0])
open Go Go.Sx
open Go Go.Sx
open Go Go.Sx
namespace PS
theorem ep_lt {u:PS} {e b:Nat} (hb:b<6) (h:(u.ep e).get b≠-3):e<u.E.length:=by
 refine a0Q fun hn=>h ?_
 unfold PS.ep
 rw[a0A,a0V (by omega)]
 exact C6.get_all hb
theorem ep_ne {u:PS} {e b:Nat} (hb:b<6) (h:(u.ep e).get b≠-3):u.ep e≠NO:=by
 intro h2
 rw[h2] at h
 exact h (C6.get_all hb)
theorem wr_ep (u:PS) {e b:Nat} (h:(u.ep e).get b≠-3) (hb:b<6) (e':Nat):(u.wr e b).ep e'=if e'=e then(u.ep e).set b (-3) else u.ep e':=by
 have hl:=ep_lt hb h
 rw[wr_pos h]
 show(u.E.set e _).getD e' NO=_
 rw[ep_set]
 by_cases h2:e'=e
 ·rw[if_pos ⟨h2,hl⟩,if_pos h2]
 ·rw[if_neg (fun g=>h2 g.1),if_neg h2];rfl
theorem wr_other (u:PS) (e b:Nat) (hb:b<6) {e':Nat} (h:e'≠e):(u.wr e b).ep e'=u.ep e':=by
 by_cases hc:(u.ep e).get b=-3
 ·rw[wr_neg hc]
 ·rw[wr_ep u hc hb,if_neg h]
theorem idx_of {u:PS} {e b:Nat} (hb:b<6) (h:(u.ep e).get b≠-3) (h2:∀e',e'<e→u.ep e'=NO):idxC isS u.E=e:=by
 refine idxC_some (ep_lt hb h) (isS_iff.2 (ep_ne hb h)) fun j hj=>?_
 have:=h2 j hj
 unfold PS.ep at this
 rw[this]
 decide
theorem can_of {u:PS} {e b:Nat} (hb:b<6) (h:(u.ep e).get b≠-3) (h2:∀e',e'<e→u.ep e'=NO):u.can b:=by
 unfold can
 rw[idx_of hb h h2,a0E]
 exact⟨by omega,h⟩
theorem drain_spec {u:PS} {b:Nat} (hb:b<6) (h:u.can b):∃e,(u.ep e).get b≠-3∧(∀e',e'<e→u.ep e'=NO)∧(u.drainU b).M=u.M.set b ((u.ep e).get b)∧
  ∀e',(u.drainU b).ep e'=if e'=e then(u.ep e).set b (-3) else u.ep e':=by
 refine⟨(idxC isS u.E).toNat,h.2,fun e' he=>?_,?_,fun e'=>wr_ep u h.2 hb e'⟩
 ·obtain⟨pre,c,post,e,h1,h2,h3⟩:=first_at h.1
  rw[h3] at he
  have e2:u.ep e'=pre[e']:=by unfold ep;rw[e];simp[List.getD_eq_getElem?_getD,List.getElem?_append_left he,he]
  rw[e2,h1 _ (a0N he)]
 ·unfold drainU
  rw[wr_pos h.2]
end PS
inductive Dr:PS→PS→Prop
 |refl (u:PS):Dr u u
 |step {u v:PS} {b:Nat}:Dr u v→b<6→v.can b→Dr u (v.drainU b)
theorem Dr.trans {u v w:PS} (h:Dr u v) (h2:Dr v w):Dr u w:=by
 induction h2 with
 |refl=>exact h
 |step _ hb hc ih=>exact ih.step hb hc
theorem Dr.wr {u:PS} {e b:Nat} (hb:b<6) (h2:∀e',e'<e→u.ep e'=NO):Dr u (u.wr e b):=by
 by_cases hc:(u.ep e).get b=-3
 ·rw[PS.wr_neg hc];exact .refl _
 ·have h3:=Dr.step (.refl u) hb (PS.can_of hb hc h2)
  have h4:u.drainU b=u.wr e b:=by unfold PS.drainU;rw[PS.idx_of hb hc h2,Int.toNat_natCast]
  rwa [h4] at h3
theorem Dr.wrB {u:PS} {e:Nat} (h2:∀e',e'<e→u.ep e'=NO):∀b,b≤6→Dr u (u.wrB e b)∧∀e',e'<e→(u.wrB e b).ep e'=NO
 |0,_=>⟨.refl _,h2⟩
 |b+1,hb=>by
  obtain⟨h3,h4⟩:=Dr.wrB h2 b (by omega)
  exact⟨h3.trans (Dr.wr (by omega) h4),fun e' he=>by rw[show u.wrB e (b+1)=(u.wrB e b).wr e b from rfl,PS.wr_other _ _ _ (by omega) (by omega)];exact h4 e' he⟩
theorem wrE_no (u:PS) (n:Nat) (hn:n≤u.E.length) {e:Nat} (he:e<n):(u.wrE n).ep e=NO:=by
 obtain⟨M,E,W⟩:=u
 have h:=PS.wrE_at [] n (E.take n) (by rw[a0J];exact Nat.min_eq_left hn) M (E.drop n) W
 rw[a1T] at h
 rw[h]
 unfold PS.ep
 simp[a0A,a0F,he]
theorem Dr.wrE (u:PS):∀n,n≤u.E.length→Dr u (u.wrE n)
 |0,_=>.refl _
 |n+1,hn=>(Dr.wrE u n (by omega)).trans (Dr.wrB (fun _ he=>wrE_no u n (by omega) he) 6 (by omega)).1
def PS.base (s:PS) (n:Int) (o:Int×Int):PS:=
 if o.1=1∨o.1=2 then s.put o.2.toNat n else if o.1=3 then⟨s.M,s.E++[NO],s.W⟩ else s
theorem Dr.order (u:PS) (h:0<u.E.length) (n:Int) (o:Int×Int) (ho:o.1=2→o.2.toNat<6):Dr (u.base n o) (u.orderU n o):=by
 unfold PS.base PS.orderU
 by_cases h1:o.1=1
 ·rw[if_pos (.inl h1),if_pos h1];exact .refl _
 by_cases h2:o.1=2
 ·rw[if_pos (.inr h2),if_neg h1,if_pos h2]
  have hl:=PS.put_len u o.2.toNat n
  exact(Dr.wrE _ _ (by omega)).trans (Dr.wr (ho h2) fun e he=>wrE_no _ _ (by omega) he)
 rw[if_neg (by omega),if_neg h1,if_neg h2]
 by_cases h3:o.1=3
 ·rw[if_pos h3,if_pos h3];exact .refl _
 rw[if_neg h3,if_neg h3]
 split
 ·exact Dr.wrE _ _ (by omega)
 ·exact .refl _
theorem nb_mono (x:Cache) {i j:Nat} (h:i≤j):nb x i≤nb x j:=by
 induction h with
 |refl=>omega
 |step _ ih=>simp only[nb];omega
structure InvB (x:Cache) (k j:Nat) (u:PS):Prop where
 ord:∀b,b<6→∀q:Nat,u.M.get b=q→∀e,e<nb x q→u.ep e=NO
 lt:∀e b,b<6→(u.ep e).get b≠-3→u.M.get b<(u.ep e).get b
 kept:∀q:Nat,q<k→∀b,b<6→putQ x q b→(q:Int)≤u.M.get b∨(q:Int)≤(u.ep (nb x q)).get b
 fl:∀i:Nat,i<j→(x.l.getD i (0,0)).1=4→∀q:Nat,q<i→∀b,b<6→putQ x q b→(q:Int)≤u.M.get b
 fo:∀i:Nat,i<j→(x.l.getD i (0,0)).1=2→∀b,b<6→putQ x i b→(i:Int)≤u.M.get b
theorem InvB.drain {x:Cache} {k j:Nat} {u:PS} (hi:InvC x k u) (h:InvB x k j u) {b:Nat} (hb:b<6) (hc:u.can b):InvB x k j (u.drainU b):=by
 obtain⟨e,h1,h2,h3,h4⟩:=PS.drain_spec hb hc
 obtain⟨q0,hq0,hv,hp,hn⟩:=(hi.cell e b hb).resolve_left h1
 have hlt:=h.lt e b hb h1
 have hle:∀b',b'<6→u.M.get b'≤(u.drainU b).M.get b':=by
  intro b' hb'
  rw[h3,C6.get_set hb hb']
  split
  ·rename_i g;subst g;omega
  ·exact a1Q _
 refine⟨fun b' hb' q hq e' he'=>?_,fun e' b' hb' hne=>?_,fun q hq b' hb' hpq=>?_,fun i h5 h6 q hq b' hb' hpq=>a3Z (h.fl i h5 h6 q hq b' hb' hpq) (hle b' hb'),fun i h5 h6 b' hb' hpq=>a3Z (h.fo i h5 h6 b' hb' hpq) (hle b' hb')⟩
 ·rw[h3,C6.get_set hb hb'] at hq
  rw[h4]
  by_cases hbb:b'=b
  ·rw[if_pos hbb,hv] at hq
   have:q=q0:=by omega
   subst this
   rw[if_neg (by omega)]
   exact h2 e' (by omega)
  ·rw[if_neg hbb] at hq
   have h5:=h.ord b' hb' q hq
   have h6:¬e<nb x q:=fun g=>PS.ep_ne hb h1 (h5 e g)
   rw[if_neg (by omega)]
   exact h5 e' he'
 ·rw[h4] at hne ⊢
  rw[h3,C6.get_set hb hb']
  by_cases he:e'=e
  ·subst he
   rw[if_pos rfl,C6.get_set hb hb'] at hne ⊢
   by_cases hbb:b'=b
   ·rw[if_pos hbb] at hne;exact absurd rfl hne
   ·rw[if_neg hbb] at hne
    rw[if_neg hbb,if_neg hbb]
    exact h.lt e' b' hb' hne
  ·rw[if_neg he] at hne ⊢
   by_cases hbb:b'=b
   ·subst hbb
    rw[if_pos rfl]
    obtain⟨q',hq',hv',_,hn'⟩:=(hi.cell e' b' hb').resolve_left hne
    have h6:¬e'<e:=fun g=>PS.ep_ne hb' hne (h2 e' g)
    have h7:¬q'≤q0:=fun g=>by have:=nb_mono x g;omega
    omega
   ·rw[if_neg hbb]
    exact h.lt e' b' hb' hne
 ·rcases h.kept q hq b' hb' hpq with g|g
  ·exact .inl (a3Z g (hle b' hb'))
  ·by_cases hbb:nb x q=e∧b'=b
   ·obtain⟨g1,g2⟩:=hbb
    subst g2
    left
    rw[h3,C6.get_set hb hb',if_pos rfl]
    rw[g1] at g
    exact g
   ·right
    rw[h4]
    split
    ·rename_i g1
     rw[C6.get_set hb hb',if_neg (fun g2=>hbb ⟨g1,g2⟩)]
     rw[g1] at g
     exact g
    ·exact g
theorem InvB.drS {x:Cache} {k j:Nat} {u v:PS} (h:Dr u v) (hi:InvC x k u) (hb:InvB x k j u):InvC x k v∧InvB x k j v:=by
 induction h with
 |refl=>exact⟨hi,hb⟩
 |step _ hb6 hc ih=>exact⟨ih.1.wr _ _ hb6,InvB.drain ih.1 ih.2 hb6 hc⟩
theorem InvB.base {x:Cache} (hx:x.Ok) {k:Nat} {u:PS} (hk:k<x.l.length) (hl:u.E.length=nb x k+1) (hi:InvC x k u) (h:InvB x k k u) :
  InvC x (k+1) (u.base k (x.l.getD k (0,0)))∧InvB x (k+1) k (u.base k (x.l.getD k (0,0))):=by
 have hblk:=hx.blk hk
 unfold PS.base
 split
 ·rename_i hkd
  obtain⟨hb0,hb1⟩:=hblk hkd
  have hput:putQ x k (x.l.getD k (0,0)).2.toNat:=⟨hkd,by omega⟩
  have hu:∀b',putQ x k b'→b'=(x.l.getD k (0,0)).2.toNat:=fun b' g=>by have:=g.2;omega
  have hb:(x.l.getD k (0,0)).2.toNat<6:=by omega
  generalize (x.l.getD k (0,0)).2.toNat=b at *
  have hep:∀e',(u.put b k).ep e'=if e'=nb x k then(u.ep (nb x k)).set b k else u.ep e':=by
   intro e'
   show(u.E.set (u.E.length-1) ((u.E.getD (u.E.length-1) NO).set b k)).getD e' NO=_
   rw[ep_set,show u.E.length-1=nb x k by omega]
   by_cases g:e'=nb x k
   ·rw[if_pos ⟨g,by omega⟩,if_pos g];rfl
   ·rw[if_neg (fun g2=>g g2.1),if_neg g];rfl
  refine⟨hi.put hl hb hput,fun b' hb' q hq e he=>?_,fun e' b' hb' hne=>?_,fun q hq b' hb' hpq=>?_,h.fl,h.fo⟩
  ·have hq:u.M.get b'=q:=hq
   have hqk:q<k:=by rcases hi.med b' hb' with g|⟨q',g1,g2,_⟩<;>omega
   have:=nb_mono x (show q≤k by omega)
   rw[hep,if_neg (by omega)]
   exact h.ord b' hb' q hq e he
  ·show u.M.get b'<_
   rw[hep] at hne ⊢
   split at hne
   ·rename_i g
    rw[if_pos g]
    rw[C6.get_set hb hb'] at hne ⊢
    split at hne
    ·rename_i g2
     rw[if_pos g2]
     rcases hi.med b' hb' with g|⟨q',g1,g2,_⟩<;>omega
    ·rename_i g2
     rw[if_neg g2]
     exact h.lt _ b' hb' hne
   ·rename_i g
    rw[if_neg g]
    exact h.lt _ b' hb' hne
  ·rcases a0I (show q≤k by omega) with g|rfl
   ·rcases h.kept q g b' hb' hpq with g2|g2
    ·exact .inl g2
    ·right
     rw[hep]
     split
     ·rename_i g3
      rw[C6.get_set hb hb']
      rw[g3] at g2
      split
      ·omega
      ·exact g2
     ·exact g2
   ·right
    rw[hep,if_pos rfl,C6.get_set hb hb',if_pos (hu b' hpq)]
    omega
 ·rename_i hkd
  have hnp:∀b,¬putQ x k b:=fun b g=>hkd g.1
  have key:InvC x (k+1) u∧InvB x (k+1) k u:=by
   refine⟨hi.mono (Nat.le_succ k),h.ord,h.lt,fun q hq b hb hpq=>?_,h.fl,h.fo⟩
   rcases a0I (show q≤k by omega) with g|rfl
   ·exact h.kept q g b hb hpq
   ·exact absurd hpq (hnp b)
  split
  ·have he:∀e,(⟨u.M,u.E++[NO],u.W⟩:PS).ep e=u.ep e:=by
    intro e
    show(u.E++[NO]).getD e NO=u.E.getD e NO
    rcases a1N e u.E.length with g|g
    ·simp only[a0A,a0F g]
    ·simp only[a0A,a0S g,a0V g]
     cases e-u.E.length<;>simp
   obtain⟨a1,a2⟩:=key
   refine⟨⟨fun e b hb=>by rw[he];exact a1.cell e b hb,a1.med⟩,fun b hb q hq e he'=>by rw[he];exact a2.ord b hb q hq e he',fun e b hb hne=>by rw[he] at hne ⊢;exact a2.lt e b hb hne,fun q hq b hb hpq=>by rw[he];exact a2.kept q hq b hb hpq,a2.fl,a2.fo⟩
  ·exact key
theorem order4_no (u:PS) (n:Int) (o:Int×Int) (h:o.1=4) (e:Nat):(u.orderU n o).ep e=NO:=by
 unfold PS.orderU
 rw[if_neg (by omega),if_neg (by omega),if_neg (by omega),if_pos h]
 by_cases he:e<u.E.length
 ·exact wrE_no u _ (a0K _) he
 ·have hl:=PS.wrE_len u u.E.length
  unfold PS.ep
  rw[a0A,a0V (by omega)]
  rfl
theorem order2_M (u:PS) (hl:0<u.E.length) (n:Int) (hn:0≤n) (o:Int×Int) (h:o.1=2) (hb:o.2.toNat<6):(u.orderU n o).M.get o.2.toNat=n:=by
 unfold PS.orderU
 rw[if_neg (by omega),if_pos h]
 obtain⟨M,E,W⟩:=u
 obtain⟨l,z,rfl⟩:=PS.split_last E hl
 dsimp only
 rw[show(l++[z]).length-1=l.length by simp,PS.put_at,PS.force_at]
 have e:(z.set o.2.toNat n).get o.2.toNat=n:=by rw[C6.get_set hb hb,if_pos rfl]
 rw[e,if_neg (by omega)]
 show((apM M l).set _ _).get _=_
 rw[C6.get_set hb hb,if_pos rfl]
theorem RchU.invB {x:Cache} (hx:x.Ok) {k:Nat} {u:PS} {D:List (Int×Int)} (h:RchU x k u D):InvB x k k u:=by
 induction h with
 |begin=>
  have he:∀e,PS.begin.ep e=NO:=fun e=>by
   cases e with
   |zero=>rfl
   |succ e=>rfl
  refine⟨fun b hb q hq=>?_,fun e b hb hne=>?_,fun q hq=>absurd hq (by omega),fun q hq=>absurd hq (by omega),fun q hq=>absurd hq (by omega)⟩
  ·have:PS.begin.M.get b=-1:=C6.get_all hb
   omega
  ·rw[he] at hne
   exact absurd (C6.get_all hb) hne
 |@drain k u D b hr hb hcan ih=>
  exact ih.drain (hr.inv hx).inv (by have:=hx.n;omega) hcan
 |@order k u D hr hk ih=>
  have hI:=hr.inv hx
  have hl:0<u.E.length:=by rw[hI.len];omega
  have hblk:=hx.blk hk
  obtain⟨b1,b2⟩:=InvB.base hx hk hI.len hI.inv ih
  obtain⟨c1,c2⟩:=InvB.drS (Dr.order u hl k (x.l.getD k (0,0)) (fun g=>by have:=hblk (.inr g);omega)) b1 b2
  refine⟨c2.ord,c2.lt,c2.kept,fun i hi h4 q hq b hb hp=>?_,fun i hi h4 b hb hp=>?_⟩
  ·rcases a0I (show i≤k by omega) with g|rfl
   ·exact c2.fl i g h4 q hq b hb hp
   ·refine(c2.kept q (by omega) b hb hp).resolve_right fun g=>?_
    rw[order4_no u _ _ h4,C6.get_all hb] at g
    omega
  ·rcases a0I (show i≤k by omega) with g|rfl
   ·exact c2.fo i g h4 b hb hp
   ·have h5:=hblk (.inr h4)
    have h6:=order2_M u hl i (by omega) (x.l.getD i (0,0)) h4 (by omega)
    have:b=(x.l.getD i (0,0)).2.toNat:=by have:=hp.2;omega
    subst this
    rw[h6]
    exact a1Q _
theorem RchU.barrier {x:Cache} (hx:x.Ok) {k:Nat} {u:PS} {D:List (Int×Int)} (h:RchU x k u D) {i:Nat} (hi:i<k)
  (hb:(x.l.getD i (0,0)).1=3∧(∃b,b<6∧(i:Int)<u.M.get b)∨(x.l.getD i (0,0)).1=4) {q:Nat} (hq:q<i) {b:Nat} (hb6:b<6) (hp:putQ x q b):(q:Int)≤u.M.get b:=by
 have hB:=h.invB hx
 rcases hb with⟨h3,b0,h4,h5⟩|h4
 ·refine(hB.kept q (by omega) b hb6 hp).resolve_right fun g=>?_
  rcases(h.inv hx).inv.med b0 h4 with h6|⟨q0,_,h6,_⟩
  ·omega
  ·have h7:=nb_mono x (show i+1≤q0 by omega)
   have h8:=nb_mono x (show q≤i by omega)
   have h9:nb x (i+1)=nb x i+1:=by simp only[nb];rw[if_pos h3]
   have:=hB.ord b0 h4 q0 h6 (nb x q) (by omega)
   rw[this,C6.get_all hb6] at g
   omega
 ·exact hB.fl i hi h4 q hq b hb6 hp
open Go Go.Sx
open Go Go.Sx
def newP (l:List (Int×Int)):Nat→Nat→Int
 |0,_=>-1
 |k+1,b=>if((l.getD k (0,0)).1=1∨(l.getD k (0,0)).1=2)∧(l.getD k (0,0)).2.toNat=b then k else newP l k b
theorem newP_succ (l:List (Int×Int)) (k b:Nat):newP l (k+1) b=if((l.getD k (0,0)).1=1∨(l.getD k (0,0)).1=2)∧(l.getD k (0,0)).2.toNat=b then(k:Int) else newP l k b:=rfl
open Go Go.Sx
open Go Go.Sx
namespace PS
end PS
open Go Go.Sx
theorem PosI.u {x:Cache} (hx:x.Ok) {h:C6} (hp:PosI x h):∃u D,RchU x x.l.length u D∧(h=u.M∨∃b:Nat,(b:Int)<x.n∧u.can b∧h=u.M.set b (-2)):=by
 obtain⟨im,h1,rfl⟩:=hp
 rcases h1 with⟨_,h2,h3⟩|⟨_,s,D,b,h2,h3,h4,h5,_⟩
 ·obtain⟨u,g1,g2⟩:=rch_u hx h2
  exact⟨u,_,g1,.inl (by rw[h3,g2];rfl)⟩
 ·obtain⟨u,g1,g2⟩:=rch_u hx h2
  subst g2
  have hl:0<u.E.length:=by rw[(g1.inv hx).len];omega
  exact⟨u,D,g1,.inr ⟨b,h3,(PS.can_tidy u hl b).1 h4,h5⟩⟩
theorem MP.ge {x:Cache} {K b:Nat} {v:Int} (h:MP x K b v):-1≤v:=by rcases h with h|⟨q,_,h,_⟩<;>omega
theorem PosI.torn {x:Cache} (hx:x.Ok) {h:C6} (hp:PosI x h):(∀b,b<6→h.get b≠-2)∨∃b0:Nat,(b0:Int)<x.n∧∀b,b<6→(h.get b=-2↔b=b0):=by
 obtain⟨u,D,h1,rfl|⟨b0,h2,h3,rfl⟩⟩:=hp.u hx
 ·exact .inl fun b hb=>by have:=((h1.inv hx).inv.med b hb).ge;omega
 ·have hb0:b0<6:=by have:=hx.n;omega
  refine .inr ⟨b0,h2,fun b hb=>?_⟩
  rw[C6.get_set hb0 hb]
  split
  ·rename_i g;exact⟨fun _=>g,fun _=>rfl⟩
  ·rename_i g
   have:=((h1.inv hx).inv.med b hb).ge
   exact⟨fun g2=>by omega,fun g2=>absurd g2 g⟩
open Go Go.Sx
open Go Go.Sx
open Go Go.Sx
open Go Go.Sx
open Go Go.Sx
open Go Go.Sx
open Go Go.Sx
structure Sim (n:Nat) (r:RS) (u:PS):Prop where
 len:r.E.length=u.E.length
 W:r.W=u.W
 M:∀b,b<n→r.M b=u.M.get b
 ep:∀e b,b<n→r.ep e b=rI ((u.ep e).get b)
 hi:∀e b,n≤b→b<6→(u.ep e).get b=-3
 nn:∀e b,b<6→(u.ep e).get b=-3∨0≤(u.ep e).get b
theorem rI_no:rI (-3)=-1:=rfl
theorem rI_some {v:Int} (h:v≠-3):rI v=v:=if_neg h
namespace Sim
variable {n:Nat} {r:RS} {u:PS}
theorem none_iff (h:Sim n r u) {e b:Nat} (hb:b<n) (hn:n≤6):r.ep e b=-1↔(u.ep e).get b=-3:=by
 rw[h.ep e b hb]
 rcases h.nn e b (by omega) with g|g
 ·rw[g,rI_no];simp
 ·rw[rI_some (by omega)];omega
theorem wr (h:Sim n r u) (hn:n≤6) {e b:Nat} (hb:b<n):Sim n (r.wr e b) (u.wr e b):=by
 have hb6:b<6:=by omega
 by_cases hc:(u.ep e).get b=-3
 ·rw[PS.wr_neg hc,RS.wr_neg ((h.none_iff hb hn).2 hc)]
  exact h
 ·have hr:r.ep e b≠-1:=fun g=>hc ((h.none_iff hb hn).1 g)
  have hl:=PS.ep_lt hb6 hc
  have hep:=PS.wr_ep u hc hb6
  have hrep:=RS.ep_wr (s:=r) (e:=e) (b:=b) (by rw[h.len];exact hl)
  have hv:r.ep e b=(u.ep e).get b:=by rw[h.ep e b hb,rI_some hc]
  rw[PS.wr_pos hc] at hep ⊢
  rw[RS.wr_pos hr]
  refine⟨by simp[h.len],by show r.W+1=u.W+1;rw[h.W],fun b' hb'=>?_,fun e' b' hb'=>?_,fun e' b' h1 h2=>?_,fun e' b' hb'=>?_⟩
  ·show(if b'=b then r.ep e b else r.M b')=(u.M.set b _).get b'
   rw[C6.get_set hb6 (by omega),hv,h.M b' hb']
  ·rw[hrep,hep]
   by_cases g:e'=e
   ·subst g
    rw[if_pos rfl,C6.get_set hb6 (by omega)]
    by_cases g2:b'=b
    ·rw[if_pos ⟨rfl,g2⟩,if_pos g2,rI_no]
    ·rw[if_neg (fun k=>g2 k.2),if_neg g2];exact h.ep e' b' hb'
   ·rw[if_neg (fun k=>g k.1),if_neg g];exact h.ep e' b' hb'
  ·rw[hep]
   split
   ·rw[C6.get_set hb6 h2,if_neg (by omega)];exact h.hi e b' h1 h2
   ·exact h.hi e' b' h1 h2
  ·rw[hep]
   split
   ·rw[C6.get_set hb6 hb']
    split
    ·exact .inl rfl
    ·exact h.nn e b' hb'
   ·exact h.nn e' b' hb'
theorem wrB (h:Sim n r u) (hn:n≤6) (e:Nat):∀b,b≤n→Sim n (r.wrB e b) (u.wrB e b)
 |0,_=>h
 |b+1,hb=>(wrB h hn e b (by omega)).wr hn (by omega)
theorem wrB_hi (h:Sim n r u) (hn:n≤6) (e:Nat):∀m,n+m≤6→u.wrB e (n+m)=u.wrB e n
 |0,_=>rfl
 |m+1,hm=>by
  have ih:=wrB_hi h hn e m (by omega)
  show(u.wrB e (n+m)).wr e (n+m)=_
  rw[ih]
  exact PS.wr_neg ((wrB h hn e n (a0K n)).hi e (n+m) (by omega) (by omega))
theorem wrB6 (h:Sim n r u) (hn:n≤6) (e:Nat):Sim n (r.wrB e n) (u.wrB e 6):=by
 have:=wrB_hi h hn e (6-n) (by omega)
 rw[show n+(6-n)=6 by omega] at this
 rw[this]
 exact wrB h hn e n (a0K n)
theorem wrE (h:Sim n r u) (hn:n≤6):∀e,Sim n (r.wrE n e) (u.wrE e)
 |0=>h
 |e+1=>(wrE h hn e).wrB6 hn e
theorem put (h:Sim n r u) (hn:n≤6) (hl:0<u.E.length) {b:Nat} (hb:b<n) {k:Int} (hk:0≤k):Sim n (r.setE (r.E.length-1) b k) (u.put b k):=by
 have hrep:=RS.ep_setE (s:=r) (e:=r.E.length-1) (b:=b) (v:=k) (by rw[h.len];omega)
 have hep:∀e',(u.put b k).ep e'=if e'=u.E.length-1 then(u.ep (u.E.length-1)).set b k else u.ep e':=by
  intro e'
  show(u.E.set (u.E.length-1) ((u.E.getD (u.E.length-1) NO).set b k)).getD e' NO=_
  rw[Go.Proofs.Ca.ep_set]
  by_cases g:e'=u.E.length-1
  ·rw[if_pos ⟨g,by omega⟩,if_pos g];rfl
  ·rw[if_neg (fun g2=>g g2.1),if_neg g];rfl
 refine⟨by show(r.E.set _ _).length=(u.E.set _ _).length;simp[h.len],h.W,h.M,fun e' b' hb'=>?_,fun e' b' h1 h2=>?_,fun e' b' hb'=>?_⟩
 ·rw[hrep,hep,h.len]
  by_cases g:e'=u.E.length-1
  ·rw[if_pos g,C6.get_set (by omega) (by omega)]
   by_cases g2:b'=b
   ·rw[if_pos ⟨g,g2⟩,if_pos g2,rI_some (by omega)]
   ·rw[if_neg (fun k=>g2 k.2),if_neg g2,←g];exact h.ep e' b' hb'
  ·rw[if_neg (fun k=>g k.1),if_neg g];exact h.ep e' b' hb'
 ·rw[hep]
  split
  ·rw[C6.get_set (by omega) h2,if_neg (by omega)];exact h.hi _ b' h1 h2
  ·exact h.hi e' b' h1 h2
 ·rw[hep]
  split
  ·rw[C6.get_set (by omega) hb']
   split
   ·exact .inr hk
   ·exact h.nn _ b' hb'
  ·exact h.nn e' b' hb'
theorem order (h:Sim n r u) (hn:n≤6) (hl:0<u.E.length) {k:Int} (hk:0≤k) {o:Int×Int} (ho:o.1=1∨o.1=2→0≤o.2∧o.2<n):Sim n (r.order n k o) (u.orderU k o):=by
 unfold RS.order PS.orderU
 by_cases h1:o.1=1
 ·rw[if_pos h1,if_pos h1]
  have:=ho (.inl h1)
  exact h.put hn hl (by omega) hk
 rw[if_neg h1,if_neg h1]
 by_cases h2:o.1=2
 ·rw[if_pos h2,if_pos h2]
  have:=ho (.inr h2)
  have h3:=h.put hn hl (show o.2.toNat<n by omega) hk
  have e:r.E.length=u.E.length:=h.len
  rw[e] at h3 ⊢
  exact(h3.wrE hn (u.E.length-1)).wr hn (by omega)
 rw[if_neg h2,if_neg h2]
 by_cases h3:o.1=3
 ·rw[if_pos h3,if_pos h3]
  have he:∀e,(⟨u.M,u.E++[NO],u.W⟩:PS).ep e=u.ep e:=by
   intro e
   show(u.E++[NO]).getD e NO=u.E.getD e NO
   rcases a1N e u.E.length with g|g
   ·simp only[a0A,a0F g]
   ·simp only[a0A,a0S g,a0V g]
    cases e-u.E.length<;>simp
  refine⟨by simp[h.len],h.W,h.M,fun e b hb=>?_,fun e b h1 h2=>by rw[he];exact h.hi e b h1 h2,fun e b hb=>by rw[he];exact h.nn e b hb⟩
  rw[RS.ep_snoc,he]
  split
  ·exact h.ep e b hb
  ·rename_i g
   have:u.ep e=NO:=by unfold PS.ep;rw[List.getD_eq_getElem?_getD,List.getElem?_eq_none (by have:=h.len;omega)];rfl
   rw[this,C6.get_all (by omega),rI_no]
 rw[if_neg h3,if_neg h3]
 by_cases h4:o.1=4
 ·rw[if_pos h4,if_pos h4]
  have e:r.E.length=u.E.length:=h.len
  rw[e]
  exact h.wrE hn _
 ·rw[if_neg h4,if_neg h4]
  exact h
theorem noRow_iff (h:Sim n r u) (hn:n≤6) (e:Nat):noRow n (r.ep e)↔u.ep e=NO:=by
 constructor
 ·intro g
  refine C6.ext' fun b hb=>?_
  rw[C6.get_all hb]
  by_cases hbn:b<n
  ·exact(h.none_iff hbn hn).1 (g b hbn)
  ·exact h.hi e b (by omega) hb
 ·intro g b hb
  rw[h.none_iff hb hn,g]
  exact C6.get_all (by omega)
theorem first (h:Sim n r u) (hn:n≤6) {e:Nat}:RS.IsFirst n r e→idxC isS u.E=e:=by
 rintro⟨h1,h2,h3⟩
 refine idxC_some (by rw[←h.len];exact h1) (isS_iff.2 fun g=>h2 ((h.noRow_iff hn e).2 g)) fun j hj=>?_
 have:=(h.noRow_iff hn j).1 (h3 j hj)
 unfold PS.ep at this
 rw[this]
 decide
theorem can_iff (h:Sim n r u) (hn:n≤6) {e b:Nat} (he:RS.IsFirst n r e) (hb:b<n):u.can b↔r.ep e b≠-1:=by
 have h1:=h.first hn he
 unfold PS.can
 rw[h1,a0E]
 exact⟨fun g k=>g.2 ((h.none_iff hb hn).1 k),fun g=>⟨by omega,fun k=>g ((h.none_iff hb hn).2 k)⟩⟩
theorem drain (h:Sim n r u) (hn:n≤6) {e b:Nat} (he:RS.IsFirst n r e) (hb:b<n):Sim n (r.wr e b) (u.drainU b):=by
 have h1:=h.first hn he
 unfold PS.drainU
 rw[h1,a0E]
 exact h.wr hn hb
theorem cnt (h:Sim n r u) (hn:n≤6) (e:Nat):cntF (r.ep e) n=cntC (u.ep e) 6:=by
 have h1:∀b,b≤n→cntF (r.ep e) b=cntC (u.ep e) b:=by
  intro b
  induction b with
  |zero=>intro _;rfl
  |succ b ih=>
   intro hb
   show cntF (r.ep e) b+(if _ then _ else _)=cntC (u.ep e) b+(if _ then _ else _)
   rw[ih (by omega)]
   by_cases g:(u.ep e).get b=-3
   ·rw[if_pos ((h.none_iff (by omega) hn).2 g),if_pos g]
   ·rw[if_neg (fun k=>g ((h.none_iff (by omega) hn).1 k)),if_neg g]
 have h2:∀m,n+m≤6→cntC (u.ep e) (n+m)=cntC (u.ep e) n:=by
  intro m
  induction m with
  |zero=>intro _;rfl
  |succ m ih=>
   intro hm
   rw[show n+(m+1)=n+m+1 by omega,cntC_neg (h.hi e (n+m) (by omega) (by omega)),ih (by omega)]
 rw[h1 n (a0K n)]
 have:=h2 (6-n) (by omega)
 rw[show n+(6-n)=6 by omega] at this
 exact this.symm
end Sim
theorem cntE_take (E:List C6):∀k,k≤E.length→cntE E k=cntL (E.take k)
 |0,_=>by simp[cntE,cntL]
 |k+1,hk=>by
  have e:E.getD k NO=E[k]:=by simp[a0A,show k<E.length by omega]
  rw[a1D (by omega),a2k]
  show cntE E k+cntC (E.getD k NO) 6=_
  rw[cntE_take E k (by omega),e]
  simp[cntL]
theorem cntE_all (E:List C6):cntE E E.length=cntL E:=by rw[cntE_take E _ (a0K _),a2M]
theorem Sim.begin {n:Nat} (hn:n≤6):Sim n RS.begin PS.begin:=by
 have he:∀e,PS.begin.ep e=NO:=fun e=>by
  cases e with
  |zero=>rfl
  |succ e=>rfl
 refine⟨rfl,rfl,fun b hb=>(C6.get_all (by omega)).symm,fun e b hb=>?_,fun e b _ hb=>by rw[he];exact C6.get_all hb,fun e b hb=>.inl (by rw[he];exact C6.get_all hb)⟩
 rw[he,C6.get_all (by omega),rI_no]
 unfold RS.begin RS.ep
 cases e with
 |zero=>rfl
 |succ e=>rfl
def runU (l:List (Int×Int)):Nat→PS
 |0=>PS.begin
 |k+1=>(runU l k).orderU k (l.getD k (0,0))
theorem runU_rch (x:Cache):∀k,k≤x.l.length→RchU x k (runU x.l k) []
 |0,_=>.begin
 |k+1,h=>(runU_rch x k (by omega)).order (by omega)
open Go Go.Sx
structure Lazy (u v:PS):Prop where
 len:u.E.length=v.E.length
 sub:∀e b,b<6→(u.ep e).get b≠-3→(v.ep e).get b≠-3
 tot:v.tot≤u.tot
theorem PS.wr_get (u:PS) {e b:Nat} (hb:b<6) {e' b':Nat} (hb':b'<6):((u.wr e b).ep e').get b'=if e'=e∧b'=b then -3 else(u.ep e').get b':=by
 by_cases hc:(u.ep e).get b=-3
 ·rw[PS.wr_neg hc]
  split
  ·rename_i h;rw[h.1,h.2,hc]
  ·rfl
 ·rw[PS.wr_ep u hc hb]
  by_cases h:e'=e
  ·subst h
   rw[if_pos rfl,C6.get_set hb hb']
   by_cases h2:b'=b
   ·rw[if_pos h2,if_pos ⟨rfl,h2⟩]
   ·rw[if_neg h2,if_neg (fun g=>h2 g.2)]
  ·rw[if_neg h,if_neg (fun g=>h g.1)]
theorem PS.put_get (u:PS) (hl:0<u.E.length) {b:Nat} (hb:b<6) (k:Int) {e' b':Nat} (hb':b'<6):((u.put b k).ep e').get b'=if e'=u.E.length-1∧b'=b then k else(u.ep e').get b':=by
 have hep:(u.put b k).ep e'=if e'=u.E.length-1 then(u.ep (u.E.length-1)).set b k else u.ep e':=by
  show(u.E.set (u.E.length-1) ((u.E.getD (u.E.length-1) NO).set b k)).getD e' NO=_
  rw[ep_set]
  by_cases g:e'=u.E.length-1
  ·rw[if_pos ⟨g,by omega⟩,if_pos g];rfl
  ·rw[if_neg (fun g2=>g g2.1),if_neg g];rfl
 rw[hep]
 by_cases h:e'=u.E.length-1
 ·rw[if_pos h,C6.get_set hb hb']
  by_cases h2:b'=b
  ·rw[if_pos h2,if_pos ⟨h,h2⟩]
  ·rw[if_neg h2,if_neg (fun g=>h2 g.2),h]
 ·rw[if_neg h,if_neg (fun g=>h g.1)]
namespace Lazy
variable {u v:PS}
theorem wr (h:Lazy u v) {e b:Nat} (hb:b<6):Lazy (u.wr e b) (v.wr e b):=by
 refine⟨by rw[PS.wr_len,PS.wr_len,h.len],fun e' b' hb' hne=>?_,by rw[PS.tot_wr _ _ _ hb,PS.tot_wr _ _ _ hb];exact h.tot⟩
 rw[PS.wr_get _ hb hb'] at hne ⊢
 split at hne
 ·exact absurd rfl hne
 ·rename_i g
  rw[if_neg g]
  exact h.sub e' b' hb' hne
theorem wrB (h:Lazy u v) (e:Nat):∀b,b≤6→Lazy (u.wrB e b) (v.wrB e b)
 |0,_=>h
 |b+1,hb=>(wrB h e b (by omega)).wr (by omega)
theorem wrE (h:Lazy u v):∀e,Lazy (u.wrE e) (v.wrE e)
 |0=>h
 |e+1=>(wrE h e).wrB e 6 (by omega)
theorem drain (h:Lazy u v) {b:Nat} (hb:b<6):Lazy (u.drainU b) v:=by
 unfold PS.drainU
 refine⟨by rw[PS.wr_len];exact h.len,fun e' b' hb' hne=>?_,by rw[PS.tot_wr _ _ _ hb];exact h.tot⟩
 rw[PS.wr_get _ hb hb'] at hne
 split at hne
 ·exact absurd rfl hne
 ·exact h.sub e' b' hb' hne
theorem put (h:Lazy u v) (hl:0<u.E.length) {b:Nat} (hb:b<6) {k:Int} (hk:k≠-3):Lazy (u.put b k) (v.put b k):=by
 have hlv:0<v.E.length:=by rw[←h.len];exact hl
 refine⟨by rw[PS.put_len,PS.put_len,h.len],fun e' b' hb' hne=>?_,?_⟩
 ·rw[PS.put_get _ hl hb k hb'] at hne
  rw[PS.put_get _ hlv hb k hb',←h.len]
  split at hne
  ·rename_i g;rw[if_pos g];exact hk
  ·rename_i g;rw[if_neg g];exact h.sub e' b' hb' hne
 ·have ht:=h.tot
  have hs:=h.sub (u.E.length-1) b hb
  have key:∀w:PS,0<w.E.length→(w.put b k).tot=w.tot+1-oneE ((w.ep (w.E.length-1)).get b):=by
   intro w hw
   unfold PS.tot PS.put
   dsimp only
   rw[cntL_set' (by omega),cntC_set hb _ 6 hb (by omega),one_pos hk]
   unfold PS.ep
   omega
  rw[key u hl,key v hlv,←h.len]
  have h1:oneE ((u.ep (u.E.length-1)).get b)≤oneE ((v.ep (u.E.length-1)).get b):=by
   by_cases g:(u.ep (u.E.length-1)).get b=-3
   ·rw[g,one_no];exact(one_le _).1
   ·rw[one_pos g,one_pos (hs g)];exact a1Q _
  omega
theorem order (h:Lazy u v) (hl:0<u.E.length) {k:Int} (hk:0≤k) {o:Int×Int} (ho:o.1=1∨o.1=2→o.2.toNat<6):Lazy (u.orderU k o) (v.orderU k o):=by
 unfold PS.orderU
 by_cases h1:o.1=1
 ·rw[if_pos h1,if_pos h1]
  exact h.put hl (ho (.inl h1)) (by omega)
 rw[if_neg h1,if_neg h1]
 by_cases h2:o.1=2
 ·rw[if_pos h2,if_pos h2,←h.len]
  exact((h.put hl (ho (.inr h2)) (by omega)).wrE _).wr (ho (.inr h2))
 rw[if_neg h2,if_neg h2]
 by_cases h3:o.1=3
 ·rw[if_pos h3,if_pos h3]
  have he:∀(u:PS) e,(⟨u.M,u.E++[NO],u.W⟩:PS).ep e=u.ep e:=by
   intro u e
   show(u.E++[NO]).getD e NO=u.E.getD e NO
   rcases a1N e u.E.length with g|g
   ·simp only[a0A,a0F g]
   ·simp only[a0A,a0S g,a0V g]
    cases e-u.E.length<;>simp
  refine⟨by simp[h.len],fun e b hb hne=>?_,?_⟩
  ·rw[he] at hne ⊢
   exact h.sub e b hb hne
  ·have ht:=h.tot
   unfold PS.tot at ht ⊢
   dsimp only
   rw[a2k,a2k]
   simp only[cntL,cntC_no 6 (by omega)]
   omega
 rw[if_neg h3,if_neg h3]
 by_cases h4:o.1=4
 ·rw[if_pos h4,if_pos h4,←h.len]
  exact h.wrE _
 ·rw[if_neg h4,if_neg h4]
  exact h
theorem cntC_mono {c d:C6} (h:∀b,b<6→c.get b≠-3→d.get b≠-3):∀b,b≤6→cntC c b≤cntC d b
 |0,_=>by simp[cntC]
 |b+1,hb=>by
  have ih:=cntC_mono h b (by omega)
  rw[cntC_succ,cntC_succ]
  have h1:oneE (c.get b)≤oneE (d.get b):=by
   by_cases g:c.get b=-3
   ·rw[g,one_no];exact(one_le _).1
   ·rw[one_pos g,one_pos (h b (by omega) g)];exact a1Q _
  omega
theorem cnt (h:Lazy u v):cntL u.E≤cntL v.E:=by
 have key:∀k,cntE u.E k≤cntE v.E k:=by
  intro k
  induction k with
  |zero=>simp[cntE]
  |succ k ih=>
   have:=cntC_mono (h.sub k) 6 (by omega)
   show cntE u.E k+cntC (u.ep k) 6≤cntE v.E k+cntC (v.ep k) 6
   omega
 have:=key u.E.length
 rw[cntE_all] at this
 rw[h.len,cntE_all] at this
 exact this
end Lazy
open Go Go.Sx
namespace Sim
variable {n:Nat} {r:RS} {u:PS}
theorem canR_iff (h:Sim n r u) (hn:n≤6) {z:Int}:canR n r z↔0≤z∧z<n∧u.can z.toNat:=by
 constructor
 ·rintro⟨h1,h2,e,he,hne⟩
  exact⟨h1,h2,(h.can_iff hn he (by omega)).2 hne⟩
 ·rintro⟨h1,h2,h3⟩
  refine⟨h1,h2,?_⟩
  have hl:=PS.ep_lt (u:=u) (e:=(idxC isS u.E).toNat) (b:=z.toNat) (by omega) h3.2
  have hi:(idxC isS u.E)=((idxC isS u.E).toNat:Int):=by have:=h3.1;omega
  obtain⟨e,_,hno,_,_⟩:=PS.drain_spec (show z.toNat<6 by omega) h3
  have he:RS.IsFirst n r (idxC isS u.E).toNat:=by
   refine⟨by rw[h.len];exact hl,fun g=>?_,fun j hj=>?_⟩
   ·have:=(h.noRow_iff hn _).1 g
    have h4:=h3.2
    rw[this] at h4
    exact h4 (C6.get_all (by omega))
   ·rw[h.noRow_iff hn]
    rcases idxC_spec isS u.E with⟨g1,_⟩|⟨i,g1,g2,g3,g4⟩
    ·omega
    ·have:=g4 j (by omega)
     exact a0O.1 (fun k=>by
      have k2:isS (u.E.getD j (C6.all (-3)))=true:=isS_iff.2 k
      rw[this] at k2
      cases k2)
  exact⟨_,he,(h.can_iff hn he (by omega)).1 h3⟩
theorem drain' (h:Sim n r u) (hn:n≤6) {z:Int} (hc:canR n r z):Sim n (drS n r z) (u.drainU z.toNat):=by
 obtain⟨h1,h2,e,he,hne⟩:=hc
 rw[(drS_yes ⟨h1,h2⟩ he hne).1]
 exact h.drain hn he (by omega)
end Sim
open Go Go.Sx
def RS.same (n:Nat) (a c:RS):Prop:=(∀b,b<n→a.M b=c.M b)∧a.E.length=c.E.length∧∀e,e<a.E.length→∀b,b<n→a.ep e b=c.ep e b
noncomputable def addR (n:Nat) (L:List RS) (s:RS):List RS:=@ite _ (∃t∈L,RS.same n t s) (Classical.propDecidable _) L (L++[s])
noncomputable def addM (n:Nat) (L:List (Nat→Int)) (f:Nat→Int):List (Nat→Int):=@ite _ (∃g∈L,∀b,b<n→g b=f b) (Classical.propDecidable _) L (L++[f])
open Go Go.Sx
theorem Cache.Ok.blkn {x:Cache} (hx:x.Ok) {n:Nat} (hn:x.n=n) {k:Nat} (hk:k<x.l.length):(x.l.getD k (0,0)).1=1∨(x.l.getD k (0,0)).1=2→0≤(x.l.getD k (0,0)).2∧(x.l.getD k (0,0)).2<n:=by
 intro g
 have:=hx.ord _ (show x.l.getD k (0,0)∈x.l by
  rw[show x.l.getD k (0,0)=x.l[k] by simp[a0A,hk]]
  exact a0N hk)
 unfold Cache.OkO at this
 omega
theorem Sim.run {x:Cache} (hx:x.Ok) {n:Nat} (hn:x.n=n):∀k,k≤x.l.length→Sim n (RS.run n x.l k) (runU x.l k)
 |0,_=>Sim.begin (by have:=hx.n;omega)
 |k+1,hk=>by
  have hl:0<(runU x.l k).E.length:=by rw[((runU_rch x k (by omega)).inv hx).len];omega
  exact(Sim.run hx hn k (by omega)).order (by have:=hx.n;omega) hl (by omega) (hx.blkn hn (by omega))
open Go Go.Sx
namespace PS.same
theorem orderU {s s':PS} (h:s.same s') (n:Int) (o:Int×Int):(s.orderU n o).same (s'.orderU n o):=by
 unfold PS.orderU
 rw[h.len]
 split
 ·exact h.put _ _
 split
 ·exact((h.put _ _).wrE _).wr _ _
 split
 ·exact⟨h.1,by show s.E++_=s'.E++_;rw[h.2]⟩
 split
 ·exact h.wrE _
 ·exact h
theorem drainU {s s':PS} (h:s.same s') (b:Nat):(s.drainU b).same (s'.drainU b):=by
 unfold PS.drainU
 rw[h.2]
 exact h.wr _ _
end PS.same
theorem rI_inj {a b:Int} (ha:a=-3∨0≤a) (hb:b=-3∨0≤b) (h:rI a=rI b):a=b:=by unfold rI at h;split at h<;>split at h<;>omega
theorem Sim.same_iff {x:Cache} (hx:x.Ok) {n:Nat} (hn:x.n=n) {k:Nat} (hk:k≤x.l.length) {r r':RS} {u u':PS} (h:Sim n r u) (h':Sim n r' u') (hi:InvC x k u) (hi':InvC x k u'):RS.same n r r'↔u.same u':=by
 have hn6:=hx.n
 have hi3:∀{u:PS},InvC x k u→∀b,n≤b→b<6→u.M.get b=-1:=fun hi b h1 h2=>by
  rcases hi.med b h2 with g|⟨q,g1,_,g2,g4⟩
  ·exact g
  ·have:=hx.blkn hn (show q<x.l.length by omega) g2
   omega
 constructor
 ·rintro⟨h1,h2,h3⟩
  refine⟨C6.ext' fun b hb=>?_,a2L (by rw[←h.len,←h'.len,h2]) fun e g1 g2=>C6.ext' fun b hb=>?_⟩
  ·by_cases hbn:b<n
   ·rw[←h.M b hbn,←h'.M b hbn,h1 b hbn]
   ·rw[hi3 hi b (by omega) hb,hi3 hi' b (by omega) hb]
  ·have e1:u.ep e=u.E[e]:=by unfold PS.ep;simp[List.getD_eq_getElem?_getD,g1]
   have e2:u'.ep e=u'.E[e]:=by unfold PS.ep;simp[List.getD_eq_getElem?_getD,g2]
   rw[←e1,←e2]
   by_cases hbn:b<n
   ·have:=h3 e (by rw[h.len];exact g1) b hbn
    rw[h.ep e b hbn,h'.ep e b hbn] at this
    exact rI_inj (h.nn e b hb) (h'.nn e b hb) this
   ·rw[h.hi e b (by omega) hb,h'.hi e b (by omega) hb]
 ·rintro⟨h1,h2⟩
  refine⟨fun b hb=>by rw[h.M b hb,h'.M b hb,h1],by rw[h.len,h'.len,h2],fun e _ b hb=>?_⟩
  have:u.ep e=u'.ep e:=by unfold PS.ep;rw[h2]
  rw[h.ep e b hb,h'.ep e b hb,this]
def GdR (x:Cache) (n k:Nat) (r:RS):Prop:=∃u D,RchU x k u D∧Sim n r u
namespace GdR
variable {x:Cache} {n k:Nat} {r:RS}
theorem begin (hx:x.Ok) (hn:x.n=n):GdR x n 0 RS.begin:=⟨_,_,.begin,Sim.begin (by have:=hx.n;omega)⟩
theorem drain (hx:x.Ok) (hn:x.n=n) (h:GdR x n k r) {b:Nat} (hc:canR n r b):GdR x n k (drS n r b):=by
 have hn6:=hx.n
 obtain⟨u,D,h1,h2⟩:=h
 have hc2:=(h2.canR_iff (by omega)).1 hc
 exact⟨_,_,h1.drain (b:=b) (by omega) hc2.2.2,h2.drain' (by omega) hc⟩
theorem order (hx:x.Ok) (hn:x.n=n) (h:GdR x n k r) (hk:k<x.l.length):GdR x n (k+1) (r.order n k (x.l.getD k (0,0))):=by
 have hn6:=hx.n
 obtain⟨u,D,h1,h2⟩:=h
 exact⟨_,_,h1.order hk,h2.order (by omega) (by rw[(h1.inv hx).len];omega) (by omega) (hx.blkn hn hk)⟩
end GdR
structure LstR (x:Cache) (n k:Nat) (L:List RS):Prop where
 good:∀r∈L,GdR x n k r
 nd:L.Pairwise fun a c=>¬RS.same n a c
theorem LstR.nil (x:Cache) (n k:Nat):LstR x n k []:=⟨by simp,by simp⟩
theorem mem_addR {n:Nat} {L:List RS} {s t:RS}:t∈addR n L s→t∈L∨t=s:=by
 unfold addR
 split
 ·exact .inl
 ·intro h;rcases a0U.1 h with h|h
  ·exact .inl h
  ·exact .inr (by simpa using h)
theorem addR_pre (n:Nat) (L:List RS) (s:RS):L <+: addR n L s:=by
 unfold addR
 split
 ·exact List.prefix_rfl
 ·exact List.prefix_append _ _
theorem RS.same_rfl (n:Nat) (s:RS):RS.same n s s:=⟨fun _ _=>rfl,rfl,fun _ _ _ _=>rfl⟩
theorem addR_has (n:Nat) (L:List RS) (s:RS):∃t∈addR n L s,RS.same n t s:=by
 unfold addR
 split
 ·assumption
 ·exact⟨s,by simp,RS.same_rfl n s⟩
theorem LstR.add {x:Cache} {n k:Nat} {L:List RS} (h:LstR x n k L) {s:RS} (hs:GdR x n k s):LstR x n k (addR n L s):=by
 refine⟨fun t ht=>(mem_addR ht).elim (h.good t) fun e=>e▸hs,?_⟩
 unfold addR
 split
 ·exact h.nd
 ·rename_i hno
  rw[a2E]
  refine⟨h.nd,by simp,fun a ha c hc=>?_⟩
  simp only[a1B] at hc
  subst hc
  exact fun g=>hno ⟨a,ha,g⟩
theorem getR {L:List RS} {i:Nat} (h:i<L.length):L.getD i RS.begin=L[i]:=by simp[a0A,h]
theorem getR_mem {L:List RS} {i:Nat} (h:i<L.length):L.getD i RS.begin∈L:=by rw[getR h];exact a0N h
theorem getR_pre {L L':List RS} (hp:L <+: L') {i:Nat} (h:i<L.length):L'.getD i RS.begin=L.getD i RS.begin:=by
 obtain⟨t,rfl⟩:=hp
 simp only[a0A]
 rw[a0F h]
structure ClR (x:Cache) (n k:Nat) (L0 L:List RS) (i b:Nat):Prop where
 pre:L0 <+: L
 ok:LstR x n k L
 le:i≤L.length
 lt:0<b→i<L.length
 all:∀j,j<L.length→∀b',(j<i∧b'<n∨j=i∧b'<b)→canR n (L.getD j RS.begin) (b':Nat)→∃t∈L,RS.same n t (drS n (L.getD j RS.begin) (b':Nat))
namespace ClR
variable {x:Cache} {n k:Nat} {L0 L:List RS} {i b:Nat}
theorem skip (h:ClR x n k L0 L i b) (hi:i<L.length) (hc:¬canR n (L.getD i RS.begin) (b:Nat)):ClR x n k L0 L i (b+1):=
 ⟨h.pre,h.ok,h.le,fun _=>hi,fun j hj b' hb hcan=>by
  rcases a1N j i with h1|h1
  ·exact h.all j hj b' (.inl ⟨h1,by omega⟩) hcan
  ·obtain rfl:j=i:=by omega
   rcases a0I (show b'≤b by omega) with h2|rfl
   ·exact h.all j hj b' (.inr ⟨rfl,h2⟩) hcan
   ·exact absurd hcan hc⟩
theorem add (hx:x.Ok) (hn:x.n=n) (h:ClR x n k L0 L i b) (hi:i<L.length) (hc:canR n (L.getD i RS.begin) (b:Nat)):ClR x n k L0 (addR n L (drS n (L.getD i RS.begin) (b:Nat))) i (b+1):=by
 have hp:=addR_pre n L (drS n (L.getD i RS.begin) (b:Nat))
 have hl:=hp.length_le
 have hh:=addR_has n L (drS n (L.getD i RS.begin) (b:Nat))
 have hok:=h.ok.add ((h.ok.good _ (getR_mem hi)).drain hx hn hc)
 have hold:∀j,j<L.length→∀b',(j<i∧b'<n∨j=i∧b'<b)→canR n (L.getD j RS.begin) (b':Nat)→∃t∈addR n L (drS n (L.getD i RS.begin) (b:Nat)),RS.same n t (drS n (L.getD j RS.begin) (b':Nat)):=fun j hj b' hb hcan=>by
  obtain⟨t,h1,h2⟩:=h.all j hj b' hb hcan
  exact⟨t,hp.subset h1,h2⟩
 refine⟨h.pre.trans hp,hok,by have:=h.le;omega,fun _=>by omega,fun j hj b' hb hcan=>?_⟩
 have hji:j<L.length:=by omega
 rw[getR_pre hp hji] at hcan ⊢
 rcases a1N j i with h1|h1
 ·exact hold j hji b' (.inl ⟨h1,by omega⟩) hcan
 ·obtain rfl:j=i:=by omega
  rcases a0I (show b'≤b by omega) with h2|rfl
  ·exact hold j hji b' (.inr ⟨rfl,h2⟩) hcan
  ·exact hh
end ClR
def Stands (x:Cache) (n k:Nat) (r:RS) (u:PS):Prop:=∃u' D',RchU x k u' D'∧Sim n r u'∧u'.same u
def CoverR (x:Cache) (n k:Nat) (L:List RS):Prop:=∀u D,RchU x k u D→∃r∈L,Stands x n k r u
structure EntR (x:Cache) (n k:Nat) (L:List RS):Prop where
 ok:LstR x n k L
 ne:0<L.length
 all:∀L',ClR x n k L L' L'.length 0→CoverR x n k L'
theorem cover_ofR {x:Cache} (hx:x.Ok) {n:Nat} (hn:x.n=n) {k:Nat} {L L':List RS} (hc:ClR x n k L L' L'.length 0)
  (he:∀u D,RchU x k u D→(k=0∧u=PS.begin)∨(∃k' u' D',k=k'+1∧RchU x k' u' D'∧k'<x.l.length∧u=u'.orderU k' (x.l.getD k' (0,0)))→∃r∈L,Stands x n k r u):CoverR x n k L':=by
 have hn6:=hx.n
 intro u D h
 induction h with
 |begin=>
  obtain⟨t,h1,h2⟩:=he _ _ .begin (.inl ⟨rfl,rfl⟩)
  exact⟨t,hc.pre.subset h1,h2⟩
 |@drain k u D b hr hb hcan ih=>
  obtain⟨r,h1,u',D',h2,h3,h4⟩:=ih hc he
  obtain⟨i,hi,rfl⟩:=a1A h1
  have hcan':=h4.can.2 hcan
  have hcr:canR n L'[i] (b:Nat):=(h3.canR_iff (by omega)).2 ⟨by omega,by omega,hcan'⟩
  rw[←getR hi] at hcr h3
  obtain⟨t,h5,h6⟩:=hc.all i hi b (.inl ⟨hi,by omega⟩) hcr
  obtain⟨v,Dv,h7,h8⟩:=hc.ok.good t h5
  have h9:Sim n (drS n (L'.getD i RS.begin) (b:Nat)) (u'.drainU b):=h3.drain' (by omega) hcr
  have h10:=h2.drain (b:=b) hb hcan'
  have h11:=(Sim.same_iff hx hn h7.le h8 h9 (h7.inv hx).inv (h10.inv hx).inv).1 h6
  exact⟨t,h5,v,Dv,h7,h8,h11.trans (h4.drainU b)⟩
 |@order k u D hr hk ih=>
  obtain⟨t,h1,h2⟩:=he _ _ (.order hr hk) (.inr ⟨k,u,D,rfl,hr,hk,rfl⟩)
  exact⟨t,hc.pre.subset h1,h2⟩
theorem EntR.begin {x:Cache} (hx:x.Ok) {n:Nat} (hn:x.n=n):EntR x n 0 [RS.begin]:=by
 refine⟨⟨fun r hr=>by rw[a1B.1 hr];exact GdR.begin hx hn,by simp⟩,by simp,fun L' hc=>cover_ofR hx hn hc ?_⟩
 rintro u D hr (⟨_,rfl⟩|⟨k',u',D',h0,_⟩)
 ·exact⟨RS.begin,by simp,_,_,hr,Sim.begin (by have:=hx.n;omega),rfl,rfl⟩
 ·omega
structure NxR (x:Cache) (n k:Nat) (L N:List RS) (j:Nat):Prop where
 ok:LstR x n (k+1) N
 all:∀i,i<j→∃t∈N,RS.same n t ((L.getD i RS.begin).order n k (x.l.getD k (0,0)))
namespace NxR
variable {x:Cache} {n k:Nat} {L N:List RS} {j:Nat}
theorem add (hx:x.Ok) (hn:x.n=n) (h:NxR x n k L N j) (hj:GdR x n k (L.getD j RS.begin)) (hk:k<x.l.length):NxR x n k L (addR n N ((L.getD j RS.begin).order n k (x.l.getD k (0,0)))) (j+1):=by
 refine⟨h.ok.add (hj.order hx hn hk),fun i hi=>?_⟩
 rcases a0I (show i≤j by omega) with h1|rfl
 ·obtain⟨t,h2,h3⟩:=h.all i h1
  exact⟨t,(addR_pre _ _ _).subset h2,h3⟩
 ·exact addR_has _ _ _
end NxR
open Go Go.Sx
open Go Go.Sx
open Go Go.Sx
theorem posI_u {x:Cache} (hx:x.Ok) {u:PS} {D:List (Int×Int)} (h:RchU x x.l.length u D):PosI x u.M:=
 ⟨⟨⟨u.tidy,D⟩,u.M,false⟩,.inl ⟨rfl,u_rch hx h,rfl⟩,rfl⟩
theorem posI_torn {x:Cache} (hx:x.Ok) {u:PS} {D:List (Int×Int)} (h:RchU x x.l.length u D) {b:Nat} (hb:(b:Int)<x.n) (hc:u.can b):PosI x (u.M.set b (-2)):=by
 have hl:0<u.E.length:=by rw[(h.inv hx).len];omega
 exact⟨⟨⟨u.tidy.drain b,D++[((x.l.length:Int),(b:Int))]⟩,u.M.set b (-2),true⟩,.inr ⟨rfl,u.tidy,D,b,u_rch hx h,hb,(PS.can_tidy u hl b).2 hc,rfl,rfl⟩,rfl⟩
def Fits (n:Nat) (f:Nat→Int) (c:C6):Prop:=∀b,b<n→f b=c.get b
def tornF (f:Nat→Int) (b:Nat):Nat→Int:=fun j=>if j=b then -2 else f j
structure ImgsR (x:Cache) (n:Nat) (L:List (Nat→Int)):Prop where
 sound:∀f∈L,∃c,PosI x c∧Fits n f c
 cov:∀c,PosI x c→∃f∈L,Fits n f c
 len:L.length≤600000
theorem mem_addM {n:Nat} {L:List (Nat→Int)} {s t:Nat→Int}:t∈addM n L s→t∈L∨t=s:=by
 unfold addM
 split
 ·exact .inl
 ·intro h;rcases a0U.1 h with h|h
  ·exact .inl h
  ·exact .inr (by simpa using h)
theorem addM_sub (n:Nat) (L:List (Nat→Int)) (s:Nat→Int):∀f∈L,f∈addM n L s:=by
 unfold addM
 split
 ·exact fun f h=>h
 ·exact fun f h=>a2D _ h
theorem addM_has (n:Nat) (L:List (Nat→Int)) (s:Nat→Int):∃t∈addM n L s,∀b,b<n→t b=s b:=by
 unfold addM
 split
 ·assumption
 ·exact⟨s,by simp,fun _ _=>rfl⟩
theorem addM_len (n:Nat) (L:List (Nat→Int)) (s:Nat→Int):(addM n L s).length≤L.length+1:=by
 unfold addM
 split<;>simp
def HasR (n:Nat) (r:RS) (Ms:List (Nat→Int)) (t:Nat):Prop:=
 (0<t→∃f∈Ms,∀b,b<n→f b=r.M b)∧∀b:Nat,b+1<t→canR n r b→∃f∈Ms,∀j,j<n→f j=tornF r.M b j
theorem HasR.sub {n:Nat} {r:RS} {Ms Ms':List (Nat→Int)} {t:Nat} (h:HasR n r Ms t) (hs:∀f∈Ms,f∈Ms'):HasR n r Ms' t:=
 ⟨fun g=>(h.1 g).imp fun _ k=>⟨hs _ k.1,k.2⟩,fun b g c=>(h.2 b g c).imp fun _ k=>⟨hs _ k.1,k.2⟩⟩
structure MgR (x:Cache) (n:Nat) (L:List RS) (Ms:List (Nat→Int)) (k t:Nat):Prop where
 sound:∀f∈Ms,∃c,PosI x c∧Fits n f c
 len:Ms.length≤k*(n+1)+t
 old:∀i,i<k→HasR n (L.getD i RS.begin) Ms (n+1)
 cur:HasR n (L.getD k RS.begin) Ms t
namespace MgR
variable {x:Cache} {n:Nat} {L:List RS} {Ms:List (Nat→Int)} {k t:Nat}
theorem med (hx:x.Ok) (h:MgR x n L Ms k 0) (hg:GdR x n x.l.length (L.getD k RS.begin)):MgR x n L (addM n Ms (L.getD k RS.begin).M) k 1:=by
 have hs:=addM_sub n Ms (L.getD k RS.begin).M
 refine⟨fun f hf=>?_,?_,fun i hi=>(h.old i hi).sub hs,fun _=>addM_has _ _ _,fun b hb=>by omega⟩
 ·rcases mem_addM hf with hf|rfl
  ·exact h.sound f hf
  ·obtain⟨u,D,h1,h2⟩:=hg
   exact⟨u.M,posI_u hx h1,fun b hb=>h2.M b hb⟩
 ·have:=h.len
  have:=addM_len n Ms (L.getD k RS.begin).M
  omega
theorem skip {b:Nat} (h:MgR x n L Ms k (b+1)) (hc:¬canR n (L.getD k RS.begin) b):MgR x n L Ms k (b+1+1):=by
 refine⟨h.sound,by have:=h.len;omega,h.old,fun _=>h.cur.1 (by omega),fun b' hb' hc'=>?_⟩
 rcases a0I (show b'≤b by omega) with g|rfl
 ·exact h.cur.2 b' (by omega) hc'
 ·exact absurd hc' hc
theorem torn {b:Nat} (hx:x.Ok) (hn:x.n=n) (h:MgR x n L Ms k (b+1)) (hg:GdR x n x.l.length (L.getD k RS.begin)) (hc:canR n (L.getD k RS.begin) b):MgR x n L (addM n Ms (tornF (L.getD k RS.begin).M b)) k (b+1+1):=by
 have hn6:=hx.n
 have hs:=addM_sub n Ms (tornF (L.getD k RS.begin).M b)
 have hc':=h.cur.sub hs
 refine⟨fun f hf=>?_,?_,fun i hi=>(h.old i hi).sub hs,fun _=>hc'.1 (by omega),fun b' hb' hcan=>?_⟩
 ·rcases mem_addM hf with hf|rfl
  ·exact h.sound f hf
  ·obtain⟨u,D,h1,h2⟩:=hg
   have hcu:=(h2.canR_iff (by omega)).1 hc
   refine⟨u.M.set b (-2),posI_torn hx h1 (by omega) hcu.2.2,fun j hj=>?_⟩
   rw[C6.get_set (by omega) (by omega)]
   unfold tornF
   by_cases e:j=b
   ·subst e;simp
   ·rw[if_neg e,if_neg (by omega)]
    exact h2.M j hj
 ·have:=h.len
  have:=addM_len n Ms (tornF (L.getD k RS.begin).M b)
  omega
 ·rcases a0I (show b'≤b by omega) with g|rfl
  ·exact hc'.2 b' (by omega) hcan
  ·exact addM_has _ _ _
theorem len4 (h:MgR x n L Ms k t) (hn:n≤3):Ms.length≤k*4+t:=by
 have:=h.len
 have h2:k*(n+1)≤k*4:=Nat.mul_le_mul_left _ (by omega)
 omega
theorem fin (hx:x.Small) (hn:x.n=n) (h:MgR x n L Ms L.length 0) (hcov:CoverR x n x.l.length L) (hcap:L.length≤65536):ImgsR x n Ms:=by
 have hn6:=hx.ok.n
 have hn3:=hx.n
 refine⟨h.sound,fun c hp=>?_,by have:=h.len4 (by omega);omega⟩
 obtain⟨u,D,h1,h2⟩:=hp.u hx.ok
 obtain⟨r,hr,u',D',g1,g2,g3⟩:=hcov u D h1
 obtain⟨i,hi,rfl⟩:=a1A hr
 have ho:=h.old i hi
 rw[getR hi] at ho
 rcases h2 with rfl|⟨b,hb,hc,rfl⟩
 ·obtain⟨f,f1,f2⟩:=ho.1 (by omega)
  exact⟨f,f1,fun j hj=>by rw[f2 j hj,g2.M j hj,g3.1]⟩
 ·have hcr:canR n L[i] (b:Nat):=(g2.canR_iff (by omega)).2 ⟨by omega,by omega,g3.can.2 hc⟩
  obtain⟨f,f1,f2⟩:=ho.2 b (by omega) hcr
  refine⟨f,f1,fun j hj=>?_⟩
  rw[f2 j hj,C6.get_set (by omega) (by omega)]
  unfold tornF
  by_cases e:j=b
  ·subst e;simp
  ·rw[if_neg e,if_neg (by omega),g2.M j hj,g3.1]
end MgR
namespace ImgsR
variable {x:Cache} {n:Nat} {L:List (Nat→Int)}
theorem val (h:ImgsR x n L) {b:Nat} (hb:b<n) (v:Int):PosV x b v↔∃i,i<L.length∧L.getD i (fun _=>0) b=v:=by
 constructor
 ·rintro⟨c,h1,rfl⟩
  obtain⟨f,f1,f2⟩:=h.cov c h1
  obtain⟨i,hi,rfl⟩:=a1A f1
  refine⟨i,hi,?_⟩
  rw[show L.getD i (fun _=>0)=L[i] by simp[a0A,hi]]
  exact f2 b hb
 ·rintro⟨i,hi,rfl⟩
  rw[show L.getD i (fun _=>0)=L[i] by simp[a0A,hi]]
  obtain⟨c,h1,h2⟩:=h.sound _ (a0N hi)
  exact⟨c,h1,(h2 b hb).symm⟩
theorem pos (h:ImgsR x n L) {l:List Int} (hl:l.length=n):(addM n L (fun b=>l.getD b 0)).length=L.length↔IsPos x l:=by
 have e:(addM n L (fun b=>l.getD b 0)).length=L.length↔∃g∈L,∀b,b<n→g b=l.getD b 0:=by
  unfold addM
  split
  ·rename_i g;exact⟨fun _=>g,fun _=>rfl⟩
  ·rename_i g
   exact⟨fun k=>by simp at k,fun k=>absurd k g⟩
 rw[e]
 constructor
 ·rintro⟨g,h1,h2⟩
  obtain⟨c,h3,h4⟩:=h.sound g h1
  exact⟨c,h3,fun b hb=>by rw[←h4 b (by omega),h2 b (by omega)]⟩
 ·rintro⟨c,h1,h2⟩
  obtain⟨f,f1,f2⟩:=h.cov c h1
  exact⟨f,f1,fun b hb=>by rw[f2 b hb,h2 b (by omega)]⟩
end ImgsR
open Go Go.Sx
end Go.Proofs.Ca
namespace Go.Proofs.Ca
open Go Go.Sx
set_option maxRecDepth 100000
set_option maxHeartbeats 4000000
def epW (W:List Wt) (i:Nat):Nat:=(W.getD i (0,0,0)).1
structure IsCrs (W:List Wt) (o:List Nat):Prop where
 len:o.length=W.length
 nd:o.Nodup
 lt:∀x∈o,x<W.length
 asc:o.Pairwise (fun x y=>epW W x≤epW W y)
def okR (W:List Wt) (o:List Nat) (n:Nat):Prop:=∀x∈o,x≠n∧epW W x≤epW W n
def okP (W:List Wt) (o:List Nat) (n:Nat):Prop:=n∉o∧∀i,i<W.length→i∉o→epW W n≤epW W i
open Classical in
noncomputable def crs (ok:List Nat→Nat→Prop) (N:Nat):Nat→List Nat→List (List Nat)
 |0,o=>[o]
 |m+1,o=>(List.range N).flatMap fun n=>if ok o n then crs ok N m (o++[n]) else []
structure Pre (W:List Wt) (o:List Nat):Prop where
 nd:o.Nodup
 lt:∀x∈o,x<W.length
 low:∀x∈o,∀i,i<W.length→i∉o→epW W x≤epW W i
 asc:o.Pairwise (fun x y=>epW W x≤epW W y)
theorem Pre.nil (W:List Wt):Pre W []:=⟨List.nodup_nil,by simp,by simp,by simp⟩
theorem Pre.len {W:List Wt} {o:List Nat} (h:Pre W o):o.length≤W.length:=by
 have:=a1t (m:=List.range W.length) h.nd fun x hx=>a1F.2 (h.lt x hx)
 rwa [a3Q] at this
theorem Pre.snoc {W:List Wt} {o:List Nat} (h:Pre W o) {n:Nat} (hn:n<W.length) (hk:okP W o n):Pre W (o++[n]):=by
 refine⟨?_,fun x hx=>?_,fun x hx i hi hio=>?_,?_⟩
 ·rw[List.nodup_append]
  refine⟨h.nd,by simp,fun x hx y hy e=>?_⟩
  rw[a1B] at hy
  subst hy e
  exact hk.1 hx
 ·rcases a0U.1 hx with g|g
  ·exact h.lt x g
  ·rw[a1B] at g;subst g;exact hn
 ·have hio':i∉o:=fun g=>hio (a2D _ g)
  rcases a0U.1 hx with g|g
  ·exact h.low x g i hi hio'
  ·rw[a1B] at g;subst g;exact hk.2 i hi hio'
 ·rw[a2E]
  refine⟨h.asc,by simp,fun x hx y hy=>?_⟩
  rw[a1B] at hy
  subst hy
  exact h.low x hx y hn hk.1
theorem flatMap_same {α β:Type} {f g:α→List β}:∀{l:List α},(∀x∈l,f x=g x)→l.flatMap f=l.flatMap g
 |[],_=>rfl
 |x :: l,h=>by rw[List.flatMap_cons,List.flatMap_cons,h x a1V,flatMap_same fun y hy=>h y (a2K _ hy)]
noncomputable def allCrs (W:List Wt):List (List Nat):=crs (okP W) W.length W.length []
theorem mem_crs {W:List Wt}:∀(m:Nat) (o:List Nat),o.length+m=W.length→Pre W o→∀c,c∈crs (okP W) W.length m o↔o <+: c∧IsCrs W c
 |0,o,hl,hp,c=>by
  unfold crs
  rw[a1B]
  constructor
  ·rintro rfl
   exact⟨List.prefix_rfl,⟨by omega,hp.nd,hp.lt,hp.asc⟩⟩
  ·rintro⟨⟨t,rfl⟩,h⟩
   have:=h.len
   rw[a0M] at this
   have:t=[]:=List.length_eq_zero_iff.1 (by omega)
   subst this
   simp
 |m+1,o,hl,hp,c=>by
  unfold crs
  rw[List.mem_flatMap]
  constructor
  ·rintro⟨n,hn,h⟩
   have hn:=a1F.1 hn
   split at h
   ·rename_i hk
    have:=(mem_crs m (o++[n]) (by simp;omega) (hp.snoc hn hk) c).1 h
    exact⟨(List.prefix_append o [n]).trans this.1,this.2⟩
   ·simp at h
  ·rintro⟨⟨t,rfl⟩,h⟩
   cases t with
   |nil=>
    have:=h.len
    simp at this
    omega
   |cons n t=>
    have hn:n<W.length:=h.lt n (by simp)
    have hnd:=h.nd
    have hasc:=h.asc
    rw[List.nodup_append] at hnd
    rw[a2E] at hasc
    have hno:n∉o:=fun g=>hnd.2.2 n g n (by simp) rfl
    have hk:okP W o n:=by
     refine⟨hno,fun i hi hio=>?_⟩
     have hic:i∈o++n :: t:=by
      refine a0Q fun g=>?_
      have:=a1t (l:=i :: (o++n :: t)) (m:=List.range W.length) (List.nodup_cons.2 ⟨g,h.nd⟩) fun x hx=>by
       rcases a0Z.1 hx with g|g
       ·subst g;exact a1F.2 hi
       ·exact a1F.2 (h.lt x g)
      rw[a3Q,a2R,h.len] at this
      omega
     rcases a0U.1 hic with g|g
     ·exact absurd g hio
     ·rcases a0Z.1 g with g|g
      ·rw[g];exact a0K _
      ·exact(a3D.1 hasc.2.1).1 i g
    refine⟨n,a1F.2 hn,?_⟩
    rw[if_pos hk]
    refine(mem_crs m (o++[n]) (by simp;omega) (hp.snoc hn hk) _).2 ⟨⟨t,by simp⟩,h⟩
theorem mem_allCrs {W:List Wt} {c:List Nat}:c∈allCrs W↔IsCrs W c:=by
 unfold allCrs
 rw[mem_crs _ _ (by simp) (Pre.nil W)]
 exact⟨fun h=>h.2,fun h=>⟨List.nil_prefix,h⟩⟩
theorem range_crs {n:Nat} {s:RS}:IsCrs (s.ents n) (List.range (s.ents n).length):=by
 refine⟨by simp,List.nodup_range,fun x hx=>a1F.1 hx,?_⟩
 have hs:=RS.ents_sorted n s
 rw[a0T] at hs ⊢
 intro i j hi hj hij
 rw[a3Q] at hi hj
 have:=hs i j hi hj hij
 simp only[List.getElem_range]
 unfold epW
 rw[a0A,a0C hi,a0A,a0C hj]
 unfold ltK at this
 show(s.ents n)[i].1≤(s.ents n)[j].1
 omega
theorem allCrs_ne (n:Nat) (s:RS):allCrs (s.ents n)≠[]:=List.ne_nil_of_mem (mem_allCrs.2 range_crs)
/-! ### the medium behind the first entries of a course -/
def entC (W:List Wt) (o:List Nat) (k:Nat):Wt:=W.getD (o.getD k 0) (0,0,0)
def medC (W:List Wt) (M:Nat→Int) (o:List Nat):Nat→Nat→Int
 |0=>M
 |k+1=>putM (medC W M o k) (entC W o k)
noncomputable def drC (n:Nat) (W:List Wt) (s:RS) (o:List Nat):Nat→RS
 |0=>s
 |k+1=>drS n (drC n W s o k) ((entC W o k).2.1:Nat)
theorem IsCrs.perm {W:List Wt} {o:List Nat} (h:IsCrs W o) {i:Nat} (hi:i<W.length):i∈o:=by
 refine a0Q fun g=>?_
 have:=a1t (l:=i :: o) (m:=List.range W.length) (List.nodup_cons.2 ⟨g,h.nd⟩) fun x hx=>by
  rcases a0Z.1 hx with g|g
  ·subst g;exact a1F.2 hi
  ·exact a1F.2 (h.lt x g)
 rw[a3Q,a2R,h.len] at this
 omega
theorem IsCrs.getD_lt {W:List Wt} {o:List Nat} (h:IsCrs W o) {k:Nat} (hk:k<W.length):o.getD k 0<W.length:=by
 have hk':k<o.length:=by rw[h.len];exact hk
 rw[a0A,a0C hk']
 exact h.lt _ (a0N hk')
theorem entC_mem {W:List Wt} {o:List Nat} (h:IsCrs W o) {k:Nat} (hk:k<W.length):entC W o k∈W:=by
 have:=h.getD_lt hk
 unfold entC
 rw[a0A,a0C this]
 exact a0N this
theorem key_inj {W:List Wt} (hs:W.Pairwise ltK) {i j:Nat} (hi:i<W.length) (hj:j<W.length) (h1:(W.getD i (0,0,0)).1=(W.getD j (0,0,0)).1) (h2:(W.getD i (0,0,0)).2.1=(W.getD j (0,0,0)).2.1):i=j:=by
 rw[a0T] at hs
 rw[a0A,a0C hi,a0A,a0C hj] at h1 h2
 simp only[a2S] at h1 h2
 rcases a3G i j with g|g|g
 ·have:=hs i j hi hj g;unfold ltK at this;omega
 ·exact g
 ·have:=hs j i hj hi g;unfold ltK at this;omega
theorem drC_at {n:Nat} {s:RS} {o:List Nat} (h:IsCrs (s.ents n) o):∀k,k≤(s.ents n).length→
  (drC n (s.ents n) s o k).E.length=s.E.length∧(drC n (s.ents n) s o k).M=medC (s.ents n) s.M o k∧(s.W≤(drC n (s.ents n) s o k).W∧(drC n (s.ents n) s o k).W≤s.W+k)∧
  (∀e j,(drC n (s.ents n) s o k).ep e j=@ite _ (∃i,i<k∧(entC (s.ents n) o i).1=e∧(entC (s.ents n) o i).2.1=j) (Classical.propDecidable _) (-1) (s.ep e j))
 |0,_=>⟨rfl,rfl,⟨a1Q _,by simp[drC]⟩,fun e j=>by rw[if_neg (by rintro⟨i,hi,_⟩;omega)];rfl⟩
 |k+1,hk=>by
  obtain⟨h1,h2,h3,h4⟩:=drC_at h k (by omega)
  have hmem:=RS.mem_ents.1 (entC_mem h (show k<(s.ents n).length by omega))
  have hkl:=h.getD_lt (show k<(s.ents n).length by omega)
  -- it is still there
  have hnot:¬∃i,i<k∧(entC (s.ents n) o i).1=(entC (s.ents n) o k).1∧(entC (s.ents n) o i).2.1=(entC (s.ents n) o k).2.1:=by
   rintro⟨i,hi,g1,g2⟩
   have:=key_inj (RS.ents_sorted n s) (h.getD_lt (show i<(s.ents n).length by omega)) hkl g1 g2
   have hnd:=h.nd
   rw[List.Nodup,a0T] at hnd
   have hil:i<o.length:=by rw[h.len];omega
   have hkl':k<o.length:=by rw[h.len];omega
   refine hnd i k hil hkl' hi ?_
   rw[a0A,a0C hil,a0A,a0C hkl'] at this
   simpa using this
  have hep:(drC n (s.ents n) s o k).ep (entC (s.ents n) o k).1 (entC (s.ents n) o k).2.1≠-1:=by rw[h4,if_neg hnot];exact hmem.2.2.1
  -- the epochs before it are empty
  have hfirst:(drC n (s.ents n) s o k).IsFirst n (entC (s.ents n) o k).1:=by
   refine⟨by rw[h1];exact hmem.1,fun g=>hep (g _ hmem.2.1),fun e he b hb=>?_⟩
   rw[h4]
   by_cases hn:s.ep e b=-1
   ·split
    ·rfl
    ·exact hn
   ·have hw:(e,b,s.ep e b)∈s.ents n:=RS.mem_ents.2 ⟨Nat.lt_trans he hmem.1,hb,hn,rfl⟩
    obtain⟨q,hq,hqe⟩:=a1A hw
    obtain⟨i,hi,hie⟩:=a1A (h.perm hq)
    have hoi:o.getD i 0=q:=by rw[a0A,a0C hi];exact hie
    have hent:entC (s.ents n) o i=(e,b,s.ep e b):=by
     unfold entC
     rw[hoi,a0A,a0C hq]
     exact hqe
    rw[if_pos]
    refine⟨i,?_,by rw[hent],by rw[hent]⟩
    refine a0Q fun hik=>?_
    have hasc:=h.asc
    rw[a0T] at hasc
    have hkl':k<o.length:=by rw[h.len];omega
    have e2:epW (s.ents n) (o.getD i 0)=e:=by
     have:epW (s.ents n) (o.getD i 0)=(entC (s.ents n) o i).1:=rfl
     rw[this,hent]
    have e3:epW (s.ents n) (o.getD k 0)=(entC (s.ents n) o k).1:=rfl
    rcases a0I (show k≤i by omega) with g|g
    ·have:=hasc k i hkl' hi g
     rw[show o[k]=o.getD k 0 by rw[a0A,a0C hkl'];rfl,show o[i]=o.getD i 0 by rw[a0A,a0C hi];rfl,e2,e3] at this
     omega
    ·subst g
     omega
  have hd:=drS_yes (n:=n) (s:=drC n (s.ents n) s o k) (z:=((entC (s.ents n) o k).2.1:Nat)) (e:=(entC (s.ents n) o k).1) ⟨by omega,by exact_mod_cast hmem.2.1⟩ hfirst (by rw[a0E];exact hep)
  rw[a0E] at hd
  have hw:=RS.wr_pos hep
  unfold drC medC
  rw[hd.1]
  refine⟨by rw[RS.wr_len,h1],?_,?_,fun e j=>?_⟩
  ·rw[hw]
   show(fun b'=>if b'=(entC (s.ents n) o k).2.1 then(drC n (s.ents n) s o k).ep (entC (s.ents n) o k).1 (entC (s.ents n) o k).2.1 else(drC n (s.ents n) s o k).M b')=_
   rw[h4,if_neg hnot,h2,←hmem.2.2.2]
   rfl
  ·have:=RS.wr_W (drC n (s.ents n) s o k) (entC (s.ents n) o k).1 (entC (s.ents n) o k).2.1
   constructor
   ·omega
   ·rw[Int.natCast_add];omega
  ·rw[hw,RS.ep_wr (by rw[h1];exact hmem.1),h4]
   by_cases g:e=(entC (s.ents n) o k).1∧j=(entC (s.ents n) o k).2.1
   ·rw[if_pos g,if_pos ⟨k,Nat.lt_succ_self k,g.1.symm,g.2.symm⟩]
   ·rw[if_neg g]
    by_cases g2:∃i,i<k∧(entC (s.ents n) o i).1=e∧(entC (s.ents n) o i).2.1=j
    ·rw[if_pos g2,if_pos (let⟨i,a,b⟩:=g2;⟨i,by omega,b⟩)]
    ·rw[if_neg g2,if_neg]
     rintro⟨i,a,b,c⟩
     rcases a0I (a2C a) with g3|g3
     ·exact g2 ⟨i,g3,b,c⟩
     ·subst g3;exact g ⟨b.symm,c.symm⟩
end Go.Proofs.Ca
namespace Go.Proofs.Ca
open Go Go.Sx
set_option maxRecDepth 100000
set_option maxHeartbeats 4000000
structure Asc (n:Nat) (s:RS) (k:Int):Prop where
 top:∀e j,j<n→s.ep e j≠-1→0≤s.ep e j∧s.ep e j<k
 med:∀j,j<n→-1≤s.M j∧s.M j<k
 up:∀e e' j,e<e'→j<n→s.ep e j≠-1→s.ep e' j≠-1→s.ep e j<s.ep e' j
 old:∀e j,j<n→s.ep e j≠-1→s.M j<s.ep e j
namespace Asc
theorem begin (n:Nat):Asc n RS.begin 0:=by
 have h:∀e j,RS.begin.ep e j=-1:=fun e j=>by
  show(([fun _=>-1]:List (Nat→Int)).getD e (fun _=>-1)) j=-1
  rcases e with _|e<;>simp
 exact⟨fun e j _ g=>absurd (h e j) g,fun j _=>⟨by show(-1:Int)≤-1;omega,by show(-1:Int)<0;omega⟩,fun e e' j _ _ g=>absurd (h e j) g,fun e j _ g=>absurd (h e j) g⟩
theorem mono {n:Nat} {s:RS} {k k':Int} (h:Asc n s k) (hk:k≤k'):Asc n s k':=
 ⟨fun e j hj g=>by have:=h.top e j hj g;omega,fun j hj=>by have:=h.med j hj;omega,h.up,h.old⟩
theorem fold_med {n:Nat} {s:RS} {k:Int} (h:Asc n s k):∀(V:List Wt),V.Pairwise ltK→(∀w∈V,w∈s.ents n)→∀(M:Nat→Int),(∀j,j<n→-1≤M j∧M j<k∧∀w∈V,w.2.1=j→M j<w.2.2)→
  ∀j,j<n→(M j≤V.foldl putM M j∧V.foldl putM M j<k)∧((V.foldl putM M j=M j∧∀w∈V,w.2.1≠j)∨∃w∈V,w.2.1=j∧V.foldl putM M j=w.2.2∧∀w'∈V,w'.2.1=j→w'.2.2≤w.2.2)
 |[],_,_,M,hM,j,hj=>⟨⟨a1Q _,(hM j hj).2.1⟩,.inl ⟨rfl,by simp⟩⟩
 |v :: V,hp,hV,M,hM,j,hj=>by
  have hp':=a3D.1 hp
  have hv:=RS.mem_ents.1 (hV v a1V)
  have hvt:=h.top v.1 v.2.1 hv.2.1 hv.2.2.1
  have hM':∀i,i<n→-1≤putM M v i∧putM M v i<k∧∀w∈V,w.2.1=i→putM M v i<w.2.2:=fun i hi=>by
   unfold putM
   by_cases g:i=v.2.1
   ·rw[if_pos g,hv.2.2.2]
    refine⟨by omega,hvt.2,fun w hw hwi=>?_⟩
    have hw2:=RS.mem_ents.1 (hV w (a2K _ hw))
    have hlt:=hp'.1 w hw
    rw[hw2.2.2.2]
    have hj':w.2.1=v.2.1:=hwi.trans g
    have he:v.1<w.1:=by unfold ltK at hlt;omega
    have:=h.up v.1 w.1 v.2.1 he hv.2.1 hv.2.2.1 (by rw[←hj'];exact hw2.2.2.1)
    rw[hj']
    exact this
   ·rw[if_neg g]
    have:=hM i hi
    exact⟨this.1,this.2.1,fun w hw hwi=>this.2.2 w (a2K _ hw) hwi⟩
  obtain⟨⟨g1,g2⟩,g3⟩:=fold_med h V hp'.2 (fun w hw=>hV w (a2K _ hw)) (putM M v) hM' j hj
  have e:(v :: V).foldl putM M=V.foldl putM (putM M v):=rfl
  rw[e]
  have hle:M j≤putM M v j:=by
   unfold putM
   split
   ·rename_i g
    have:=(hM j hj).2.2 v a1V g.symm
    omega
   ·exact a1Q _
  refine⟨⟨a3Z hle g1,g2⟩,?_⟩
  rcases g3 with⟨g4,g5⟩|⟨w,hw,hwj,g4,g5⟩
  ·by_cases g:j=v.2.1
   ·right
    refine⟨v,List.mem_cons_self,g.symm,by rw[g4];unfold putM;rw[if_pos g],fun w' hw' hj'=>?_⟩
    rcases a0Z.1 hw' with g6|g6
    ·rw[g6];exact a1Q _
    ·exact absurd hj' (g5 w' g6)
   ·left
    refine⟨by rw[g4];unfold putM;rw[if_neg g],fun w hw=>?_⟩
    rcases a0Z.1 hw with g6|g6
    ·subst g6;exact fun e=>g e.symm
    ·exact g5 w g6
  ·right
   refine⟨w,a2K _ hw,hwj,g4,fun w' hw' hj'=>?_⟩
   rcases a0Z.1 hw' with g6|g6
   ·subst g6
    have:=(hM' w'.2.1 hv.2.1).2.2 w hw (hwj.trans hj'.symm)
    unfold putM at this
    rw[if_pos rfl] at this
    omega
   ·exact g5 w' g6 hj'
theorem write {n:Nat} {s s':RS} {k:Int} (h:Asc n s k) (p:Wt→Prop) [DecidablePred p] (he:s'.ents n=(s.ents n).filter fun w=>!decide (p w))
  (hM:∀j,j<n→s'.M j=((s.ents n).filter fun w=>decide (p w)).foldl putM s.M j) (hlow:∀e e' j,e<e'→j<n→s.ep e j≠-1→s.ep e' j≠-1→p (e',j,s.ep e' j)→p (e,j,s.ep e j)):Asc n s' k:=by
 have hin:∀e j,s'.ep e j≠-1→e<s'.E.length:=fun e j g=>a0Q fun g2=>g (by
  show(s'.E.getD e (fun _=>-1)) j=-1
  rw[a0A,a0V (by omega)]
  rfl)
 have hne:∀e j,j<n→s'.ep e j≠-1→s'.ep e j=s.ep e j∧¬p (e,j,s.ep e j)∧s.ep e j≠-1:=fun e j hj g=>by
  have h1:(e,j,s'.ep e j)∈s'.ents n:=RS.mem_ents.2 ⟨hin e j g,hj,g,rfl⟩
  rw[he,a3J] at h1
  obtain⟨h2,h3⟩:=h1
  have h2:=RS.mem_ents.1 h2
  simp only[a3P,decide_eq_false_iff_not] at h3
  have e1:s'.ep e j=s.ep e j:=h2.2.2.2
  rw[e1] at h3
  exact⟨e1,h3,h2.2.2.1⟩
 have hf:=fold_med h ((s.ents n).filter fun w=>decide (p w)) ((RS.ents_sorted n s).filter _) (fun w hw=>(a3J.1 hw).1) s.M fun j hj=>⟨(h.med j hj).1,(h.med j hj).2,fun w hw hwj=>by
  have:=RS.mem_ents.1 (a3J.1 hw).1
  rw[this.2.2.2,←hwj]
  exact h.old w.1 w.2.1 this.2.1 this.2.2.1⟩
 refine⟨fun e j hj g=>?_,fun j hj=>?_,fun e e' j hee hj g g'=>?_,fun e j hj g=>?_⟩
 ·obtain⟨g1,_,g3⟩:=hne e j hj g
  rw[g1]
  exact h.top e j hj g3
 ·rw[hM j hj]
  have:=(hf j hj).1
  have:=h.med j hj
  omega
 ·obtain⟨g1,_,g3⟩:=hne e j hj g
  obtain⟨k1,_,k3⟩:=hne e' j hj g'
  rw[g1,k1]
  exact h.up e e' j hee hj g3 k3
 ·obtain⟨g1,g2,g3⟩:=hne e j hj g
  rw[g1,hM j hj]
  rcases(hf j hj).2 with⟨k1,_⟩|⟨w,hw,hwj,k1,_⟩
  ·rw[k1];exact h.old e j hj g3
  ·rw[k1]
   obtain⟨k2,k3⟩:=a3J.1 hw
   have k2:=RS.mem_ents.1 k2
   simp only[decide_eq_true_eq] at k3
   obtain⟨a,b,c⟩:=w
   simp only at hwj k2 k3 ⊢
   subst hwj
   rw[k2.2.2.2]
   rcases a3G a e with q|q|q
   ·exact h.up a e b q hj k2.2.2.1 g3
   ·subst q
    rw[k2.2.2.2] at k3
    exact absurd k3 g2
   ·rw[k2.2.2.2] at k3
    exact absurd (hlow e a b q hj g3 k2.2.2.1 k3) g2
theorem order {n:Nat} {s:RS} {k:Nat} (h:Asc n s k) (he:0<s.E.length) {o:Int×Int} (ho:o.1=1∨o.1=2→0≤o.2∧o.2<n):Asc n (s.order n k o) ((k:Int)+1):=by
 obtain⟨h1,h2,h3,h4⟩:=RS.order_ents (n:=n) (s:=s) he (k:=k) ho
 have hput:o.1=1∨o.1=2→Asc n (s.setE (s.E.length-1) o.2.toNat k) ((k:Int)+1):=fun g=>by
  have hb:=ho g
  have hep:=RS.ep_setE (s:=s) (e:=s.E.length-1) (b:=o.2.toNat) (v:=(k:Int)) (by omega)
  have hout:∀e j,s.ep e j≠-1→e≤s.E.length-1:=fun e j g=>a0Q fun g2=>g (by
   show(s.E.getD e (fun _=>-1)) j=-1
   rw[a0A,a0V (by omega)]
   rfl)
  refine⟨fun e j hj g=>?_,fun j hj=>?_,fun e e' j hee hj g g'=>?_,fun e j hj g=>?_⟩
  ·rw[hep] at g ⊢
   split
   ·omega
   ·rename_i g2
    rw[if_neg g2] at g
    have:=h.top e j hj g
    omega
  ·have:=h.med j hj
   show -1≤s.M j∧s.M j<_
   omega
  ·rw[hep] at g g' ⊢
   rw[hep]
   by_cases q:e=s.E.length-1∧j=o.2.toNat
   ·exfalso
    rw[if_neg (by omega)] at g'
    have:=hout e' j g'
    omega
   ·rw[if_neg q] at g ⊢
    by_cases q2:e'=s.E.length-1∧j=o.2.toNat
    ·rw[if_pos q2]
     exact(h.top e j hj g).2
    ·rw[if_neg q2] at g' ⊢
     exact h.up e e' j hee hj g g'
  ·rw[hep] at g ⊢
   show s.M j<_
   split
   ·exact(h.med j hj).2
   ·rename_i q
    rw[if_neg q] at g
    exact h.old e j hj g
 by_cases c1:o.1=1
 ·rw[h1 c1];exact hput (.inl c1)
 by_cases c2:o.1=2
 ·obtain⟨g1,g2,g3⟩:=h2 c2
  have hl:(s.setE (s.E.length-1) o.2.toNat k).E.length=s.E.length:=by simp[RS.setE]
  refine write (hput (.inr c2)) (fun w=>w.1<s.E.length-1∨w.2.1=o.2.toNat) g1 (fun j _=>by rw[g2];rfl) fun e e' j hee _ _ _ hp=>?_
  rcases hp with hp|hp
  ·left;dsimp only at hp ⊢;omega
  ·exact .inr hp
 by_cases c3:o.1=3
 ·obtain⟨g1,g2,g3⟩:=h3 c3
  refine write (h.mono (by omega)) (fun _=>False) (by rw[g1,a4B.2 fun _ _=>by simp]) (fun j _=>by rw[g2,a3O.2 fun _ _=>by simp];rfl) fun e e' j _ _ _ _ hp=>hp
 by_cases c4:o.1=4
 ·obtain⟨g1,g2,g3⟩:=h4 c4
  refine write (h.mono (by omega)) (fun _=>True) (by rw[g1];exact(a3O.2 fun _ _=>by simp).symm) (fun j _=>by rw[g2,a4B.2 fun _ _=>by simp]) fun e e' j _ _ _ _ hp=>hp
 ·have:s.order n k o=s:=by unfold RS.order;rw[if_neg c1,if_neg c2,if_neg c3,if_neg c4]
  rw[this]
  exact h.mono (by omega)
theorem run {n:Nat} {l:List (Int×Int)} (hl:∀o∈l,o.1=1∨o.1=2→0≤o.2∧o.2<n):∀k,k≤l.length→Asc n (RS.run n l k) k
 |0,_=>begin n
 |k+1,hk=>by
  have h:=run hl k (by omega)
  have e:l.getD k (0,0)=l[k]:=by rw[a0A,a0C (by omega)];rfl
  have:=order h (RS.run_len n l k).1 (o:=l.getD k (0,0)) (by rw[e];exact hl _ (a0N (by omega)))
  rw[show((k+1:Nat):Int)=(k:Int)+1 by omega]
  exact this
end Asc
theorem medC_up {n:Nat} {s:RS} {k:Int} (h:Asc n s k) {o:List Nat} (ho:IsCrs (s.ents n) o):∀i,i<(s.ents n).length→∀j,j<n→medC (s.ents n) s.M o i j≤medC (s.ents n) s.M o (i+1) j:=by
 -- what stands in a block behind the first i is older than what comes
 have hlt:∀i,i≤(s.ents n).length→∀j,j<n→∀q,i≤q→q<(s.ents n).length→(entC (s.ents n) o q).2.1=j→medC (s.ents n) s.M o i j<(entC (s.ents n) o q).2.2:=by
  intro i
  induction i with
  |zero=>
   intro _ j hj q _ hq hqj
   have:=RS.mem_ents.1 (entC_mem ho hq)
   show s.M j<_
   rw[this.2.2.2,←hqj]
   exact h.old _ _ this.2.1 this.2.2.1
  |succ i ih=>
   intro hi j hj q hiq hq hqj
   show putM _ (entC (s.ents n) o i) j<_
   unfold putM
   split
   ·rename_i hji
    have hm:=RS.mem_ents.1 (entC_mem ho (show i<(s.ents n).length by omega))
    have hq2:=RS.mem_ents.1 (entC_mem ho hq)
    rw[hm.2.2.2,hq2.2.2.2,hqj,←hji]
    have hasc:=ho.asc
    rw[a0T] at hasc
    have hio:i<o.length:=by rw[ho.len];omega
    have hqo:q<o.length:=by rw[ho.len];omega
    have hle:=hasc i q hio hqo (by omega)
    have e1:epW (s.ents n) o[i]=(entC (s.ents n) o i).1:=by unfold epW entC;rw[List.getD_eq_getElem?_getD (l:=o),List.getElem?_eq_getElem hio];rfl
    have e2:epW (s.ents n) o[q]=(entC (s.ents n) o q).1:=by unfold epW entC;rw[List.getD_eq_getElem?_getD (l:=o),List.getElem?_eq_getElem hqo];rfl
    rw[e1,e2] at hle
    have hne:(entC (s.ents n) o i).1≠(entC (s.ents n) o q).1:=fun g=>by
     have:=key_inj (RS.ents_sorted n s) (ho.getD_lt (show i<(s.ents n).length by omega)) (ho.getD_lt hq) g (hji.symm.trans hqj.symm)
     have hnd:=ho.nd
     rw[List.Nodup,a0T] at hnd
     refine hnd i q hio hqo (by omega) ?_
     rw[a0A,a0C hio,a0A,a0C hqo] at this
     simpa using this
    refine h.up _ _ j (by omega) hj ?_ ?_
    ·have:=hm.2.2.1;rw[←hji] at this;exact this
    ·have:=hq2.2.2.1;rw[hqj] at this;exact this
   ·exact ih (by omega) j hj q (by omega) hq hqj
 intro i hi j hj
 show _≤putM _ (entC (s.ents n) o i) j
 unfold putM
 split
 ·rename_i hji
  exact Int.le_of_lt (hlt i (by omega) j hj i (a0K _) hi hji.symm)
 ·exact a1Q _
theorem medC_le {n:Nat} {s:RS} {k:Int} (h:Asc n s k) {o:List Nat} (ho:IsCrs (s.ents n) o) {i:Nat}:∀{q:Nat},i≤q→q≤(s.ents n).length→∀j,j<n→medC (s.ents n) s.M o i j≤medC (s.ents n) s.M o q j
 |0,hiq,_,j,_=>by rw[Nat.le_zero.1 hiq];exact a1Q _
 |q+1,hiq,hq,j,hj=>by
  rcases a0I hiq with g|g
  ·exact a3Z (medC_le h ho (a2C g) (by omega) j hj) (medC_up h ho q (by omega) j hj)
  ·rw[g];exact a1Q _
end Go.Proofs.Ca
