/- Own work: texts of the proof of a law (Wp1, Wp2, Wp3, Wp5, Wp6). No condition. -/
import Derived.Test.YtkgjhinmndcmjaaGreatPart12
import Derived.Test.YtkgjhinmndcmjaaGreatPart19
import Derived.Test.YtkgjhinmndcmjaaGreatPart13
import Derived.Test.YtkgjhinmndcmjaaGreatPart0
import Derived.Test.YtkgjhinmndcmjaaGreatPart11
set_option linter.unusedVariables false
set_option linter.unusedSimpArgs false
namespace Go.Proofs.Ca
open Go Go.Sx
set_option maxRecDepth 100000
set_option maxHeartbeats 40000000
theorem all67 (n:Int):a0g Tryz.prog 173 false [.int .i64 n] (·=.agg (C6.all n).c):=by
 refine a0a Tryz.E_ok Tryz.func173 rfl (by kernel_rfl) ?_
 refine x1 ?_
 refine⟨Nat,fun i=>i≤6,fun i=>6-i,fun i=>[(4,.int .i64 i)],fun i=>[(0,.cells 140 (fillC n i).c)],fun _=>[],0,⟨by omega,some [some 0],?_⟩,?_⟩
 ·exact xc0
 ·intro i hi
  by_cases h6:i<6
  ·rcases six h6 with rfl|rfl|rfl|rfl|rfl|rfl
   ·refine x1 (fun hc=>?_)
    refine⟨1,⟨by dsimp only;omega,by dsimp only;omega⟩,some [some 0],?_⟩
    exact xc0
   ·refine x1 (fun hc=>?_)
    refine⟨2,⟨by dsimp only;omega,by dsimp only;omega⟩,some [some 0],?_⟩
    exact xc0
   ·refine x1 (fun hc=>?_)
    refine⟨3,⟨by dsimp only;omega,by dsimp only;omega⟩,some [some 0],?_⟩
    exact xc0
   ·refine x1 (fun hc=>?_)
    refine⟨4,⟨by dsimp only;omega,by dsimp only;omega⟩,some [some 0],?_⟩
    exact xc0
   ·refine x1 (fun hc=>?_)
    refine⟨5,⟨by dsimp only;omega,by dsimp only;omega⟩,some [some 0],?_⟩
    exact xc0
   ·refine x1 (fun hc=>?_)
    refine⟨6,⟨by dsimp only;omega,by dsimp only;omega⟩,some [some 0],?_⟩
    exact xc0
  ·obtain rfl:i=6:=by have hi:i≤6:=hi;omega
   refine x1 (fun hc=>?_)
   refine⟨_,rfl,?_⟩
   exact xc0
end Go.Proofs.Ca
namespace Go.Proofs.Ca
open Go Go.Sx
set_option maxRecDepth 100000
set_option maxHeartbeats 40000000
def stH (s:PS):List O:=[.cells 218 (stCs s 1),.row 140 6 s.E.length (eR s.E) false]
theorem current68 (s:PS) (hs:s.Sm):Sx.Callee Tryz.prog 175 [.ptr 0 0] (stH s) (fun v H=>v=.eptr 1 6 ((s.E.length:Int)-1).toNat 0∧H=stH s):=by
 have h1:=hs.ne
 have h2:=hs.len
 refine a0r Tryz.E_ok Tryz.func175 rfl (by kernel_rfl) ?_
 (repeat' ((conv=>whnf);first|(with_reducible first|apply spl|apply spl'|refine iJ ?_)<;>intro hc<;>try(exfalso;omega)|refine vcq ?_|refine dr 12 ?_));all_goals(try conv=>whnf);try exact trivial
 exact rfl
theorem stH_wr {s:PS} {e b:Nat} (he:e<s.E.length) (hb:b<6) (h:(s.ep e).get b≠-3):stH (s.wr e b) =
  [.cells 218 (let m:=s.M.set b ((s.ep e).get b);[.int .i64 m.a0,.int .i64 m.a1,.int .i64 m.a2,.int .i64 m.a3,.int .i64 m.a4,.int .i64 m.a5,.osl 1 s.E.length,.int .i64 (s.W+1)]),
   .row 140 6 s.E.length (fun j=>a2d (j=e) (eR s.E j) b [.int .i64 (-3)]) false]:=by
 rw[PS.wr_pos h,eR_set he hb]
 unfold stH stCs PS.ep
 simp only[a2H]
theorem write70 (s:PS) (hs:s.Sm) (e b:Nat) (he:e<s.E.length) (hb:b<6):Sx.Callee Tryz.prog 177 [.ptr 0 0,.int .i64 e,.int .i64 b] (stH s) (fun v H=>v=.tup []∧H=stH (s.wr e b)):=by
 have h2:=hs.len
 have h3:=hs.W
 refine a0r Tryz.E_ok Tryz.func177 rfl (by kernel_rfl) ?_
 rcases six hb with rfl|rfl|rfl|rfl|rfl|rfl
 all_goals
  (repeat' ((conv=>whnf);first|(with_reducible first|apply spl|apply spl'|refine iJ ?_)<;>intro hc<;>try(exfalso;omega)|refine vcq ?_|refine dr 12142013 ?_));all_goals(try conv=>whnf);try exact trivial
  ·rw[stH_wr he hb hc]
   rfl
  ·refine congrArg stH (PS.wr_neg (a0O.1 ?_)).symm
   exact hc
theorem writeAll69 (s:PS) (hs:s.Sm) (hW:s.W+6*s.E.length≤1000000000) (n:Nat) (hn:n≤s.E.length):Sx.Callee Tryz.prog 176 [.ptr 0 0,.int .i64 n] (stH s) (fun v H=>v=.tup []∧H=stH (s.wrE n)):=by
 have h2:=hs.len
 have h3:=hs.W
 refine a0r Tryz.E_ok Tryz.func176 rfl (by kernel_rfl) ?_
 refine x59 ?_
 refine⟨Nat,fun i=>i≤n,fun i=>n-i,fun i=>[(7,.int .i64 i)],fun i=>[(0,.cells 218 (stCs (s.wrE i) 1)),(1,.row 140 6 (s.wrE i).E.length (eR (s.wrE i).E) false)],fun _=>[],0,⟨by omega,some [some 0,some 1],?_⟩,?_⟩
 ·exact xc58
 ·intro i hi
  have hi:i≤n:=hi
  have hl:=PS.wrE_len s i
  have hw:=PS.wrE_W s i
  (repeat' ((conv=>whnf);first|(with_reducible first|apply spl|apply spl'|refine iJ ?_)<;>intro hc<;>try(exfalso;omega)|refine vcq ?_|refine dr 12142013 ?_|refine dr 12 ?_));all_goals(try conv=>whnf);try exact trivial
  ·refine⟨Nat,fun b=>b≤6,fun b=>6-b,fun b=>[(10,.int .i64 b)],fun b=>[(0,.cells 218 (stCs ((s.wrE i).wrB i b) 1)),(1,.row 140 6 ((s.wrE i).wrB i b).E.length (eR ((s.wrE i).wrB i b).E) false)],fun _=>[],0,⟨by omega,some [some 0,some 1],?_⟩,?_⟩
   ·exact xc58
   ·intro b hb
    have hb:b≤6:=hb
    have hl2:=PS.wrB_len (s.wrE i) i b
    have hw2:=PS.wrB_W (s.wrE i) i b
    (repeat' ((conv=>whnf);first|(with_reducible first|apply spl|apply spl'|refine iJ ?_)<;>intro hc<;>try(exfalso;omega)|refine vcq ?_|refine dr 12142013 ?_|refine dr 12 ?_));all_goals(try conv=>whnf);try exact trivial
    ·have hsm:((s.wrE i).wrB i b).Sm:=⟨by rw[hl2,hl];exact hs.ne,by rw[hl2,hl];exact h2,by omega⟩
     refine Callee.mono (write70 ((s.wrE i).wrB i b) hsm i b (by omega) (by omega)) ?_
     rintro _ _ ⟨rfl,rfl⟩
     refine x59 ?_
     refine⟨b+1,⟨by dsimp only;omega,by dsimp only;omega⟩,some [some 0,some 1],?_⟩
     exact xc58
    ·obtain rfl:b=6:=by omega
     refine x59 ?_
     refine⟨i+1,⟨by dsimp only;omega,by dsimp only;omega⟩,some [some 0,some 1],?_⟩
     exact xc58
  ·obtain rfl:i=n:=by omega
   refine x59 ?_
   exact rfl
end Go.Proofs.Ca
namespace Go.Proofs.Ca
open Go Go.Sx
set_option maxRecDepth 100000
set_option maxHeartbeats 40000000
theorem isNone87 (x:C6):a0g Tryz.prog 200 false [.agg x.c] (·=.prop (isN x=true) inferInstance):=by
 refine a0a Tryz.E_ok Tryz.func200 rfl (by kernel_rfl) ?_
 refine x15 ?_;(repeat' ((first|(refine a0b (all67 (-3)) rfl ?_;rintro _ rfl)|(refine a0d (all67 (-3)) rfl ?_)|(refine a0h (fun _=>all67 (-3)) rfl ?_));refine x15 ?_));(all_goals(try(refine⟨_,rfl,?_⟩;refine x15 ?_)))
 exact⟨C6.ext_iff'.symm.trans isN_iff.symm,trivial⟩
theorem isSome89 (x:C6):a0g Tryz.prog 202 false [.agg x.c] (·=.prop (isS x=true) inferInstance):=by
 refine a0a Tryz.E_ok Tryz.func202 rfl (by kernel_rfl) ?_
 refine x15 ?_;(repeat' ((first|(refine a0b (all67 (-3)) rfl ?_;rintro _ rfl)|(refine a0d (all67 (-3)) rfl ?_)|(refine a0h (fun _=>all67 (-3)) rfl ?_));refine x15 ?_));(all_goals(try(refine⟨_,rfl,?_⟩;refine x15 ?_)))
 exact⟨(not_congr C6.ext_iff'.symm).trans isS_iff.symm,trivial⟩
def TellC (p:C6→Bool):(Nat→Prop)→World→Value→Prop:=
 FnD Tryz.prog (fun x:C6=>[.agg x.c]) (fun x r=>r=.prop (p x=true) inferInstance)
theorem index88 (p:C6→Bool) (E:List C6) (hl:E.length≤1000000):a0g Tryz.prog 201 false [.sl 6 E.length (eR E),.sem (TellC p)] (·=.int .i64 (idxC p E)):=by
 refine a0a Tryz.E_ok Tryz.func201 rfl (by kernel_rfl) ?_
 refine x22 ?_
 refine⟨Nat,fun i=>i≤E.length∧∀j,j<i→p (E.getD j (C6.all (-3)))=false,fun i=>E.length-i,fun i=>[(8,.int .i64 i)],fun _=>[],fun _=>[],0,⟨⟨by omega,fun j h=>by omega⟩,none,?_⟩,?_⟩
 ·exact xc28
 ·rintro i ⟨hi,hp⟩
  refine x64 (fun hc=>?_) (fun hc=>?_)
  ·refine scall_fn (E.getD (i:Int).toNat (C6.all (-3))) rfl rfl ?_
   rintro _ rfl
   have hi:i<E.length:=by omega
   refine x64 (fun hc=>?_) (fun hc=>?_)
   ·refine⟨_,rfl,?_⟩
    refine x22 ?_
    exact⟨(idxC_some hi hc hp).symm,trivial⟩
   ·refine⟨i+1,⟨⟨by omega,fun j hj=>?_⟩,by dsimp only;omega⟩,none,?_⟩
    ·rcases a0I (show j≤i by omega) with h1|rfl
     ·exact hp j h1
     ·simpa using hc
    ·exact xc28
  ·refine⟨_,rfl,?_⟩
   refine x22 ?_
   exact⟨(idxC_none (fun j hj=>hp j (by omega))).symm,trivial⟩
theorem delete86 (p:C6→Bool) (E:List C6) (hl:E.length≤1000000) (m:Nat) (hm:m≤E.length):Sx.Callee Tryz.prog 199 [.win 0 6 0 m,.sem (TellC p)] [.row 140 6 E.length (eR E) false]
  (fun v H=>∃G:List C6,G.length=E.length∧v=.win 0 6 0 (a2s p E m).length∧H=[.row 140 6 E.length (eR G) false]∧∀i,i<(a2s p E m).length→G.getD i (C6.all (-3))=(a2s p E m).getD i (C6.all (-3))):=by
 have hlen:(E.take m).length=m:=by simp;omega
 refine a0k Tryz.E_ok Tryz.func199 rfl (by kernel_rfl) ?_
 refine x22 ?_
 refine a0u (index88 p (E.take m) (by simp;omega)) ?_
 refine x22 ?_
 refine⟨fun i hi=>?_,.inl rfl,?_⟩
 ·unfold eR a0e
  rw[take_getD hi,a3B]
 refine x22 ?_
 rintro _ rfl
 rcases idxC_spec p (E.take m) with⟨he,hn⟩|⟨k,he,hk,hp,hn⟩
 ·have hn':∀j,j<m→p (E.getD j (C6.all (-3)))=false:=fun j hj=>by rw[←take_getD hj];exact hn j (by omega)
  have hleft:=leftC_none hm hn'
  rw[he]
  refine x22 (fun hc=>?_)
  refine⟨_,_,⟨E,rfl,rfl,rfl,fun i hi=>?_⟩,some [some 0],?_⟩
  ·rw[hleft] at hi ⊢
   rw[take_getD (by omega)]
  ·rw[hleft,hlen]
   exact xc28
 ·rw[he]
  have hkm:k<m:=by omega
  rw[take_getD hkm] at hp
  have hn':∀j,j<k→p (E.getD j (C6.all (-3)))=false:=fun j hj=>by rw[←take_getD (show j<m by omega)];exact hn j hj
  have hl1:a2s p E (k+1)=E.take k:=by rw[leftC_succ (by omega),if_pos hp,leftC_none (by omega) hn']
  have hl2:(a2s p E (k+1)).length=k:=by rw[hl1];simp;omega
  refine x22 (fun hc=>?_)
  ·refine⟨Nat×List C6,fun i=>i.1≤m∧i.2.length=E.length∧(a2s p E i.1).length<i.1∧(∀a,a<(a2s p E i.1).length→i.2.getD a (C6.all (-3))=(a2s p E i.1).getD a (C6.all (-3)))∧∀a,i.1≤a→i.2.getD a (C6.all (-3))=E.getD a (C6.all (-3)),fun i=>m-i.1,fun i=>[(5,.int .i64 (a2s p E i.1).length),(6,.int .i64 i.1)],fun i=>[(0,.row 140 6 E.length (eR i.2) false)],fun _=>[],(k+1,E),⟨⟨by dsimp only;omega,rfl,by dsimp only;omega,fun a ha=>?_,fun a _=>rfl⟩,some [some 0],?_⟩,?_⟩
   ·dsimp only at ha ⊢
    rw[hl1] at ha ⊢
    rw[take_getD (by simp at ha;omega)]
   ·exact xc28
   ·rintro⟨j,G⟩ ⟨h1,h2,h3,h4,h5⟩
    dsimp only at h1 h2 h3 h4 h5
    have hle:=leftC_le p E j
    have hz:0+(j:Int).toNat=j:=by omega
    refine x64 (fun hc=>?_) (fun hc=>?_)
    ·refine scall_fn (G.getD (0+(j:Int).toNat) (C6.all (-3))) rfl rfl ?_
     rintro _ rfl
     rw[hz]
     have hjm:j<m:=by dsimp only at hc;omega
     have hgj:=h5 j (a0K j)
     have hsucc:=leftC_succ (p:=p) (E:=E) (j:=j) (by omega)
     refine x64 (fun hc=>?_) (fun hc=>?_)
     ·-- kept
      have hpf:¬p (E.getD j (C6.all (-3)))=true:=by rw[←hgj];assumption
      rw[if_neg hpf] at hsucc
      have hsl:(a2s p E (j+1)).length=(a2s p E j).length+1:=by rw[hsucc];simp
      refine⟨(j+1,G.set (a2s p E j).length (G.getD j (C6.all (-3)))),⟨⟨by dsimp only;omega,by dsimp only;rw[List.length_set];exact h2,by dsimp only;omega,fun a ha=>?_,fun a ha=>?_⟩,by dsimp only;omega⟩,some [some 0],?_⟩
      ·dsimp only at ha ⊢
       rw[hsl] at ha
       rw[hsucc]
       simp only[a0A,a0G,a1G] at h4 hgj ⊢
       by_cases hal:a<(a2s p E j).length
       ·rw[if_neg (by omega),if_pos hal]
        exact h4 a hal
       ·have:a=(a2s p E j).length:=by omega
        subst this
        rw[if_pos rfl,if_pos (by omega),if_neg (by omega)]
        simp[hgj]
      ·dsimp only at ha ⊢
       rw[←h5 a (by omega)]
       simp only[a0A,a0G]
       rw[if_neg (by omega)]
      ·refine x22 ?_
       refine⟨fun a _=>?_,?_⟩
       ·have:=congrFun (eR_all (G:=G) (e:=(a2s p E j).length) (by omega) (G.getD j (C6.all (-3)))) a
        simp only[a3B,a0E]
        exact this
       ·exact xc28
     ·-- dropped
      have hpt:p (E.getD j (C6.all (-3)))=true:=by rw[←hgj];exact a0O.1 (by assumption)
      rw[if_pos hpt] at hsucc
      refine⟨(j+1,G),⟨⟨by dsimp only;omega,h2,by dsimp only;rw[hsucc];omega,fun a ha=>?_,fun a ha=>?_⟩,by dsimp only;omega⟩,some [some 0],?_⟩
      ·dsimp only at ha ⊢
       rw[hsucc] at ha ⊢
       exact h4 a ha
      ·dsimp only at ha ⊢
       exact h5 a (by omega)
      ·rw[←hsucc]
       exact xc28
    ·have hjm:j=m:=by dsimp only at hc;omega
     subst hjm
     have hcl:=fun k=>clearC_getD (G:=G) (a:=(a2s p E j).length) (b:=j-(a2s p E j).length) (k:=k)
     refine⟨_,_,⟨clearC G (a2s p E j).length (j-(a2s p E j).length),by unfold clearC;simp[h2],rfl,rfl,fun i hi=>?_⟩,some [some 0],?_⟩
     ·rw[hcl i (by omega),if_neg (by omega)]
      exact h4 i hi
     ·refine x22 ?_
      refine⟨fun a ha=>?_,?_⟩
      ·unfold eR a0e
       rw[hcl a (by omega)]
       have e1:(((a2s p E j).length:Nat):Int).toNat=(a2s p E j).length:=by omega
       have e2:((j:Int)-((a2s p E j).length:Nat)).toNat=j-(a2s p E j).length:=by omega
       simp only[a3B,e1,e2]
       split<;>rfl
      ·exact xc28
def stH2 (s:PS):List O:=[.cells 218 (stCs s 2),.gone,.row 140 6 s.E.length (eR s.E) false]
theorem tidy71 (s:PS) (hs:s.Sm):Sx.Callee Tryz.prog 178 [.ptr 0 0] (stH s) (fun v H=>v=.tup []∧H=stH2 s.tidy):=by
 have h1:=hs.ne
 have h2:=hs.len
 refine a0k Tryz.E_ok Tryz.func178 rfl (by kernel_rfl) ?_
 refine x75 ?_
 refine Callee.mono (current68 s hs) ?_
 rintro _ _ ⟨rfl,rfl⟩
 refine x75 ?_
 refine a0c [1] (delete86 isN s.E h2 (s.E.length-1) (by omega)) rfl ?_ ?_
 ·refine x22 ?_
  refine⟨semOb_fn (a':=[]) (b':=[]) (fun i=>isNone87 i) (plain_of Tryz.func200 (by kernel_rfl) (by kernel_rfl)) ?_,?_⟩
  ·exact xc28
  ·exact xc28
 ·rintro _ _ ⟨G,hG,rfl,rfl,hg⟩
  have hle:=leftC_le isN s.E (s.E.length-1)
  have hE:=tidy_E s
  have hEl:s.tidy.E.length=(a2s isN s.E (s.E.length-1)).length+1:=by rw[hE];simp
  refine x75 ?_
  have hn:((s.E.length:Int)-1).toNat=s.E.length-1:=by omega
  refine⟨_,_,⟨rfl,rfl⟩,some [some 0,some 1,some 4],?_⟩
  refine x22 ?_
  refine⟨?_,?_⟩
  ·rw[hE,hn]
   exact eR_snoc hg
  ·exact xc28
end Go.Proofs.Ca
namespace Go.Proofs.Ca
open Go Go.Sx
set_option maxRecDepth 100000
set_option maxHeartbeats 40000000
theorem first72 (s:PS) (hl:s.E.length≤1000000):a0g Tryz.prog 179 false [stI s] (·=.tup [.int .i64 (idxC isS s.E),.prop (0≤idxC isS s.E) inferInstance]):=by
 refine a0a Tryz.E_ok Tryz.func179 rfl (by kernel_rfl) ?_
 refine x1 ?_
 refine a0u (index88 isS s.E hl) ?_
 refine x1 ?_
 refine⟨semOb_fn (a':=[]) (b':=[]) (fun i=>isSome89 i) (plain_of Tryz.func202 (by kernel_rfl) (by kernel_rfl)) ?_,?_⟩
 ·exact xc0
 ·rintro _ rfl
  refine x1 ?_
  refine⟨_,rfl,?_⟩
  exact xc0
theorem can52 (s:PS) (hl:s.E.length≤1000000) (b:Nat) (hb:b<6):a0g Tryz.prog 157 false [stI s,.int .i64 b] (·=.prop (s.can b) inferInstance):=by
 have hlt:=idxC_spec isS s.E
 refine a0a Tryz.E_ok Tryz.func157 rfl (by kernel_rfl) ?_
 rcases six hb with rfl|rfl|rfl|rfl|rfl|rfl
 all_goals
  refine x1 ?_
  refine a0b (first72 s hl) rfl ?_
  rintro _ rfl
  refine x1 ?_
  refine⟨_,rfl,?_⟩
  exact xc0
theorem begin42:NewC Tryz.prog 151 [] (fun r H=>r=.ptr 0 0∧H=stH PS.begin):=by
 refine newC_ent Tryz.E_ok Tryz.func151 rfl (by kernel_rfl) ?_
 refine x1 ?_;(repeat' ((first|(refine a0b (all67 (-1)) rfl ?_;rintro _ rfl)|(refine a0d (all67 (-1)) rfl ?_)|(refine a0h (fun _=>all67 (-1)) rfl ?_)|(refine a0b (all67 (-3)) rfl ?_;rintro _ rfl)|(refine a0d (all67 (-3)) rfl ?_)|(refine a0h (fun _=>all67 (-3)) rfl ?_));refine x1 ?_));(all_goals(try(refine⟨_,rfl,?_⟩;(repeat' ((conv=>whnf);first|(with_reducible first|apply spl|apply spl'|refine iJ ?_)<;>intro hc<;>try(exfalso;omega)|refine vcq ?_|fail));all_goals((try conv=>whnf);try exact trivial))))
 refine⟨_,_,⟨rfl,rfl⟩,some [some 1,some 0],?_⟩
 refine x1 ?_
 refine⟨fun i hi=>?_,?_⟩
 ·obtain rfl:i=0:=by omega
  rfl
 ·exact xc0
theorem clone90 (E:List C6) (hl:0<E.length∧E.length≤1000000):NewC Tryz.prog 174 [.sl 6 E.length (eR E)] (fun r H=>r=.osl 0 E.length∧H=[.row 140 6 E.length (eR E) false]):=by
 refine newC_ent Tryz.E_ok Tryz.func174 rfl (by kernel_rfl) ?_
 refine x1 ?_
 refine⟨_,_,⟨rfl,rfl⟩,some [some 1],?_⟩
 exact xc0
theorem clone75 (s:PS) (hs:s.Sm):NewC Tryz.prog 153 [stI s] (fun r H=>r=.ptr 0 0∧H=stH s):=by
 have h1:=hs.ne
 have h2:=hs.len
 refine newC_ent Tryz.E_ok Tryz.func153 rfl (by kernel_rfl) ?_
 refine x1 ?_
 refine a2l (clone90 s.E ⟨h1,h2⟩) rfl ?_
 rintro _ _ ⟨rfl,rfl⟩
 refine x1 ?_
 refine⟨_,_,⟨rfl,rfl⟩,some [some 0,some 1],?_⟩
 exact xc0
theorem first72o (s:PS) (hl:s.E.length≤1000000):Sx.Callee Tryz.prog 179 [.ptr 0 0] (stH s) (fun v H=>v=.tup [.int .i64 (idxC isS s.E),.prop (0≤idxC isS s.E) inferInstance]∧H=stH s):=by
 refine a0u (first72 s hl) ?_
 refine x1 ?_
 rintro _ rfl
 exact⟨rfl,rfl⟩
theorem drain53 (s:PS) (hs:s.Sm) (hW:s.W≤100000) (b:Nat) (hb:b<6) (hf:0≤idxC isS s.E):Sx.Callee Tryz.prog 181 [.ptr 0 0,.int .i64 b] (stH s) (fun v H=>v=.tup []∧H=stH2 (s.drain b)):=by
 have h1:=hs.ne
 have h2:=hs.len
 have h3:=hs.W
 have hi:(idxC isS s.E).toNat<s.E.length:=by
  rcases idxC_spec isS s.E with⟨h,_⟩|⟨i,h,h5,_⟩
  ·omega
  ·omega
 obtain⟨k,hk⟩:∃k:Nat,idxC isS s.E=k:=⟨(idxC isS s.E).toNat,by omega⟩
 have hw:=write70 s hs k b (by omega) hb
 have hsm:=hs.wr (e:=k) (b:=b) (by omega)
 have ht:=tidy71 _ hsm
 have hd:s.drain b=(s.wr k b).tidy:=by unfold PS.drain;rw[hk];rfl
 rw[hd]
 refine a0r Tryz.E_ok Tryz.func181 rfl (by kernel_rfl) ?_
 refine x1 ?_
 refine Callee.mono (first72o s h2) ?_
 rintro _ _ ⟨rfl,rfl⟩
 rw[hk]
 refine x1 ?_
 refine Callee.mono hw ?_
 rintro _ _ ⟨rfl,rfl⟩
 refine x1 ?_
 refine Callee.mono ht ?_
 rintro _ _ ⟨rfl,rfl⟩
 exact xc0
end Go.Proofs.Ca
namespace Go.Proofs.Ca
open Go Go.Sx
set_option maxRecDepth 100000
set_option maxHeartbeats 40000000
theorem shape76 (s:PS) (_hl:s.E.length≤1000000):a0g Tryz.prog 155 false [stI s] (·=.agg (shC s)):=by
 refine a0a Tryz.E_ok Tryz.func155 rfl (by kernel_rfl) ?_
 (repeat' ((conv=>whnf);first|(with_reducible first|apply spl|apply spl'|refine iJ ?_)<;>intro hc<;>try(exfalso;omega)|refine vcq ?_|refine dr 11 ?_|refine dr 6 ?_));all_goals(try conv=>whnf);try exact trivial
 refine⟨_,rfl,?_⟩
 (repeat' ((conv=>whnf);first|(with_reducible first|apply spl|apply spl'|refine iJ ?_)<;>intro hc<;>try(exfalso;omega)|refine vcq ?_|refine dr 11 ?_|refine dr 6 ?_));all_goals(try conv=>whnf);try exact trivial
theorem nnew_intro {P:Program} {g:FuncId} {args:List V} {R:V→List O→Prop} {F:V→List O→Prop} {G G2:Prop} (h:NewC P g args R) (hfo:foL args=true) (hf:∀v obs,R v obs→F v obs):G∨(∃R,NNew P g args R∧∀v obs,R v obs→F v obs)∨G2:=by
 refine .inr (.inl ⟨R,?_,hf⟩)
 unfold NNew
 exact⟨hfo,h⟩
theorem clone91n (D:List (Int×Int)) (hl:0<D.length∧D.length≤1000000):NewC Tryz.prog 180 [drV D] (fun r H=>r=.osl 0 D.length∧H=[.row 221 2 D.length (a0e oC (0,0) D) false]):=by
 refine newC_ent Tryz.E_ok Tryz.func180 rfl (by kernel_rfl) ?_
 refine x9 ?_
 refine⟨_,_,⟨rfl,rfl⟩,some [some 1],?_⟩
 exact xc38
theorem clone91z (cap:Nat):a0g Tryz.prog 180 false [.lit (.slice none 0 cap)] (·=.lit (.slice none 0 0)):=by
 refine a0a Tryz.E_ok Tryz.func180 rfl (by kernel_rfl) ?_
 refine x9 ?_
 refine⟨_,rfl,?_⟩
 exact xc38
theorem clone91s (a:Addr) (cap:Nat):NewC Tryz.prog 180 [.lit (.slice (some a) 0 cap)] (fun r H=>r=.osl 0 0∧H=[.row 221 2 0 (a0e oC (0,0) []) false]):=by
 refine newC_ent Tryz.E_ok Tryz.func180 rfl (by kernel_rfl) ?_
 refine x9 ?_
 refine⟨_,_,⟨rfl,rfl⟩,some [some 1],?_⟩
 exact xc38
theorem with78n (t:Trip) (hs:t.s.Sm) (hl:0<t.D.length∧t.D.length≤100000) (hW:t.s.W≤100000) (a:Int) (b:Nat) (hb:b<6) (hf:0≤idxC isS t.s.E):a0g Tryz.prog 158 false [trV t,.agg [.int .i64 a,.int .i64 b]] (·=trV (t.with (a,(b:Int)))):=by
 have hd:=drain53 t.s hs hW b hb hf
 refine a0a Tryz.E_ok Tryz.func158 rfl (by kernel_rfl) ?_
 refine x9 ?_
 refine nnew_intro (clone75 t.s hs) rfl ?_
 rintro _ _ ⟨rfl,rfl⟩
 refine x9 ?_
 refine nnew_intro (clone91n t.D ⟨hl.1,by omega⟩) rfl ?_
 rintro _ _ ⟨rfl,rfl⟩
 refine x9 ?_
 refine a0c [5,6] hd rfl ?_ ?_
 ·exact xc38
 ·rintro _ _ ⟨rfl,rfl⟩
  refine x9 ?_
  refine⟨_,rfl,?_⟩
  have e1:(t.with (a,(b:Int))).s=t.s.drain b:=by simp[Trip.with]
  have e2:(t.with (a,(b:Int))).D=t.D++[(a,(b:Int))]:=rfl
  unfold trV
  rw[e1,e2]
  refine x9 ?_
  refine⟨by simp,a1q (c:=oC) (a:=(a,(b:Int))) (l:=t.D) rfl (fun _ _=>rfl),.inr fun i hi=>rfl,?_⟩
  exact xc38
theorem with78z (t:Trip) (hs:t.s.Sm) (hl:t.D=[]) (hW:t.s.W≤100000) (a:Int) (b:Nat) (hb:b<6) (hf:0≤idxC isS t.s.E) (cap:Nat):a0g Tryz.prog 158 false [.agg [stI t.s,.lit (.slice none 0 cap)],.agg [.int .i64 a,.int .i64 b]] (·=trV (t.with (a,(b:Int)))):=by
 have hd:=drain53 t.s hs hW b hb hf
 refine a0a Tryz.E_ok Tryz.func158 rfl (by kernel_rfl) ?_
 refine x9 ?_
 refine nnew_intro (clone75 t.s hs) rfl ?_
 rintro _ _ ⟨rfl,rfl⟩
 refine x9 ?_
 refine a0d (clone91z cap) rfl ?_
 refine x9 ?_
 refine a0c [5,6] hd rfl ?_ ?_
 ·exact xc38
 ·rintro _ _ ⟨rfl,rfl⟩
  refine x9 ?_
  refine⟨_,rfl,?_⟩
  have e1:(t.with (a,(b:Int))).s=t.s.drain b:=by simp[Trip.with]
  have e2:(t.with (a,(b:Int))).D=t.D++[(a,(b:Int))]:=rfl
  unfold trV
  rw[e1,e2]
  refine x9 ?_
  rw[hl]
  refine⟨rfl,fun i hi=>?_,.inr fun i hi=>rfl,?_⟩
  ·have:i=0:=by omega
   subst this
   rfl
  exact xc38
theorem with78s (t:Trip) (hs:t.s.Sm) (hl:t.D=[]) (hW:t.s.W≤100000) (a:Int) (b:Nat) (hb:b<6) (hf:0≤idxC isS t.s.E) (ad:Addr) (cap:Nat):a0g Tryz.prog 158 false [.agg [stI t.s,.lit (.slice (some ad) 0 cap)],.agg [.int .i64 a,.int .i64 b]] (·=trV (t.with (a,(b:Int)))):=by
 have hd:=drain53 t.s hs hW b hb hf
 refine a0a Tryz.E_ok Tryz.func158 rfl (by kernel_rfl) ?_
 refine x9 ?_
 refine nnew_intro (clone75 t.s hs) rfl ?_
 rintro _ _ ⟨rfl,rfl⟩
 refine x9 ?_
 refine nnew_intro (clone91s ad cap) rfl ?_
 rintro _ _ ⟨rfl,rfl⟩
 refine x9 ?_
 refine a0c [5,6] hd rfl ?_ ?_
 ·exact xc38
 ·rintro _ _ ⟨rfl,rfl⟩
  refine x9 ?_
  refine⟨_,rfl,?_⟩
  have e1:(t.with (a,(b:Int))).s=t.s.drain b:=by simp[Trip.with]
  have e2:(t.with (a,(b:Int))).D=t.D++[(a,(b:Int))]:=rfl
  unfold trV
  rw[e1,e2]
  refine x9 ?_
  rw[hl]
  refine⟨rfl,fun i hi=>?_,.inr fun i hi=>rfl,?_⟩
  ·have:i=0:=by omega
   subst this
   rfl
  exact xc38
theorem with78 (t:Trip) (hs:t.s.Sm) (hl:t.D.length≤100000) (hW:t.s.W≤100000) (a:Int) (b:Nat) (hb:b<6) (hf:0≤idxC isS t.s.E):a0g Tryz.prog 158 false [trV t,.agg [.int .i64 a,.int .i64 b]] (·=trV (t.with (a,(b:Int)))):=by
 rcases a3C t.D.length with h0|h0
 ·have h0':t.D=[]:=List.length_eq_zero_iff.1 h0
  refine⟨(with78z t hs h0' hW a b hb hf 0).1,fun I w vals hI hd=>?_⟩
  obtain⟨v,vs,rfl,⟨us,rfl,h1,p,_,rfl,hp,q,_,rfl,hq,rfl⟩,h2⟩:=hd
  have hq:Den I [] w (.sl 2 0 (a0e oC (0,0) t.D)) q:=by
   have:=hq
   unfold drV at this
   rwa [h0] at this
  obtain⟨ad,cap,rfl⟩:=sl0_lit hq
  cases ad with
  |none=>exact(with78z t hs h0' hW a b hb hf cap).2 I w _ hI ⟨_,_,rfl,⟨_,rfl,h1,p,_,rfl,hp,_,_,rfl,rfl,rfl⟩,h2⟩
  |some ad=>exact(with78s t hs h0' hW a b hb hf ad cap).2 I w _ hI ⟨_,_,rfl,⟨_,rfl,h1,p,_,rfl,hp,_,_,rfl,rfl,rfl⟩,h2⟩
 ·exact with78n t hs ⟨h0,hl⟩ hW a b hb hf
end Go.Proofs.Ca
