/- Own work: texts of the proof of a law (Wp4). No condition. -/
import Derived.Test.YtkgjhinmndcmjaaGreatPart20
import Derived.Test.YtkgjhinmndcmjaaGreatPart0
import Derived.Test.YtkgjhinmndcmjaaGreatPart11
set_option linter.unusedVariables false
set_option linter.unusedSimpArgs false
namespace Go.Proofs.Ca
open Go Go.Sx
set_option maxRecDepth 100000
set_option maxHeartbeats 40000000
theorem stH_put {s:PS} (hs:s.Sm) {b:Nat} (hb:b<6) (n:Int):stH (s.put b n)=[.cells 218 (stCs s 1),.row 140 6 s.E.length (fun j=>a2d (j=s.E.length-1) (eR s.E j) b [.int .i64 n]) false]:=by
 have h1:=hs.ne
 rw[eR_set (by omega) hb]
 unfold stH stCs PS.put PS.ep
 simp only[a2H]
theorem order43 (s:PS) (hs:s.Sm) (hl:s.E.length≤1000) (hW:s.W≤100000) (k:Int) (o:Int×Int) (ho:o.1=1∨o.1=2→0≤o.2∧o.2<6):Sx.Callee Tryz.prog 154 [.ptr 0 0,.int .i64 k,oV o] (stH s) (fun v H=>v=.tup []∧H=stH2 (s.order k o)):=by
 have h1:=hs.ne
 have h2:=hs.len
 have h3:=hs.W
 have hn:((s.E.length:Int)-1).toNat=s.E.length-1:=by omega
 refine a0k Tryz.E_ok Tryz.func154 rfl (by kernel_rfl) ?_
 by_cases c1:o.1=1
 ·obtain⟨b,hb,e⟩:∃b:Nat,b<6∧o.2=b:=⟨o.2.toNat,by have:=ho (.inl c1);omega,by have:=ho (.inl c1);omega⟩
  obtain⟨o1,o2⟩:=o
  dsimp only at c1 e
  subst c1 e
  have ht:=tidy71 (s.put b k) (hs.put b k)
  have ho':s.order k (1,(b:Int))=(s.put b k).tidy:=rfl
  rw[ho']
  rcases six hb with rfl|rfl|rfl|rfl|rfl|rfl
  all_goals
   refine x13 (fun hc=>?_)
   refine a0c [0,1] (current68 s hs) rfl ?_ ?_
   ·exact xc14
   ·rintro _ _ ⟨rfl,rfl⟩
    refine x13 ?_
    refine a0c [0,1] ht rfl ?_ ?_
    ·rw[stH_put hs (by omega),←hn]
     exact xc14
    ·rintro _ _ ⟨rfl,rfl⟩
     refine x13 ?_
     refine⟨_,_,⟨rfl,rfl⟩,some [some 0,some 1,some 3],?_⟩
     exact xc14
 by_cases c2:o.1=2
 ·obtain⟨b,hb,e⟩:∃b:Nat,b<6∧o.2=b:=⟨o.2.toNat,by have:=ho (.inr c2);omega,by have:=ho (.inr c2);omega⟩
  obtain⟨o1,o2⟩:=o
  dsimp only at c1 c2 e
  subst c2 e
  have hp:=hs.put b k
  have hpl:(s.put b k).E.length=s.E.length:=by unfold PS.put;simp
  have hwa:=writeAll69 (s.put b k) hp (by rw[hpl];have:(s.put b k).W=s.W:=rfl;omega) (s.E.length-1) (by rw[hpl];omega)
  have hel:=PS.wrE_len (s.put b k) (s.E.length-1)
  have hew:=PS.wrE_W (s.put b k) (s.E.length-1)
  have hpw:(s.put b k).W=s.W:=rfl
  generalize hs2:(s.put b k).wrE (s.E.length-1)=s2 at *
  have hsm2:s2.Sm:=⟨by omega,by omega,by omega⟩
  have hw:=write70 s2 hsm2 (s.E.length-1) b (by omega) hb
  have hsm3:=hsm2.wr (e:=s.E.length-1) (b:=b) (by omega)
  have ht:=tidy71 (s2.wr (s.E.length-1) b) hsm3
  have ho':s.order k (2,(b:Int))=(s2.wr (s.E.length-1) b).tidy:=by rw[←hs2];rfl
  rw[ho']
  have hl2:(s.E.length:Int)-1=((s.E.length-1:Nat):Int):=by omega
  rcases six hb with rfl|rfl|rfl|rfl|rfl|rfl
  all_goals
   refine x13 (fun hc hc=>?_)
   refine a0c [0,1] (current68 s hs) rfl ?_ ?_
   ·exact xc14
   ·rintro _ _ ⟨rfl,rfl⟩
    refine x13 ?_
    refine a0c [0,1] hwa rfl ?_ ?_
    ·rw[stH_put hs (by omega),←hn]
     exact xc14
    ·rintro _ _ ⟨rfl,rfl⟩
     refine x13 ?_
     refine a0c [0,1] hw rfl ?_ ?_
     ·exact xc14
     ·rintro _ _ ⟨rfl,rfl⟩
      refine x13 ?_
      refine a0c [0,1] ht rfl ?_ ?_
      ·exact xc14
      ·rintro _ _ ⟨rfl,rfl⟩
       refine x13 ?_
       refine⟨_,_,⟨rfl,rfl⟩,some [some 0,some 1,some 3],?_⟩
       exact xc14
 by_cases c3:o.1=3
 ·have hsm3:(⟨s.M,s.E++[C6.all (-3)],s.W⟩:PS).Sm:=⟨by simp,by simp;omega,h3⟩
  have ht:=tidy71 _ hsm3
  have ho':s.order k o=(⟨s.M,s.E++[C6.all (-3)],s.W⟩:PS).tidy:=by unfold PS.order;rw[if_neg c1,if_neg c2,if_pos c3]
  rw[ho']
  refine x46 (fun hc hc hc=>?_)
  refine a0d (all67 (-3)) rfl ?_
  refine x46 ?_
  refine a0c [0,4] ht rfl ?_ ?_
  ·refine x13 ?_
   refine⟨by simp,?_⟩
   refine x13 ?_
   refine⟨by simp,eR_snoc (fun _ _=>rfl),?_⟩
   exact xc14
  ·rintro _ _ ⟨rfl,rfl⟩
   refine x13 ?_
   refine⟨_,_,⟨rfl,rfl⟩,some [some 0,some 1,some 5],?_⟩
   exact xc14
 by_cases c4:o.1=4
 ·have hwa:=writeAll69 s hs (by omega) s.E.length (a0K _)
  have hel:=PS.wrE_len s s.E.length
  have hew:=PS.wrE_W s s.E.length
  have ho':s.order k o=(s.wrE s.E.length).tidy:=by unfold PS.order;rw[if_neg c1,if_neg c2,if_neg c3,if_pos c4]
  rw[ho']
  generalize s.wrE s.E.length=s2 at *
  have hsm2:s2.Sm:=⟨by omega,by omega,by omega⟩
  have ht:=tidy71 s2 hsm2
  refine x13 (fun hc hc hc hc=>?_)
  refine a0c [0,1] hwa rfl ?_ ?_
  ·exact xc14
  ·rintro _ _ ⟨rfl,rfl⟩
   refine x13 ?_
   refine a0c [0,1] ht rfl ?_ ?_
   ·exact xc14
   ·rintro _ _ ⟨rfl,rfl⟩
    refine x13 ?_
    refine⟨_,_,⟨rfl,rfl⟩,some [some 0,some 1,some 3],?_⟩
    exact xc14
 ·have ho':s.order k o=s.tidy:=by unfold PS.order;rw[if_neg c1,if_neg c2,if_neg c3,if_neg c4]
  rw[ho']
  have ht:=tidy71 s hs
  refine x13 (fun hc hc hc hc=>?_)
  refine a0c [0,1] ht rfl ?_ ?_
  ·exact xc14
  ·rintro _ _ ⟨rfl,rfl⟩
   refine x13 ?_
   refine⟨_,_,⟨rfl,rfl⟩,some [some 0,some 1,some 3],?_⟩
   exact xc14
end Go.Proofs.Ca
