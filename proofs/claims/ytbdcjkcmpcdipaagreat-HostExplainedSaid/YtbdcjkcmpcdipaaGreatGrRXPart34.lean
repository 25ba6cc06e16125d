/- Own work: texts of the proof of a law (Gp6, Gp4). No condition. -/
import Derived.Test.YtbdcjkcmpcdipaaGreatGrRXPart33
set_option linter.unusedVariables false
set_option linter.unusedSimpArgs false
namespace Go.Proofs
open Go Go.Sx
set_option maxRecDepth 100000
set_option maxHeartbeats 40000000
theorem shape76 (s:PS) (_hl:s.E.length≤1000000):a0q Tryz.prog 135 false [stI s] (·=.agg (shC s)):=by
 refine a0c Tryz.E_ok Tryz.func135 rfl (by kernel_rfl) ?_
 (repeat' ((conv=>whnf);first|(with_reducible first|apply spl|apply spl'|refine iJ ?_)<;>intro hc<;>try(exfalso;omega)|refine vcq ?_|refine dr 11 ?_|refine dr 6 ?_));all_goals(try conv=>whnf);try exact trivial
 refine⟨_,rfl,?_⟩
 (repeat' ((conv=>whnf);first|(with_reducible first|apply spl|apply spl'|refine iJ ?_)<;>intro hc<;>try(exfalso;omega)|refine vcq ?_|refine dr 11 ?_|refine dr 6 ?_));all_goals(try conv=>whnf);try exact trivial
theorem clone91n (D:List (Int×Int)) (hl:0<D.length∧D.length≤1000000):NewC Tryz.prog 175 [drV D] (fun r H=>r=.osl 0 D.length∧H=[.row 191 2 D.length (a0u oC (0,0) D) false]):=by
 refine newC_ent Tryz.E_ok Tryz.func175 rfl (by kernel_rfl) ?_
 (repeat' ((conv=>whnf);first|(with_reducible first|apply spl|apply spl'|refine iJ ?_)<;>intro hc<;>try(exfalso;omega)|refine vcq ?_|refine dr 61105080407030502042007 ?_));all_goals(try conv=>whnf);try exact trivial
 refine⟨_,_,⟨rfl,rfl⟩,some [some 1],?_⟩
 (repeat' ((conv=>whnf);first|(with_reducible first|apply spl|apply spl'|refine iJ ?_)<;>intro hc<;>try(exfalso;omega)|refine vcq ?_|refine dr 61105080407030502042007 ?_));all_goals(try conv=>whnf);try exact trivial
theorem clone91z (cap:Nat):a0q Tryz.prog 175 false [.lit (.slice none 0 cap)] (·=.lit (.slice none 0 0)):=by
 refine a0c Tryz.E_ok Tryz.func175 rfl (by kernel_rfl) ?_
 (repeat' ((conv=>whnf);first|(with_reducible first|apply spl|apply spl'|refine iJ ?_)<;>intro hc<;>try(exfalso;omega)|refine vcq ?_|refine dr 61105080407030502042007 ?_));all_goals(try conv=>whnf);try exact trivial
 refine⟨_,rfl,?_⟩
 (repeat' ((conv=>whnf);first|(with_reducible first|apply spl|apply spl'|refine iJ ?_)<;>intro hc<;>try(exfalso;omega)|refine vcq ?_|refine dr 61105080407030502042007 ?_));all_goals(try conv=>whnf);try exact trivial
theorem clone91s (a:Addr) (cap:Nat):NewC Tryz.prog 175 [.lit (.slice (some a) 0 cap)] (fun r H=>r=.osl 0 0∧H=[.row 191 2 0 (a0u oC (0,0) []) false]):=by
 refine newC_ent Tryz.E_ok Tryz.func175 rfl (by kernel_rfl) ?_
 (repeat' ((conv=>whnf);first|(with_reducible first|apply spl|apply spl'|refine iJ ?_)<;>intro hc<;>try(exfalso;omega)|refine vcq ?_|refine dr 61105080407030502042007 ?_));all_goals(try conv=>whnf);try exact trivial
 refine⟨_,_,⟨rfl,rfl⟩,some [some 1],?_⟩
 (repeat' ((conv=>whnf);first|(with_reducible first|apply spl|apply spl'|refine iJ ?_)<;>intro hc<;>try(exfalso;omega)|refine vcq ?_|refine dr 61105080407030502042007 ?_));all_goals(try conv=>whnf);try exact trivial
theorem with78n (t:Trip) (hs:t.s.Sm) (hl:0<t.D.length∧t.D.length≤100000) (hW:t.s.W≤100000) (a:Int) (b:Nat) (hb:b<6) (hf:0≤idxC isS t.s.E):a0q Tryz.prog 138 false [trV t,.agg [.int .i64 a,.int .i64 b]] (·=trV (t.with (a,(b:Int)))):=by
 have hd:=drain53 t.s hs hW b hb hf
 refine a0c Tryz.E_ok Tryz.func138 rfl (by kernel_rfl) ?_
 (repeat' ((conv=>whnf);first|(with_reducible first|apply spl|apply spl'|refine iJ ?_)<;>intro hc<;>try(exfalso;omega)|refine vcq ?_|refine dr 61105080407030502042007 ?_));all_goals(try conv=>whnf);try exact trivial
 refine nnew_intro (clone75 t.s hs) rfl ?_
 rintro _ _ ⟨rfl,rfl⟩
 (repeat' ((conv=>whnf);first|(with_reducible first|apply spl|apply spl'|refine iJ ?_)<;>intro hc<;>try(exfalso;omega)|refine vcq ?_|refine dr 61105080407030502042007 ?_));all_goals(try conv=>whnf);try exact trivial
 refine nnew_intro (clone91n t.D ⟨hl.1,by omega⟩) rfl ?_
 rintro _ _ ⟨rfl,rfl⟩
 (repeat' ((conv=>whnf);first|(with_reducible first|apply spl|apply spl'|refine iJ ?_)<;>intro hc<;>try(exfalso;omega)|refine vcq ?_|refine dr 61105080407030502042007 ?_));all_goals(try conv=>whnf);try exact trivial
 refine a0e [5,6] hd rfl ?_ ?_
 ·(repeat' ((conv=>whnf);first|(with_reducible first|apply spl|apply spl'|refine iJ ?_)<;>intro hc<;>try(exfalso;omega)|refine vcq ?_|refine dr 61105080407030502042007 ?_));all_goals(try conv=>whnf);try exact trivial
 ·rintro _ _ ⟨rfl,rfl⟩
  (repeat' ((conv=>whnf);first|(with_reducible first|apply spl|apply spl'|refine iJ ?_)<;>intro hc<;>try(exfalso;omega)|refine vcq ?_|refine dr 61105080407030502042007 ?_));all_goals(try conv=>whnf);try exact trivial
  refine⟨_,rfl,?_⟩
  have e1:(t.with (a,(b:Int))).s=t.s.drain b:=by simp[Trip.with]
  have e2:(t.with (a,(b:Int))).D=t.D++[(a,(b:Int))]:=rfl
  unfold trV
  rw[e1,e2]
  (repeat' ((conv=>whnf);first|(with_reducible first|apply spl|apply spl'|refine iJ ?_)<;>intro hc<;>try(exfalso;omega)|refine vcq ?_|refine dr 61105080407030502042007 ?_));all_goals(try conv=>whnf);try exact trivial
  refine⟨by simp,a2d (c:=oC) (a:=(a,(b:Int))) (l:=t.D) rfl (fun _ _=>rfl),.inr fun i hi=>rfl,?_⟩
  (repeat' ((conv=>whnf);first|(with_reducible first|apply spl|apply spl'|refine iJ ?_)<;>intro hc<;>try(exfalso;omega)|refine vcq ?_|refine dr 61105080407030502042007 ?_));all_goals(try conv=>whnf);try exact trivial
theorem with78z (t:Trip) (hs:t.s.Sm) (hl:t.D=[]) (hW:t.s.W≤100000) (a:Int) (b:Nat) (hb:b<6) (hf:0≤idxC isS t.s.E) (cap:Nat):a0q Tryz.prog 138 false [.agg [stI t.s,.lit (.slice none 0 cap)],.agg [.int .i64 a,.int .i64 b]] (·=trV (t.with (a,(b:Int)))):=by
 have hd:=drain53 t.s hs hW b hb hf
 refine a0c Tryz.E_ok Tryz.func138 rfl (by kernel_rfl) ?_
 (repeat' ((conv=>whnf);first|(with_reducible first|apply spl|apply spl'|refine iJ ?_)<;>intro hc<;>try(exfalso;omega)|refine vcq ?_|refine dr 61105080407030502042007 ?_));all_goals(try conv=>whnf);try exact trivial
 refine nnew_intro (clone75 t.s hs) rfl ?_
 rintro _ _ ⟨rfl,rfl⟩
 (repeat' ((conv=>whnf);first|(with_reducible first|apply spl|apply spl'|refine iJ ?_)<;>intro hc<;>try(exfalso;omega)|refine vcq ?_|refine dr 61105080407030502042007 ?_));all_goals(try conv=>whnf);try exact trivial
 refine a0f (clone91z cap) rfl ?_
 (repeat' ((conv=>whnf);first|(with_reducible first|apply spl|apply spl'|refine iJ ?_)<;>intro hc<;>try(exfalso;omega)|refine vcq ?_|refine dr 61105080407030502042007 ?_));all_goals(try conv=>whnf);try exact trivial
 refine a0e [5,6] hd rfl ?_ ?_
 ·(repeat' ((conv=>whnf);first|(with_reducible first|apply spl|apply spl'|refine iJ ?_)<;>intro hc<;>try(exfalso;omega)|refine vcq ?_|refine dr 61105080407030502042007 ?_));all_goals(try conv=>whnf);try exact trivial
 ·rintro _ _ ⟨rfl,rfl⟩
  (repeat' ((conv=>whnf);first|(with_reducible first|apply spl|apply spl'|refine iJ ?_)<;>intro hc<;>try(exfalso;omega)|refine vcq ?_|refine dr 61105080407030502042007 ?_));all_goals(try conv=>whnf);try exact trivial
  refine⟨_,rfl,?_⟩
  have e1:(t.with (a,(b:Int))).s=t.s.drain b:=by simp[Trip.with]
  have e2:(t.with (a,(b:Int))).D=t.D++[(a,(b:Int))]:=rfl
  unfold trV
  rw[e1,e2]
  (repeat' ((conv=>whnf);first|(with_reducible first|apply spl|apply spl'|refine iJ ?_)<;>intro hc<;>try(exfalso;omega)|refine vcq ?_|refine dr 61105080407030502042007 ?_));all_goals(try conv=>whnf);try exact trivial
  rw[hl]
  refine⟨rfl,fun i hi=>?_,.inr fun i hi=>rfl,?_⟩
  ·have:i=0:=by omega
   subst this
   rfl
  (repeat' ((conv=>whnf);first|(with_reducible first|apply spl|apply spl'|refine iJ ?_)<;>intro hc<;>try(exfalso;omega)|refine vcq ?_|refine dr 61105080407030502042007 ?_));all_goals(try conv=>whnf);try exact trivial
theorem with78s (t:Trip) (hs:t.s.Sm) (hl:t.D=[]) (hW:t.s.W≤100000) (a:Int) (b:Nat) (hb:b<6) (hf:0≤idxC isS t.s.E) (ad:Addr) (cap:Nat):a0q Tryz.prog 138 false [.agg [stI t.s,.lit (.slice (some ad) 0 cap)],.agg [.int .i64 a,.int .i64 b]] (·=trV (t.with (a,(b:Int)))):=by
 have hd:=drain53 t.s hs hW b hb hf
 refine a0c Tryz.E_ok Tryz.func138 rfl (by kernel_rfl) ?_
 (repeat' ((conv=>whnf);first|(with_reducible first|apply spl|apply spl'|refine iJ ?_)<;>intro hc<;>try(exfalso;omega)|refine vcq ?_|refine dr 61105080407030502042007 ?_));all_goals(try conv=>whnf);try exact trivial
 refine nnew_intro (clone75 t.s hs) rfl ?_
 rintro _ _ ⟨rfl,rfl⟩
 (repeat' ((conv=>whnf);first|(with_reducible first|apply spl|apply spl'|refine iJ ?_)<;>intro hc<;>try(exfalso;omega)|refine vcq ?_|refine dr 61105080407030502042007 ?_));all_goals(try conv=>whnf);try exact trivial
 refine nnew_intro (clone91s ad cap) rfl ?_
 rintro _ _ ⟨rfl,rfl⟩
 (repeat' ((conv=>whnf);first|(with_reducible first|apply spl|apply spl'|refine iJ ?_)<;>intro hc<;>try(exfalso;omega)|refine vcq ?_|refine dr 61105080407030502042007 ?_));all_goals(try conv=>whnf);try exact trivial
 refine a0e [5,6] hd rfl ?_ ?_
 ·(repeat' ((conv=>whnf);first|(with_reducible first|apply spl|apply spl'|refine iJ ?_)<;>intro hc<;>try(exfalso;omega)|refine vcq ?_|refine dr 61105080407030502042007 ?_));all_goals(try conv=>whnf);try exact trivial
 ·rintro _ _ ⟨rfl,rfl⟩
  (repeat' ((conv=>whnf);first|(with_reducible first|apply spl|apply spl'|refine iJ ?_)<;>intro hc<;>try(exfalso;omega)|refine vcq ?_|refine dr 61105080407030502042007 ?_));all_goals(try conv=>whnf);try exact trivial
  refine⟨_,rfl,?_⟩
  have e1:(t.with (a,(b:Int))).s=t.s.drain b:=by simp[Trip.with]
  have e2:(t.with (a,(b:Int))).D=t.D++[(a,(b:Int))]:=rfl
  unfold trV
  rw[e1,e2]
  (repeat' ((conv=>whnf);first|(with_reducible first|apply spl|apply spl'|refine iJ ?_)<;>intro hc<;>try(exfalso;omega)|refine vcq ?_|refine dr 61105080407030502042007 ?_));all_goals(try conv=>whnf);try exact trivial
  rw[hl]
  refine⟨rfl,fun i hi=>?_,.inr fun i hi=>rfl,?_⟩
  ·have:i=0:=by omega
   subst this
   rfl
  (repeat' ((conv=>whnf);first|(with_reducible first|apply spl|apply spl'|refine iJ ?_)<;>intro hc<;>try(exfalso;omega)|refine vcq ?_|refine dr 61105080407030502042007 ?_));all_goals(try conv=>whnf);try exact trivial
theorem with78 (t:Trip) (hs:t.s.Sm) (hl:t.D.length≤100000) (hW:t.s.W≤100000) (a:Int) (b:Nat) (hb:b<6) (hf:0≤idxC isS t.s.E):a0q Tryz.prog 138 false [trV t,.agg [.int .i64 a,.int .i64 b]] (·=trV (t.with (a,(b:Int)))):=by
 rcases Nat.eq_zero_or_pos t.D.length with h0|h0
 ·have h0':t.D=[]:=List.length_eq_zero_iff.1 h0
  refine⟨(with78z t hs h0' hW a b hb hf 0).1,fun I w vals hI hd=>?_⟩
  obtain⟨v,vs,rfl,⟨us,rfl,h1,p,_,rfl,hp,q,_,rfl,hq,rfl⟩,h2⟩:=hd
  have hq:Den I [] w (.sl 2 0 (a0u oC (0,0) t.D)) q:=by
   have:=hq
   unfold drV at this
   rwa [h0] at this
  obtain⟨ad,cap,rfl⟩:=sl0_lit hq
  cases ad with
  |none=>exact(with78z t hs h0' hW a b hb hf cap).2 I w _ hI ⟨_,_,rfl,⟨_,rfl,h1,p,_,rfl,hp,_,_,rfl,rfl,rfl⟩,h2⟩
  |some ad=>exact(with78s t hs h0' hW a b hb hf ad cap).2 I w _ hI ⟨_,_,rfl,⟨_,rfl,h1,p,_,rfl,hp,_,_,rfl,rfl,rfl⟩,h2⟩
 ·exact with78n t hs ⟨h0,hl⟩ hW a b hb hf
theorem stH_put {s:PS} (hs:s.Sm) {b:Nat} (hb:b<6) (n:Int):stH (s.put b n)=[.cells 187 (stCs s 1),.row 105 6 s.E.length (fun j=>spliceP (j=s.E.length-1) (eR s.E j) b [.int .i64 n]) false]:=by
 have h1:=hs.ne
 rw[eR_set (by omega) hb]
 unfold stH stCs PS.put PS.ep
 simp only[List.length_set]
theorem order43 (s:PS) (hs:s.Sm) (hl:s.E.length≤1000) (hW:s.W≤100000) (k:Int) (o:Int×Int) (ho:o.1=1∨o.1=2→0≤o.2∧o.2<6):Sx.Callee Tryz.prog 134 [.ptr 0 0,.int .i64 k,oV o] (stH s) (fun v H=>v=.tup []∧H=stH2 (s.order k o)):=by
 have h1:=hs.ne
 have h2:=hs.len
 have h3:=hs.W
 have hn:((s.E.length:Int)-1).toNat=s.E.length-1:=by omega
 refine callee_ent Tryz.E_ok Tryz.func134 rfl (by kernel_rfl) ?_
 by_cases c1:o.1=1
 ·obtain⟨b,hb,e⟩:∃b:Nat,b<6∧o.2=b:=⟨o.2.toNat,by have:=ho (.inl c1);omega,by have:=ho (.inl c1);omega⟩
  obtain⟨o1,o2⟩:=o
  dsimp only at c1 e
  subst c1 e
  have ht:=tidy71 (s.put b k) (hs.put b k)
  have ho':s.order k (1,(b:Int))=(s.put b k).tidy:=rfl
  rw[ho']
  rcases six hb with rfl|rfl|rfl|rfl|rfl|rfl
  all_goals
   (repeat' ((conv=>whnf);first|(with_reducible first|apply spl|apply spl'|refine iJ ?_)<;>intro hc<;>try(exfalso;omega)|refine vcq ?_|refine dr 305020401032004 ?_|refine dr 9 ?_|refine dr 2007 ?_));all_goals(try conv=>whnf);try exact trivial
   refine a0e [0,1] (current68 s hs) rfl ?_ ?_
   ·(repeat' ((conv=>whnf);first|(with_reducible first|apply spl|apply spl'|refine iJ ?_)<;>intro hc<;>try(exfalso;omega)|refine vcq ?_|refine dr 305020401032004 ?_|refine dr 9 ?_|refine dr 2007 ?_));all_goals(try conv=>whnf);try exact trivial
   ·rintro _ _ ⟨rfl,rfl⟩
    (repeat' ((conv=>whnf);first|(with_reducible first|apply spl|apply spl'|refine iJ ?_)<;>intro hc<;>try(exfalso;omega)|refine vcq ?_|refine dr 305020401032004 ?_|refine dr 9 ?_|refine dr 2007 ?_));all_goals(try conv=>whnf);try exact trivial
    refine a0e [0,1] ht rfl ?_ ?_
    ·rw[stH_put hs (by omega),←hn]
     (repeat' ((conv=>whnf);first|(with_reducible first|apply spl|apply spl'|refine iJ ?_)<;>intro hc<;>try(exfalso;omega)|refine vcq ?_|refine dr 305020401032004 ?_|refine dr 9 ?_|refine dr 2007 ?_));all_goals(try conv=>whnf);try exact trivial
    ·rintro _ _ ⟨rfl,rfl⟩
     (repeat' ((conv=>whnf);first|(with_reducible first|apply spl|apply spl'|refine iJ ?_)<;>intro hc<;>try(exfalso;omega)|refine vcq ?_|refine dr 305020401032004 ?_|refine dr 9 ?_|refine dr 2007 ?_));all_goals(try conv=>whnf);try exact trivial
     refine⟨_,_,⟨rfl,rfl⟩,some [some 0,some 1,some 3],?_⟩
     (repeat' ((conv=>whnf);first|(with_reducible first|apply spl|apply spl'|refine iJ ?_)<;>intro hc<;>try(exfalso;omega)|refine vcq ?_|refine dr 305020401032004 ?_|refine dr 9 ?_|refine dr 2007 ?_));all_goals(try conv=>whnf);try exact trivial
 by_cases c2:o.1=2
 ·obtain⟨b,hb,e⟩:∃b:Nat,b<6∧o.2=b:=⟨o.2.toNat,by have:=ho (.inr c2);omega,by have:=ho (.inr c2);omega⟩
  obtain⟨o1,o2⟩:=o
  dsimp only at c1 c2 e
  subst c2 e
  have hp:=hs.put b k
  have hpl:(s.put b k).E.length=s.E.length:=by unfold PS.put;simp
  have hwa:=writeAll69 (s.put b k) hp (by rw[hpl];have:(s.put b k).W=s.W:=rfl;omega) (s.E.length-1) (by rw[hpl];omega)
  have hel:=PS.wrE_len (s.put b k) (s.E.length-1)
  have hew:=PS.wrE_W (s.put b k) (s.E.length-1)
  have hpw:(s.put b k).W=s.W:=rfl
  generalize hs2:(s.put b k).wrE (s.E.length-1)=s2 at *
  have hsm2:s2.Sm:=⟨by omega,by omega,by omega⟩
  have hw:=write70 s2 hsm2 (s.E.length-1) b (by omega) hb
  have hsm3:=hsm2.wr (e:=s.E.length-1) (b:=b) (by omega)
  have ht:=tidy71 (s2.wr (s.E.length-1) b) hsm3
  have ho':s.order k (2,(b:Int))=(s2.wr (s.E.length-1) b).tidy:=by rw[←hs2];rfl
  rw[ho']
  have hl2:(s.E.length:Int)-1=((s.E.length-1:Nat):Int):=by omega
  rcases six hb with rfl|rfl|rfl|rfl|rfl|rfl
  all_goals
   (repeat' ((conv=>whnf);first|(with_reducible first|apply spl|apply spl'|refine iJ ?_)<;>intro hc<;>try(exfalso;omega)|refine vcq ?_|refine dr 305020401032004 ?_|refine dr 9 ?_|refine dr 2007 ?_));all_goals(try conv=>whnf);try exact trivial
   refine a0e [0,1] (current68 s hs) rfl ?_ ?_
   ·(repeat' ((conv=>whnf);first|(with_reducible first|apply spl|apply spl'|refine iJ ?_)<;>intro hc<;>try(exfalso;omega)|refine vcq ?_|refine dr 305020401032004 ?_|refine dr 9 ?_|refine dr 2007 ?_));all_goals(try conv=>whnf);try exact trivial
   ·rintro _ _ ⟨rfl,rfl⟩
    (repeat' ((conv=>whnf);first|(with_reducible first|apply spl|apply spl'|refine iJ ?_)<;>intro hc<;>try(exfalso;omega)|refine vcq ?_|refine dr 305020401032004 ?_|refine dr 9 ?_|refine dr 2007 ?_));all_goals(try conv=>whnf);try exact trivial
    refine a0e [0,1] hwa rfl ?_ ?_
    ·rw[stH_put hs (by omega),←hn]
     (repeat' ((conv=>whnf);first|(with_reducible first|apply spl|apply spl'|refine iJ ?_)<;>intro hc<;>try(exfalso;omega)|refine vcq ?_|refine dr 305020401032004 ?_|refine dr 9 ?_|refine dr 2007 ?_));all_goals(try conv=>whnf);try exact trivial
    ·rintro _ _ ⟨rfl,rfl⟩
     (repeat' ((conv=>whnf);first|(with_reducible first|apply spl|apply spl'|refine iJ ?_)<;>intro hc<;>try(exfalso;omega)|refine vcq ?_|refine dr 305020401032004 ?_|refine dr 9 ?_|refine dr 2007 ?_));all_goals(try conv=>whnf);try exact trivial
     refine a0e [0,1] hw rfl ?_ ?_
     ·(repeat' ((conv=>whnf);first|(with_reducible first|apply spl|apply spl'|refine iJ ?_)<;>intro hc<;>try(exfalso;omega)|refine vcq ?_|refine dr 305020401032004 ?_|refine dr 9 ?_|refine dr 2007 ?_));all_goals(try conv=>whnf);try exact trivial
     ·rintro _ _ ⟨rfl,rfl⟩
      (repeat' ((conv=>whnf);first|(with_reducible first|apply spl|apply spl'|refine iJ ?_)<;>intro hc<;>try(exfalso;omega)|refine vcq ?_|refine dr 305020401032004 ?_|refine dr 9 ?_|refine dr 2007 ?_));all_goals(try conv=>whnf);try exact trivial
      refine a0e [0,1] ht rfl ?_ ?_
      ·(repeat' ((conv=>whnf);first|(with_reducible first|apply spl|apply spl'|refine iJ ?_)<;>intro hc<;>try(exfalso;omega)|refine vcq ?_|refine dr 305020401032004 ?_|refine dr 9 ?_|refine dr 2007 ?_));all_goals(try conv=>whnf);try exact trivial
      ·rintro _ _ ⟨rfl,rfl⟩
       (repeat' ((conv=>whnf);first|(with_reducible first|apply spl|apply spl'|refine iJ ?_)<;>intro hc<;>try(exfalso;omega)|refine vcq ?_|refine dr 305020401032004 ?_|refine dr 9 ?_|refine dr 2007 ?_));all_goals(try conv=>whnf);try exact trivial
       refine⟨_,_,⟨rfl,rfl⟩,some [some 0,some 1,some 3],?_⟩
       (repeat' ((conv=>whnf);first|(with_reducible first|apply spl|apply spl'|refine iJ ?_)<;>intro hc<;>try(exfalso;omega)|refine vcq ?_|refine dr 305020401032004 ?_|refine dr 9 ?_|refine dr 2007 ?_));all_goals(try conv=>whnf);try exact trivial
 by_cases c3:o.1=3
 ·have hsm3:(⟨s.M,s.E++[C6.all (-3)],s.W⟩:PS).Sm:=⟨by simp,by simp;omega,h3⟩
  have ht:=tidy71 _ hsm3
  have ho':s.order k o=(⟨s.M,s.E++[C6.all (-3)],s.W⟩:PS).tidy:=by unfold PS.order;rw[if_neg c1,if_neg c2,if_pos c3]
  rw[ho']
  (repeat' ((conv=>whnf);first|(with_reducible first|apply spl|apply spl'|refine iJ ?_)<;>intro hc<;>try(exfalso;omega)|refine vcq ?_|refine dr 2007 ?_));all_goals(try conv=>whnf);try exact trivial
  refine a0f (all67 (-3)) rfl ?_
  (repeat' ((conv=>whnf);first|(with_reducible first|apply spl|apply spl'|refine iJ ?_)<;>intro hc<;>try(exfalso;omega)|refine vcq ?_|refine dr 2007 ?_));all_goals(try conv=>whnf);try exact trivial
  refine a0e [0,4] ht rfl ?_ ?_
  ·(repeat' ((conv=>whnf);first|(with_reducible first|apply spl|apply spl'|refine iJ ?_)<;>intro hc<;>try(exfalso;omega)|refine vcq ?_|refine dr 305020401032004 ?_|refine dr 9 ?_|refine dr 2007 ?_));all_goals(try conv=>whnf);try exact trivial
   refine⟨by simp,?_⟩
   (repeat' ((conv=>whnf);first|(with_reducible first|apply spl|apply spl'|refine iJ ?_)<;>intro hc<;>try(exfalso;omega)|refine vcq ?_|refine dr 305020401032004 ?_|refine dr 9 ?_|refine dr 2007 ?_));all_goals(try conv=>whnf);try exact trivial
   refine⟨by simp,eR_snoc (fun _ _=>rfl),?_⟩
   (repeat' ((conv=>whnf);first|(with_reducible first|apply spl|apply spl'|refine iJ ?_)<;>intro hc<;>try(exfalso;omega)|refine vcq ?_|refine dr 305020401032004 ?_|refine dr 9 ?_|refine dr 2007 ?_));all_goals(try conv=>whnf);try exact trivial
  ·rintro _ _ ⟨rfl,rfl⟩
   (repeat' ((conv=>whnf);first|(with_reducible first|apply spl|apply spl'|refine iJ ?_)<;>intro hc<;>try(exfalso;omega)|refine vcq ?_|refine dr 305020401032004 ?_|refine dr 9 ?_|refine dr 2007 ?_));all_goals(try conv=>whnf);try exact trivial
   refine⟨_,_,⟨rfl,rfl⟩,some [some 0,some 1,some 5],?_⟩
   (repeat' ((conv=>whnf);first|(with_reducible first|apply spl|apply spl'|refine iJ ?_)<;>intro hc<;>try(exfalso;omega)|refine vcq ?_|refine dr 305020401032004 ?_|refine dr 9 ?_|refine dr 2007 ?_));all_goals(try conv=>whnf);try exact trivial
 by_cases c4:o.1=4
 ·have hwa:=writeAll69 s hs (by omega) s.E.length (a0U _)
  have hel:=PS.wrE_len s s.E.length
  have hew:=PS.wrE_W s s.E.length
  have ho':s.order k o=(s.wrE s.E.length).tidy:=by unfold PS.order;rw[if_neg c1,if_neg c2,if_neg c3,if_pos c4]
  rw[ho']
  generalize s.wrE s.E.length=s2 at *
  have hsm2:s2.Sm:=⟨by omega,by omega,by omega⟩
  have ht:=tidy71 s2 hsm2
  (repeat' ((conv=>whnf);first|(with_reducible first|apply spl|apply spl'|refine iJ ?_)<;>intro hc<;>try(exfalso;omega)|refine vcq ?_|refine dr 305020401032004 ?_|refine dr 9 ?_|refine dr 2007 ?_));all_goals(try conv=>whnf);try exact trivial
  refine a0e [0,1] hwa rfl ?_ ?_
  ·(repeat' ((conv=>whnf);first|(with_reducible first|apply spl|apply spl'|refine iJ ?_)<;>intro hc<;>try(exfalso;omega)|refine vcq ?_|refine dr 305020401032004 ?_|refine dr 9 ?_|refine dr 2007 ?_));all_goals(try conv=>whnf);try exact trivial
  ·rintro _ _ ⟨rfl,rfl⟩
   (repeat' ((conv=>whnf);first|(with_reducible first|apply spl|apply spl'|refine iJ ?_)<;>intro hc<;>try(exfalso;omega)|refine vcq ?_|refine dr 305020401032004 ?_|refine dr 9 ?_|refine dr 2007 ?_));all_goals(try conv=>whnf);try exact trivial
   refine a0e [0,1] ht rfl ?_ ?_
   ·(repeat' ((conv=>whnf);first|(with_reducible first|apply spl|apply spl'|refine iJ ?_)<;>intro hc<;>try(exfalso;omega)|refine vcq ?_|refine dr 305020401032004 ?_|refine dr 9 ?_|refine dr 2007 ?_));all_goals(try conv=>whnf);try exact trivial
   ·rintro _ _ ⟨rfl,rfl⟩
    (repeat' ((conv=>whnf);first|(with_reducible first|apply spl|apply spl'|refine iJ ?_)<;>intro hc<;>try(exfalso;omega)|refine vcq ?_|refine dr 305020401032004 ?_|refine dr 9 ?_|refine dr 2007 ?_));all_goals(try conv=>whnf);try exact trivial
    refine⟨_,_,⟨rfl,rfl⟩,some [some 0,some 1,some 3],?_⟩
    (repeat' ((conv=>whnf);first|(with_reducible first|apply spl|apply spl'|refine iJ ?_)<;>intro hc<;>try(exfalso;omega)|refine vcq ?_|refine dr 305020401032004 ?_|refine dr 9 ?_|refine dr 2007 ?_));all_goals(try conv=>whnf);try exact trivial
 ·have ho':s.order k o=s.tidy:=by unfold PS.order;rw[if_neg c1,if_neg c2,if_neg c3,if_neg c4]
  rw[ho']
  have ht:=tidy71 s hs
  (repeat' ((conv=>whnf);first|(with_reducible first|apply spl|apply spl'|refine iJ ?_)<;>intro hc<;>try(exfalso;omega)|refine vcq ?_|refine dr 305020401032004 ?_|refine dr 9 ?_|refine dr 2007 ?_));all_goals(try conv=>whnf);try exact trivial
  refine a0e [0,1] ht rfl ?_ ?_
  ·(repeat' ((conv=>whnf);first|(with_reducible first|apply spl|apply spl'|refine iJ ?_)<;>intro hc<;>try(exfalso;omega)|refine vcq ?_|refine dr 305020401032004 ?_|refine dr 9 ?_|refine dr 2007 ?_));all_goals(try conv=>whnf);try exact trivial
  ·rintro _ _ ⟨rfl,rfl⟩
   (repeat' ((conv=>whnf);first|(with_reducible first|apply spl|apply spl'|refine iJ ?_)<;>intro hc<;>try(exfalso;omega)|refine vcq ?_|refine dr 305020401032004 ?_|refine dr 9 ?_|refine dr 2007 ?_));all_goals(try conv=>whnf);try exact trivial
   refine⟨_,_,⟨rfl,rfl⟩,some [some 0,some 1,some 3],?_⟩
   (repeat' ((conv=>whnf);first|(with_reducible first|apply spl|apply spl'|refine iJ ?_)<;>intro hc<;>try(exfalso;omega)|refine vcq ?_|refine dr 305020401032004 ?_|refine dr 9 ?_|refine dr 2007 ?_));all_goals(try conv=>whnf);try exact trivial
end Go.Proofs
