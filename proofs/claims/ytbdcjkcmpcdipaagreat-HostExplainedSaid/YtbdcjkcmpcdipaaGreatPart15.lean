/- Own work: texts of the proof of a law (Gw6, Gw6a, Gw6b, Gw7). No condition. -/
import Derived.Test.YtbdcjkcmpcdipaaGreatPart14
set_option linter.unusedVariables false
set_option linter.unusedSimpArgs false
namespace Go.Proofs
open Go Go.Sx
set_option maxRecDepth 100000
set_option maxHeartbeats 40000000
namespace Ho
theorem ordP0 (w U V:PS) (f F:Nat→Int) (b:Nat) (hb:b<2) (k v fr t n:Int) (hk:k=1∨k=2) (ht:t<0↔t=-1)
  (hF:F=fun i=>if i=7+6*0+b then n else f i)
  (hw:Sx.Callee Tryz.prog 119 [.ptr 0 0,.int .i64 ((0:Nat):Int)] [.cells 130 (skVL ((0+1:Nat):Int) F)] (fun v H=>v=.tup []∧H=[.cells 130 (skV (skI U))]))
  (hx:Sx.Callee Tryz.prog 120 [.ptr 0 0,.int .i64 ((0:Nat):Int),.int .i64 b] [.cells 130 (skV (skI U))] (fun v H=>v=.tup []∧H=[.cells 130 (skV (skI V))]))
  (e4:k=1∨t=-1→skVL ((0+1:Nat):Int) F=skV (skI w)) (o2:k=2→t≠-1→w=V) :
  a0q Tryz.prog 86 false [.agg (skVL ((0+1:Nat):Int) f),.agg [.int .i64 k,.int .i64 b,.int .i64 v,.int .i64 fr,.int .i64 t],.int .i64 n] (·=.agg (skV (skI w))):=by
 subst hF
 have hb2:b=0∨b=1:=by omega
 rcases hb2 with rfl|rfl
 all_goals
  refine a0c Tryz.E_ok Tryz.func86 rfl (by kernel_rfl) ?_
  refine x15 (fun hc hc hc=>?_) (fun hc hc hc=>?_)
  ·refine a0d (a1n ⟨k,_,v,fr,t⟩) rfl ?_
   rintro _ rfl
   refine x15 (fun hc=>?_) (fun hc=>?_)
   ·dsimp only at hc
    refine a0e [0] hw rfl ?_ ?_
    ·exact xc6
    ·rintro _ _ ⟨rfl,rfl⟩
     refine x14 ?_
     refine a0e [0] hx rfl ?_ ?_
     ·exact xc6
     ·rintro _ _ ⟨rfl,rfl⟩
      refine x14 ?_
      refine⟨_,rfl,?_⟩
      rw[o2 (by omega) (by omega)]
      exact xc6
   ·dsimp only at hc
    refine⟨_,rfl,?_⟩
    rw[←e4 (by omega)]
    exact xc6
  ·refine⟨_,rfl,?_⟩
   rw[←e4 (by omega)]
   exact xc6
theorem ordP1 (w U V:PS) (f F:Nat→Int) (b:Nat) (hb:b<2) (k v fr t n:Int) (hk:k=1∨k=2) (ht:t<0↔t=-1)
  (hF:F=fun i=>if i=7+6*1+b then n else f i)
  (hw:Sx.Callee Tryz.prog 119 [.ptr 0 0,.int .i64 ((1:Nat):Int)] [.cells 130 (skVL ((1+1:Nat):Int) F)] (fun v H=>v=.tup []∧H=[.cells 130 (skV (skI U))]))
  (hx:Sx.Callee Tryz.prog 120 [.ptr 0 0,.int .i64 ((1:Nat):Int),.int .i64 b] [.cells 130 (skV (skI U))] (fun v H=>v=.tup []∧H=[.cells 130 (skV (skI V))]))
  (e4:k=1∨t=-1→skVL ((1+1:Nat):Int) F=skV (skI w)) (o2:k=2→t≠-1→w=V) :
  a0q Tryz.prog 86 false [.agg (skVL ((1+1:Nat):Int) f),.agg [.int .i64 k,.int .i64 b,.int .i64 v,.int .i64 fr,.int .i64 t],.int .i64 n] (·=.agg (skV (skI w))):=by
 subst hF
 have hb2:b=0∨b=1:=by omega
 rcases hb2 with rfl|rfl
 all_goals
  refine a0c Tryz.E_ok Tryz.func86 rfl (by kernel_rfl) ?_
  refine x15 (fun hc hc hc=>?_) (fun hc hc hc=>?_)
  ·refine a0d (a1n ⟨k,_,v,fr,t⟩) rfl ?_
   rintro _ rfl
   refine x15 (fun hc=>?_) (fun hc=>?_)
   ·dsimp only at hc
    refine a0e [0] hw rfl ?_ ?_
    ·exact xc6
    ·rintro _ _ ⟨rfl,rfl⟩
     refine x14 ?_
     refine a0e [0] hx rfl ?_ ?_
     ·exact xc6
     ·rintro _ _ ⟨rfl,rfl⟩
      refine x14 ?_
      refine⟨_,rfl,?_⟩
      rw[o2 (by omega) (by omega)]
      exact xc6
   ·dsimp only at hc
    refine⟨_,rfl,?_⟩
    rw[←e4 (by omega)]
    exact xc6
  ·refine⟨_,rfl,?_⟩
   rw[←e4 (by omega)]
   exact xc6
theorem ordP2 (w U V:PS) (f F:Nat→Int) (b:Nat) (hb:b<2) (k v fr t n:Int) (hk:k=1∨k=2) (ht:t<0↔t=-1)
  (hF:F=fun i=>if i=7+6*2+b then n else f i)
  (hw:Sx.Callee Tryz.prog 119 [.ptr 0 0,.int .i64 ((2:Nat):Int)] [.cells 130 (skVL ((2+1:Nat):Int) F)] (fun v H=>v=.tup []∧H=[.cells 130 (skV (skI U))]))
  (hx:Sx.Callee Tryz.prog 120 [.ptr 0 0,.int .i64 ((2:Nat):Int),.int .i64 b] [.cells 130 (skV (skI U))] (fun v H=>v=.tup []∧H=[.cells 130 (skV (skI V))]))
  (e4:k=1∨t=-1→skVL ((2+1:Nat):Int) F=skV (skI w)) (o2:k=2→t≠-1→w=V) :
  a0q Tryz.prog 86 false [.agg (skVL ((2+1:Nat):Int) f),.agg [.int .i64 k,.int .i64 b,.int .i64 v,.int .i64 fr,.int .i64 t],.int .i64 n] (·=.agg (skV (skI w))):=by
 subst hF
 have hb2:b=0∨b=1:=by omega
 rcases hb2 with rfl|rfl
 all_goals
  refine a0c Tryz.E_ok Tryz.func86 rfl (by kernel_rfl) ?_
  refine x15 (fun hc hc hc=>?_) (fun hc hc hc=>?_)
  ·refine a0d (a1n ⟨k,_,v,fr,t⟩) rfl ?_
   rintro _ rfl
   refine x15 (fun hc=>?_) (fun hc=>?_)
   ·dsimp only at hc
    refine a0e [0] hw rfl ?_ ?_
    ·exact xc6
    ·rintro _ _ ⟨rfl,rfl⟩
     refine x14 ?_
     refine a0e [0] hx rfl ?_ ?_
     ·exact xc6
     ·rintro _ _ ⟨rfl,rfl⟩
      refine x14 ?_
      refine⟨_,rfl,?_⟩
      rw[o2 (by omega) (by omega)]
      exact xc6
   ·dsimp only at hc
    refine⟨_,rfl,?_⟩
    rw[←e4 (by omega)]
    exact xc6
  ·refine⟨_,rfl,?_⟩
   rw[←e4 (by omega)]
   exact xc6
theorem ordP3 (w U V:PS) (f F:Nat→Int) (b:Nat) (hb:b<2) (k v fr t n:Int) (hk:k=1∨k=2) (ht:t<0↔t=-1)
  (hF:F=fun i=>if i=7+6*3+b then n else f i)
  (hw:Sx.Callee Tryz.prog 119 [.ptr 0 0,.int .i64 ((3:Nat):Int)] [.cells 130 (skVL ((3+1:Nat):Int) F)] (fun v H=>v=.tup []∧H=[.cells 130 (skV (skI U))]))
  (hx:Sx.Callee Tryz.prog 120 [.ptr 0 0,.int .i64 ((3:Nat):Int),.int .i64 b] [.cells 130 (skV (skI U))] (fun v H=>v=.tup []∧H=[.cells 130 (skV (skI V))]))
  (e4:k=1∨t=-1→skVL ((3+1:Nat):Int) F=skV (skI w)) (o2:k=2→t≠-1→w=V) :
  a0q Tryz.prog 86 false [.agg (skVL ((3+1:Nat):Int) f),.agg [.int .i64 k,.int .i64 b,.int .i64 v,.int .i64 fr,.int .i64 t],.int .i64 n] (·=.agg (skV (skI w))):=by
 subst hF
 have hb2:b=0∨b=1:=by omega
 rcases hb2 with rfl|rfl
 all_goals
  refine a0c Tryz.E_ok Tryz.func86 rfl (by kernel_rfl) ?_
  refine x15 (fun hc hc hc=>?_) (fun hc hc hc=>?_)
  ·refine a0d (a1n ⟨k,_,v,fr,t⟩) rfl ?_
   rintro _ rfl
   refine x15 (fun hc=>?_) (fun hc=>?_)
   ·dsimp only at hc
    refine a0e [0] hw rfl ?_ ?_
    ·exact xc6
    ·rintro _ _ ⟨rfl,rfl⟩
     refine x14 ?_
     refine a0e [0] hx rfl ?_ ?_
     ·exact xc6
     ·rintro _ _ ⟨rfl,rfl⟩
      refine x14 ?_
      refine⟨_,rfl,?_⟩
      rw[o2 (by omega) (by omega)]
      exact xc6
   ·dsimp only at hc
    refine⟨_,rfl,?_⟩
    rw[←e4 (by omega)]
    exact xc6
  ·refine⟨_,rfl,?_⟩
   rw[←e4 (by omega)]
   exact xc6
theorem ordP4 (w U V:PS) (f F:Nat→Int) (b:Nat) (hb:b<2) (k v fr t n:Int) (hk:k=1∨k=2) (ht:t<0↔t=-1)
  (hF:F=fun i=>if i=7+6*4+b then n else f i)
  (hw:Sx.Callee Tryz.prog 119 [.ptr 0 0,.int .i64 ((4:Nat):Int)] [.cells 130 (skVL ((4+1:Nat):Int) F)] (fun v H=>v=.tup []∧H=[.cells 130 (skV (skI U))]))
  (hx:Sx.Callee Tryz.prog 120 [.ptr 0 0,.int .i64 ((4:Nat):Int),.int .i64 b] [.cells 130 (skV (skI U))] (fun v H=>v=.tup []∧H=[.cells 130 (skV (skI V))]))
  (e4:k=1∨t=-1→skVL ((4+1:Nat):Int) F=skV (skI w)) (o2:k=2→t≠-1→w=V) :
  a0q Tryz.prog 86 false [.agg (skVL ((4+1:Nat):Int) f),.agg [.int .i64 k,.int .i64 b,.int .i64 v,.int .i64 fr,.int .i64 t],.int .i64 n] (·=.agg (skV (skI w))):=by
 subst hF
 have hb2:b=0∨b=1:=by omega
 rcases hb2 with rfl|rfl
 all_goals
  refine a0c Tryz.E_ok Tryz.func86 rfl (by kernel_rfl) ?_
  refine x15 (fun hc hc hc=>?_) (fun hc hc hc=>?_)
  ·refine a0d (a1n ⟨k,_,v,fr,t⟩) rfl ?_
   rintro _ rfl
   refine x15 (fun hc=>?_) (fun hc=>?_)
   ·dsimp only at hc
    refine a0e [0] hw rfl ?_ ?_
    ·exact xc6
    ·rintro _ _ ⟨rfl,rfl⟩
     refine x14 ?_
     refine a0e [0] hx rfl ?_ ?_
     ·exact xc6
     ·rintro _ _ ⟨rfl,rfl⟩
      refine x14 ?_
      refine⟨_,rfl,?_⟩
      rw[o2 (by omega) (by omega)]
      exact xc6
   ·dsimp only at hc
    refine⟨_,rfl,?_⟩
    rw[←e4 (by omega)]
    exact xc6
  ·refine⟨_,rfl,?_⟩
   rw[←e4 (by omega)]
   exact xc6
theorem ordP5 (w U V:PS) (f F:Nat→Int) (b:Nat) (hb:b<2) (k v fr t n:Int) (hk:k=1∨k=2) (ht:t<0↔t=-1)
  (hF:F=fun i=>if i=7+6*5+b then n else f i)
  (hw:Sx.Callee Tryz.prog 119 [.ptr 0 0,.int .i64 ((5:Nat):Int)] [.cells 130 (skVL ((5+1:Nat):Int) F)] (fun v H=>v=.tup []∧H=[.cells 130 (skV (skI U))]))
  (hx:Sx.Callee Tryz.prog 120 [.ptr 0 0,.int .i64 ((5:Nat):Int),.int .i64 b] [.cells 130 (skV (skI U))] (fun v H=>v=.tup []∧H=[.cells 130 (skV (skI V))]))
  (e4:k=1∨t=-1→skVL ((5+1:Nat):Int) F=skV (skI w)) (o2:k=2→t≠-1→w=V) :
  a0q Tryz.prog 86 false [.agg (skVL ((5+1:Nat):Int) f),.agg [.int .i64 k,.int .i64 b,.int .i64 v,.int .i64 fr,.int .i64 t],.int .i64 n] (·=.agg (skV (skI w))):=by
 subst hF
 have hb2:b=0∨b=1:=by omega
 rcases hb2 with rfl|rfl
 all_goals
  refine a0c Tryz.E_ok Tryz.func86 rfl (by kernel_rfl) ?_
  refine x15 (fun hc hc hc=>?_) (fun hc hc hc=>?_)
  ·refine a0d (a1n ⟨k,_,v,fr,t⟩) rfl ?_
   rintro _ rfl
   refine x15 (fun hc=>?_) (fun hc=>?_)
   ·dsimp only at hc
    refine a0e [0] hw rfl ?_ ?_
    ·exact xc6
    ·rintro _ _ ⟨rfl,rfl⟩
     refine x14 ?_
     refine a0e [0] hx rfl ?_ ?_
     ·exact xc6
     ·rintro _ _ ⟨rfl,rfl⟩
      refine x14 ?_
      refine⟨_,rfl,?_⟩
      rw[o2 (by omega) (by omega)]
      exact xc6
   ·dsimp only at hc
    refine⟨_,rfl,?_⟩
    rw[←e4 (by omega)]
    exact xc6
  ·refine⟨_,rfl,?_⟩
   rw[←e4 (by omega)]
   exact xc6
theorem ordP6 (w U V:PS) (f F:Nat→Int) (b:Nat) (hb:b<2) (k v fr t n:Int) (hk:k=1∨k=2) (ht:t<0↔t=-1)
  (hF:F=fun i=>if i=7+6*6+b then n else f i)
  (hw:Sx.Callee Tryz.prog 119 [.ptr 0 0,.int .i64 ((6:Nat):Int)] [.cells 130 (skVL ((6+1:Nat):Int) F)] (fun v H=>v=.tup []∧H=[.cells 130 (skV (skI U))]))
  (hx:Sx.Callee Tryz.prog 120 [.ptr 0 0,.int .i64 ((6:Nat):Int),.int .i64 b] [.cells 130 (skV (skI U))] (fun v H=>v=.tup []∧H=[.cells 130 (skV (skI V))]))
  (e4:k=1∨t=-1→skVL ((6+1:Nat):Int) F=skV (skI w)) (o2:k=2→t≠-1→w=V) :
  a0q Tryz.prog 86 false [.agg (skVL ((6+1:Nat):Int) f),.agg [.int .i64 k,.int .i64 b,.int .i64 v,.int .i64 fr,.int .i64 t],.int .i64 n] (·=.agg (skV (skI w))):=by
 subst hF
 have hb2:b=0∨b=1:=by omega
 rcases hb2 with rfl|rfl
 all_goals
  refine a0c Tryz.E_ok Tryz.func86 rfl (by kernel_rfl) ?_
  refine x15 (fun hc hc hc=>?_) (fun hc hc hc=>?_)
  ·refine a0d (a1n ⟨k,_,v,fr,t⟩) rfl ?_
   rintro _ rfl
   refine x15 (fun hc=>?_) (fun hc=>?_)
   ·dsimp only at hc
    refine a0e [0] hw rfl ?_ ?_
    ·exact xc6
    ·rintro _ _ ⟨rfl,rfl⟩
     refine x14 ?_
     refine a0e [0] hx rfl ?_ ?_
     ·exact xc6
     ·rintro _ _ ⟨rfl,rfl⟩
      refine x14 ?_
      refine⟨_,rfl,?_⟩
      rw[o2 (by omega) (by omega)]
      exact xc6
   ·dsimp only at hc
    refine⟨_,rfl,?_⟩
    rw[←e4 (by omega)]
    exact xc6
  ·refine⟨_,rfl,?_⟩
   rw[←e4 (by omega)]
   exact xc6
theorem ordP (u:PS) (L b:Nat) (hL:u.E.length=L+1) (hl:L+1≤7) (hb:b<2) (c:Cmd) (hcb:c.b=b) (hk:c.k=1∨c.k=2) (ht:c.t<0↔c.t=-1) (n:Int) :
  a0q Tryz.prog 86 false [.agg (skV (skI u)),c.w,.int .i64 n] (·=.agg (skV (skI (u.orderU n c.o)))):=by
 have e1:c.o=(if c.k=2∧c.t=-1 then 1 else c.k,(b:Int)):=by unfold Cmd.o;rw[hcb]
 have e2:=skV_congr (putF_ok u hL hl (show b<6 by omega) n)
 have h6:skI u 6=((L+1:Nat):Int):=by rw[skI_len,hL]
 have hlen:(u.put b n).E.length=L+1:=(PS.put_len u b n).trans hL
 have hw:=writeAll72 (u.put b n) (by omega) L (by omega)
 have hlen2:((u.put b n).wrE L).E.length=L+1:=(PS.wrE_len _ _).trans hlen
 have hx:=write73 ((u.put b n).wrE L) (by omega) L b (by omega) (by omega)
 have o1:c.k=1∨c.t=-1→u.orderU n c.o=u.put b n:=fun g=>by
  have e:c.o=(1,(b:Int)):=by
   rw[e1]
   split
   ·rfl
   ·rw[show c.k=1 by omega]
  rw[e]
  unfold PS.orderU
  rw[if_pos rfl]
  rfl
 have o2:c.k=2→c.t≠-1→u.orderU n c.o=((u.put b n).wrE L).wr L b:=fun g1 g2=>by
  have e:c.o=(2,(b:Int)):=by rw[e1,if_neg (fun g=>g2 g.2),g1]
  rw[e]
  unfold PS.orderU
  rw[if_neg (show ¬((2:Int),(b:Int)).1=1 from(by decide:¬(2:Int)=1)),if_pos rfl]
  have:u.E.length-1=L:=by omega
  rw[this]
  rfl
 rw[←e2] at hw
 have e3:(fun i=>if i=7+6*L+b then n else skI u i) 6=((L+1:Nat):Int):=by dsimp only;rw[if_neg (by omega),h6]
 rw[skV_at e3] at hw
 rw[skV_at h6]
 have e4:u.orderU n c.o=u.put b n→skVL ((L+1:Nat):Int) (fun i=>if i=7+6*L+b then n else skI u i)=skV (skI (u.orderU n c.o)):=fun g=>by rw[g,←e2,skV_at e3]
 have e5:c.k=1∨c.t=-1→skVL ((L+1:Nat):Int) (fun i=>if i=7+6*L+b then n else skI u i)=skV (skI (u.orderU n c.o)):=fun g=>e4 (o1 g)
 generalize u.orderU n c.o=w at *
 generalize skI u=f at *
 clear e2 hlen hlen2 hL h6 e3 e1 e4 o1
 obtain⟨k,bb,v,fr,t⟩:=c
 unfold Cmd.w
 dsimp only at *
 subst hcb
 have:L=0∨L=1∨L=2∨L=3∨L=4∨L=5∨L=6:=by omega
 rcases this with rfl|rfl|rfl|rfl|rfl|rfl|rfl
 ·exact ordP0 w _ _ f _ b hb k v fr t n hk ht rfl hw hx e5 o2
 ·exact ordP1 w _ _ f _ b hb k v fr t n hk ht rfl hw hx e5 o2
 ·exact ordP2 w _ _ f _ b hb k v fr t n hk ht rfl hw hx e5 o2
 ·exact ordP3 w _ _ f _ b hb k v fr t n hk ht rfl hw hx e5 o2
 ·exact ordP4 w _ _ f _ b hb k v fr t n hk ht rfl hw hx e5 o2
 ·exact ordP5 w _ _ f _ b hb k v fr t n hk ht rfl hw hx e5 o2
 ·exact ordP6 w _ _ f _ b hb k v fr t n hk ht rfl hw hx e5 o2
end Ho
end Go.Proofs
