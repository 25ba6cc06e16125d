/- Own work: texts of the proof of a law (CaK2, CaL8). No condition. -/
import Derived.Test.YtmjaflgakiembaaBase20
namespace Go.Proofs
open Go Go.Sx
set_option maxRecDepth 100000
set_option maxHeartbeats 1000000
structure Lazy (u v : PS) : Prop where
  len : u.E.length = v.E.length
  sub : ∀ e b, b < 6 → (u.ep e).get b ≠ -3 → (v.ep e).get b ≠ -3
  tot : v.tot ≤ u.tot
theorem PS.wr_get (u : PS) {e b : Nat} (hb : b < 6) {e' b' : Nat} (hb' : b' < 6) : ((u.wr e b).ep e').get b' = if e' = e ∧ b' = b then -3 else (u.ep e').get b' := by
  by_cases hc : (u.ep e).get b = -3
  · rw [PS.wr_neg hc]
    split
    · rename_i h; rw [h.1, h.2, hc]
    · rfl
  · rw [PS.wr_ep u hc hb]
    by_cases h : e' = e
    · subst h
      rw [if_pos rfl, C6.get_set hb hb']
      by_cases h2 : b' = b
      · rw [if_pos h2, if_pos ⟨rfl, h2⟩]
      · rw [if_neg h2, if_neg (fun g => h2 g.2)]
    · rw [if_neg h, if_neg (fun g => h g.1)]
theorem PS.put_get (u : PS) (hl : 0 < u.E.length) {b : Nat} (hb : b < 6) (k : Int) {e' b' : Nat} (hb' : b' < 6) : ((u.put b k).ep e').get b' = if e' = u.E.length - 1 ∧ b' = b then k else (u.ep e').get b' := by
  have hep : (u.put b k).ep e' = if e' = u.E.length - 1 then (u.ep (u.E.length - 1)).set b k else u.ep e' := by
    show (u.E.set (u.E.length - 1) ((u.E.getD (u.E.length - 1) NO).set b k)).getD e' NO = _
    rw [ep_set]
    by_cases g : e' = u.E.length - 1
    · rw [if_pos ⟨g, by omega⟩, if_pos g]; rfl
    · rw [if_neg (fun g2 => g g2.1), if_neg g]; rfl
  rw [hep]
  by_cases h : e' = u.E.length - 1
  · rw [if_pos h, C6.get_set hb hb']
    by_cases h2 : b' = b
    · rw [if_pos h2, if_pos ⟨h, h2⟩]
    · rw [if_neg h2, if_neg (fun g => h2 g.2), h]
  · rw [if_neg h, if_neg (fun g => h g.1)]
namespace Lazy
variable {u v : PS}
theorem wr (h : Lazy u v) {e b : Nat} (hb : b < 6) : Lazy (u.wr e b) (v.wr e b) := by
  refine ⟨by rw [PS.wr_len, PS.wr_len, h.len], fun e' b' hb' hne => ?_, by rw [PS.tot_wr _ _ _ hb, PS.tot_wr _ _ _ hb]; exact h.tot⟩
  rw [PS.wr_get _ hb hb'] at hne ⊢
  split at hne
  · exact absurd rfl hne
  · rename_i g
    rw [if_neg g]
    exact h.sub e' b' hb' hne
theorem wrB (h : Lazy u v) (e : Nat) : ∀ b, b ≤ 6 → Lazy (u.wrB e b) (v.wrB e b)
  | 0, _ => h
  | b + 1, hb => (wrB h e b (by omega)).wr (by omega)
theorem wrE (h : Lazy u v) : ∀ e, Lazy (u.wrE e) (v.wrE e)
  | 0 => h
  | e + 1 => (wrE h e).wrB e 6 (by omega)
theorem drain (h : Lazy u v) {b : Nat} (hb : b < 6) : Lazy (u.drainU b) v := by
  unfold PS.drainU
  refine ⟨by rw [PS.wr_len]; exact h.len, fun e' b' hb' hne => ?_, by rw [PS.tot_wr _ _ _ hb]; exact h.tot⟩
  rw [PS.wr_get _ hb hb'] at hne
  split at hne
  · exact absurd rfl hne
  · exact h.sub e' b' hb' hne
theorem put (h : Lazy u v) (hl : 0 < u.E.length) {b : Nat} (hb : b < 6) {k : Int} (hk : k ≠ -3) : Lazy (u.put b k) (v.put b k) := by
  have hlv : 0 < v.E.length := by rw [← h.len]; exact hl
  refine ⟨by rw [PS.put_len, PS.put_len, h.len], fun e' b' hb' hne => ?_, ?_⟩
  · rw [PS.put_get _ hl hb k hb'] at hne
    rw [PS.put_get _ hlv hb k hb', ← h.len]
    split at hne
    · rename_i g; rw [if_pos g]; exact hk
    · rename_i g; rw [if_neg g]; exact h.sub e' b' hb' hne
  · have ht := h.tot
    have hs := h.sub (u.E.length - 1) b hb
    have key : ∀ w : PS, 0 < w.E.length → (w.put b k).tot = w.tot + 1 - one ((w.ep (w.E.length - 1)).get b) := by
      intro w hw
      unfold PS.tot PS.put
      dsimp only
      rw [cntL_set' (by omega), cntC_set hb _ 6 hb (by omega), one_pos hk]
      unfold PS.ep
      omega
    rw [key u hl, key v hlv, ← h.len]
    have h1 : one ((u.ep (u.E.length - 1)).get b) ≤ one ((v.ep (u.E.length - 1)).get b) := by
      by_cases g : (u.ep (u.E.length - 1)).get b = -3
      · rw [g, one_no]; exact (one_le _).1
      · rw [one_pos g, one_pos (hs g)]; exact Int.le_refl _
    omega
theorem order (h : Lazy u v) (hl : 0 < u.E.length) {k : Int} (hk : 0 ≤ k) {o : Int × Int} (ho : o.1 = 1 ∨ o.1 = 2 → o.2.toNat < 6) : Lazy (u.orderU k o) (v.orderU k o) := by
  unfold PS.orderU
  by_cases h1 : o.1 = 1
  · rw [if_pos h1, if_pos h1]
    exact h.put hl (ho (.inl h1)) (by omega)
  rw [if_neg h1, if_neg h1]
  by_cases h2 : o.1 = 2
  · rw [if_pos h2, if_pos h2, ← h.len]
    exact ((h.put hl (ho (.inr h2)) (by omega)).wrE _).wr (ho (.inr h2))
  rw [if_neg h2, if_neg h2]
  by_cases h3 : o.1 = 3
  · rw [if_pos h3, if_pos h3]
    have he : ∀ (u : PS) e, (⟨u.M, u.E ++ [NO], u.W⟩ : PS).ep e = u.ep e := by
      intro u e
      show (u.E ++ [NO]).getD e NO = u.E.getD e NO
      rcases Nat.lt_or_ge e u.E.length with g | g
      · simp only [List.getD_eq_getElem?_getD, List.getElem?_append_left g]
      · simp only [List.getD_eq_getElem?_getD, List.getElem?_append_right g, List.getElem?_eq_none g]
        cases e - u.E.length <;> simp
    refine ⟨by simp [h.len], fun e b hb hne => ?_, ?_⟩
    · rw [he] at hne ⊢
      exact h.sub e b hb hne
    · have ht := h.tot
      unfold PS.tot at ht ⊢
      dsimp only
      rw [cntL_append, cntL_append]
      simp only [cntL, cntC_no 6 (by omega)]
      omega
  rw [if_neg h3, if_neg h3]
  by_cases h4 : o.1 = 4
  · rw [if_pos h4, if_pos h4, ← h.len]
    exact h.wrE _
  · rw [if_neg h4, if_neg h4]
    exact h
theorem cntC_mono {c d : C6} (h : ∀ b, b < 6 → c.get b ≠ -3 → d.get b ≠ -3) : ∀ b, b ≤ 6 → cntC c b ≤ cntC d b
  | 0, _ => by simp [cntC]
  | b + 1, hb => by
    have ih := cntC_mono h b (by omega)
    rw [cntC_succ, cntC_succ]
    have h1 : one (c.get b) ≤ one (d.get b) := by
      by_cases g : c.get b = -3
      · rw [g, one_no]; exact (one_le _).1
      · rw [one_pos g, one_pos (h b (by omega) g)]; exact Int.le_refl _
    omega
theorem cnt (h : Lazy u v) : cntL u.E ≤ cntL v.E := by
  have key : ∀ k, cntE u.E k ≤ cntE v.E k := by
    intro k
    induction k with
    | zero => simp [cntE]
    | succ k ih =>
      have := cntC_mono (h.sub k) 6 (by omega)
      show cntE u.E k + cntC (u.ep k) 6 ≤ cntE v.E k + cntC (v.ep k) 6
      omega
  have := key u.E.length
  rw [cntE_all] at this
  rw [h.len, cntE_all] at this
  exact this
theorem rfl' (u : PS) : Lazy u u := ⟨rfl, fun _ _ _ h => h, Int.le_refl _⟩
end Lazy
theorem most_ge (l : List (Int × Int)) : ∀ {k i : Nat}, i < k → (PS.run l (i + 1)).waits ≤ PS.most l k
  | k + 1, i, h => by
    simp only [PS.most]
    rcases Nat.lt_or_eq_of_le (show i ≤ k by omega) with g | rfl
    · have := most_ge l g
      omega
    · omega
end Go.Proofs


namespace Go.Proofs
open Go Go.Sx
set_option maxRecDepth 100000
set_option maxHeartbeats 40000000
structure Few (x : Cache) (n k : Nat) (s z : RS) : Prop where
  ex : ∃ u D, RchU x k u D ∧ Sim n s u ∧ Lazy u (runU x.l k)
  lz : Sim n z (runU x.l k)
theorem Sim.bounds {x : Cache} (hx : x.Ok) {n : Nat} {s : RS} {k : Nat} {u : PS} {D : List (Int × Int)} (h : Sim n s u) (hr : RchU x k u D) : 0 ≤ s.W ∧ s.W ≤ k ∧ 0 < s.E.length ∧ s.E.length ≤ k + 1 := by
  have hi := hr.inv hx
  have h1 := hi.tot
  have h2 := hi.D
  have h3 := cntL_nonneg u.E
  have h4 := hi.len
  have h5 := nb_le x k
  have h6 := h.W
  have h7 := h.len
  unfold PS.tot at h1
  omega
theorem Few.bounds {x : Cache} (hx : x.Ok) {n k : Nat} {s z : RS} (h : Few x n k s z) (hk : k ≤ x.l.length) : (0 ≤ s.W ∧ s.W ≤ k ∧ 0 < s.E.length ∧ s.E.length ≤ k + 1) ∧ (0 ≤ z.W ∧ z.W ≤ k ∧ 0 < z.E.length ∧ z.E.length ≤ k + 1) := by
  obtain ⟨u, D, h1, h2, h3⟩ := h.ex
  exact ⟨h2.bounds hx h1, h.lz.bounds hx (runU_rch x k hk)⟩
theorem Few.begin {x : Cache} {n : Nat} (hn : n ≤ 6) : Few x n 0 RS.begin RS.begin := ⟨⟨_, _, .begin, Sim.begin hn, Lazy.rfl' _⟩, Sim.begin hn⟩
theorem Few.drain {x : Cache} {n k : Nat} {s z : RS} (hn : n ≤ 6) (hxn : x.n = n) (h : Few x n k s z) (b : Int) : Few x n k (drS n s b) z := by
  obtain ⟨u, D, h1, h2, h3⟩ := h.ex
  by_cases hc : canR n s b
  · have hc2 := (h2.canR_iff hn).1 hc
    exact ⟨⟨_, _, h1.drain (b := b.toNat) (by omega) hc2.2.2, h2.drain' hn hc, h3.drain (by omega)⟩, h.lz⟩
  · rw [drS_no hc]
    exact h
theorem Few.order {x : Cache} (hx : x.Ok) {n k : Nat} {s z : RS} (hn : n ≤ 6) (hxn : x.n = n) (h : Few x n k s z) (hk : k < x.l.length) : Few x n (k + 1) (s.order n k (x.l.getD k (0, 0))) (z.order n k (x.l.getD k (0, 0))) ∧
    (s.order n k (x.l.getD k (0, 0))).entries n ≤ PS.most x.l x.l.length := by
  obtain ⟨u, D, h1, h2, h3⟩ := h.ex
  have ho : (x.l.getD k (0, 0)).1 = 1 ∨ (x.l.getD k (0, 0)).1 = 2 → 0 ≤ (x.l.getD k (0, 0)).2 ∧ (x.l.getD k (0, 0)).2 < n := by
    intro g
    have := hx.ord _ (show x.l.getD k (0, 0) ∈ x.l by
      rw [show x.l.getD k (0, 0) = x.l[k] by simp [List.getD_eq_getElem?_getD, hk]]
      exact List.getElem_mem hk)
    unfold Cache.OkO at this
    omega
  have hlu : 0 < u.E.length := by rw [(h1.inv hx).len]; omega
  have hlv : 0 < (runU x.l k).E.length := by rw [((runU_rch x k (by omega)).inv hx).len]; omega
  have h4 := h2.order hn hlu (k := k) (by omega) ho
  have h5 := h3.order hlu (k := k) (by omega) (o := x.l.getD k (0, 0)) (fun g => by have := ho g; omega)
  refine ⟨⟨⟨_, _, h1.order hk, h4, h5⟩, h.lz.order hn hlv (by omega) ho⟩, ?_⟩
  rw [h4.entries hn]
  refine Int.le_trans h5.cnt ?_
  have h6 := most_ge x.l (show k < x.l.length by omega)
  rw [(run_waits hx (show k + 1 ≤ x.l.length by omega)).1] at h6
  exact h6
theorem Few.fin {x : Cache} (hx : x.Ok) {n : Nat} {s z : RS} (hn : n ≤ 6) (h : Few x n x.l.length s z) :
    (PS.run x.l x.l.length).W + (PS.run x.l x.l.length).waits ≤ s.W + s.entries n ∧ z.W + z.entries n = (PS.run x.l x.l.length).W + (PS.run x.l x.l.length).waits := by
  obtain ⟨u, D, h1, h2, h3⟩ := h.ex
  have h4 := run_waits hx (Nat.le_refl x.l.length)
  have h5 := h3.tot
  unfold PS.tot at h5
  rw [h2.entries hn, h.lz.entries hn, h4.1, h4.2, h2.W, h.lz.W]
  exact ⟨by omega, rfl⟩
theorem writes_ok {x : Cache} (hk : x.chk = 0) (hl : x.l.length ≤ 1000000) : PureC Try.prog 14 false [x.v] (· = .tup [.int .i64 ((PS.run x.l x.l.length).W + (PS.run x.l x.l.length).waits), .int .i64 0]) := by
  have h := Writes14 x hl
  rw [if_pos hk] at h
  exact h
theorem charge_ok {x : Cache} (hk : x.chk = 0) (hl : x.l.length ≤ 1000000) : PureC Try.prog 15 false [x.v] (· = .tup [.int .i64 (PS.most x.l x.l.length), .int .i64 0]) := by
  have h := Charge15 x hl
  rw [if_pos hk] at h
  exact h
theorem Fewest3 (x : Cache) (hl : x.l.length ≤ 9223372036854775807) (D : List (Int × Int)) (hD : D.length ≤ 9223372036854775807) : PureC Try.prog 3 false [x.v, .sl 2 D.length (rowOf oC (0, 0) D)] (· = .prop True inferInstance) := by
  refine pureC_of_exec Try.E_ok Try.func3 rfl (by kernel_rfl) ?_
  (repeat' ((conv => whnf); (first | (with_reducible first | refine spl (fun hc => ?_) fun hc => ?_ | refine spl' (fun hc => ?_) fun hc => ?_) <;> try (exfalso; omega) | with_reducible refine iJ fun hc => ?_ | refine vcq (k := ?_) | refine dr 6 (k := ?_) | refine dr 2010 (k := ?_) | refine dr 16 (k := ?_) | refine dr 20 (k := ?_)))); all_goals ((try conv => whnf); try with_reducible exact trivial); (repeat' ((first | (refine callee_fo (valid12 x hl) rfl ?_; rintro _ rfl) | (refine pcall_intro (valid12 x hl) rfl ?_) | (refine pcall_soft (fun _ => valid12 x hl) rfl ?_) | (refine callee_fo (works13) rfl ?_; rintro _ rfl) | (refine pcall_intro (works13) rfl ?_) | (refine pcall_soft (fun _ => works13) rfl ?_)); (repeat' ((conv => whnf); (first | (with_reducible first | refine spl (fun hc => ?_) fun hc => ?_ | refine spl' (fun hc => ?_) fun hc => ?_) <;> try (exfalso; omega) | with_reducible refine iJ fun hc => ?_ | refine vcq (k := ?_) | refine dr 6 (k := ?_) | refine dr 2010 (k := ?_) | refine dr 16 (k := ?_) | refine dr 20 (k := ?_)))); all_goals ((try conv => whnf); try with_reducible exact trivial)))
  · refine ⟨_, rfl, ?_⟩
    (repeat' ((conv => whnf); (first | (with_reducible first | refine spl (fun hc => ?_) fun hc => ?_ | refine spl' (fun hc => ?_) fun hc => ?_) <;> try (exfalso; omega) | with_reducible refine iJ fun hc => ?_ | refine vcq (k := ?_) | refine dr 6 (k := ?_) | refine dr 2010 (k := ?_) | refine dr 16 (k := ?_) | refine dr 20 (k := ?_)))); all_goals ((try conv => whnf); try with_reducible exact trivial)
  · have hv : ¬ x.far ∧ x.chk = 0 := Classical.not_not.1 (fun g => hc (.inl g))
    have hD40 : D.length ≤ 40 := by omega
    have hx := Cache.valid hv
    have hk := hv.2
    have hn6 := hx.ok.n
    have h3 := hx.n
    have h7 := hx.l
    obtain ⟨n, hn⟩ : ∃ n : Nat, x.n = n := ⟨x.n.toNat, by omega⟩
    clear hc hv
    refine callee_fo (writes_ok hk (by omega)) rfl ?_
    rintro _ rfl
    (repeat' ((conv => whnf); (first | (with_reducible first | refine spl (fun hc => ?_) fun hc => ?_ | refine spl' (fun hc => ?_) fun hc => ?_) <;> try (exfalso; omega) | with_reducible refine iJ fun hc => ?_ | refine vcq (k := ?_) | refine dr 6 (k := ?_) | refine dr 2010 (k := ?_) | refine dr 16 (k := ?_) | refine dr 20 (k := ?_)))); all_goals ((try conv => whnf); try with_reducible exact trivial)
    refine callee_fo (charge_ok hk (by omega)) rfl ?_
    rintro _ rfl
    have hrs := PS.run_size x.l x.l.length (by omega)
    have hws := (PS.run x.l x.l.length).waits_le
    have hms := PS.most_le x.l x.l.length (by omega)
    have hfin := fun {s z : RS} => Few.fin (s := s) (z := z) hx.ok (show n ≤ 6 by omega)
    have hord := fun {i : Nat} {s z : RS} => Few.order (k := i) (s := s) (z := z) hx.ok (show n ≤ 6 by omega) hn
    have hdr := fun {i : Nat} {s z : RS} => Few.drain (k := i) (s := s) (z := z) (show n ≤ 6 by omega) hn
    have hbo := fun {i : Nat} {s z : RS} => Few.bounds (n := n) (k := i) (s := s) (z := z) hx.ok
    have hbg := Few.begin (x := x) (show n ≤ 6 by omega)
    generalize (PS.run x.l x.l.length).W + (PS.run x.l x.l.length).waits = need at *
    generalize PS.most x.l x.l.length = most at *
    (repeat' ((conv => whnf); (first | (with_reducible first | refine spl (fun hc => ?_) fun hc => ?_ | refine spl' (fun hc => ?_) fun hc => ?_) <;> try (exfalso; omega) | with_reducible refine iJ fun hc => ?_ | refine vcq (k := ?_) | refine dr 6 (k := ?_) | refine dr 2010 (k := ?_) | refine dr 16 (k := ?_) | refine dr 20 (k := ?_)))); all_goals ((try conv => whnf); try with_reducible exact trivial)
    refine pcall_intro (begin16 x n hn (by omega)) rfl ?_
    (repeat' ((conv => whnf); (first | (with_reducible first | refine spl (fun hc => ?_) fun hc => ?_ | refine spl' (fun hc => ?_) fun hc => ?_) <;> try (exfalso; omega) | with_reducible refine iJ fun hc => ?_ | refine vcq (k := ?_) | refine dr 6 (k := ?_) | refine dr 2010 (k := ?_) | refine dr 16 (k := ?_) | refine dr 20 (k := ?_)))); all_goals ((try conv => whnf); try with_reducible exact trivial)
    refine pcall_intro (begin16 x n hn (by omega)) rfl ?_
    (repeat' ((conv => whnf); (first | (with_reducible first | refine spl (fun hc => ?_) fun hc => ?_ | refine spl' (fun hc => ?_) fun hc => ?_) <;> try (exfalso; omega) | with_reducible refine iJ fun hc => ?_ | refine vcq (k := ?_) | refine dr 6 (k := ?_) | refine dr 2010 (k := ?_) | refine dr 16 (k := ?_) | refine dr 20 (k := ?_)))); all_goals ((try conv => whnf); try with_reducible exact trivial)
    refine ⟨Nat × Nat × RS × RS, fun q => q.1 ≤ x.l.length + 1 ∧ q.2.1 ≤ D.length ∧ Few x n (min q.1 x.l.length) q.2.2.1 q.2.2.2, fun q => x.l.length + 1 - q.1, fun q => [(12, .int .i64 (q.1 : Nat)), (11, .int .i64 (q.2.1 : Nat))], fun q => [(1, .cells 34 (q.2.2.1.c n)), (2, .cells 34 (q.2.2.2.c n))], fun _ => [], (0, 0, RS.begin, RS.begin), ⟨⟨by dsimp only; omega, by dsimp only; omega, by dsimp only; rw [Nat.zero_min]; exact hbg⟩, none, ?_⟩, ?_⟩
    · (repeat' ((conv => whnf); (first | (with_reducible first | refine spl (fun hc => ?_) fun hc => ?_ | refine spl' (fun hc => ?_) fun hc => ?_) <;> try (exfalso; omega) | with_reducible refine iJ fun hc => ?_ | refine vcq (k := ?_) | refine dr 6 (k := ?_) | refine dr 2010 (k := ?_) | refine dr 16 (k := ?_) | refine dr 20 (k := ?_)))); all_goals ((try conv => whnf); try with_reducible exact trivial)
      rfl
    · rintro ⟨i, a, s, z⟩ ⟨hi, ha, hf⟩
      dsimp only at hi ha hf
      have hti : (i : Int).toNat = i := Int.toNat_natCast i
      (repeat' ((conv => whnf); (first | (with_reducible first | refine spl (fun hc => ?_) fun hc => ?_ | refine spl' (fun hc => ?_) fun hc => ?_) <;> try (exfalso; omega) | with_reducible refine iJ fun hc => ?_ | refine vcq (k := ?_) | refine dr 6 (k := ?_) | refine dr 2010 (k := ?_) | refine dr 16 (k := ?_) | refine dr 20 (k := ?_)))); all_goals ((try conv => whnf); try with_reducible exact trivial)
      · have hi1 : i ≤ x.l.length := by dsimp only at hc; omega
        rw [Nat.min_eq_left hi1] at hf
        refine ⟨Nat × RS, fun q => q.1 ≤ D.length ∧ Few x n i q.2 z, fun q => D.length - q.1, fun q => [(11, .int .i64 (q.1 : Nat))], fun q => [(1, .cells 34 (q.2.c n))], fun _ => [], (a, s), ⟨⟨ha, hf⟩, none, ?_⟩, ?_⟩
        · (repeat' ((conv => whnf); (first | (with_reducible first | refine spl (fun hc => ?_) fun hc => ?_ | refine spl' (fun hc => ?_) fun hc => ?_) <;> try (exfalso; omega) | with_reducible refine iJ fun hc => ?_ | refine vcq (k := ?_) | refine dr 6 (k := ?_) | refine dr 2010 (k := ?_) | refine dr 16 (k := ?_) | refine dr 20 (k := ?_)))); all_goals ((try conv => whnf); try with_reducible exact trivial)
        · clear hf ha
          rintro ⟨a, s⟩ ⟨ha, hf⟩
          dsimp only at ha hf
          have hb := hbo hf hi1
          (repeat' ((conv => whnf); (first | (with_reducible first | refine spl (fun hc => ?_) fun hc => ?_ | refine spl' (fun hc => ?_) fun hc => ?_) <;> try (exfalso; omega) | with_reducible refine iJ fun hc => ?_ | refine vcq (k := ?_) | refine dr 6 (k := ?_) | refine dr 2010 (k := ?_) | refine dr 16 (k := ?_) | refine dr 20 (k := ?_)))); all_goals ((try conv => whnf); try with_reducible exact trivial)
          · refine pcall_intro (Drained17d n (by omega) s (by omega) (by omega) (D.getD (a : Int).toNat (0, 0)).2) rfl ?_
            (repeat' ((conv => whnf); (first | (with_reducible first | refine spl (fun hc => ?_) fun hc => ?_ | refine spl' (fun hc => ?_) fun hc => ?_) <;> try (exfalso; omega) | with_reducible refine iJ fun hc => ?_ | refine vcq (k := ?_) | refine dr 6 (k := ?_) | refine dr 2010 (k := ?_) | refine dr 16 (k := ?_) | refine dr 20 (k := ?_)))); all_goals ((try conv => whnf); try with_reducible exact trivial)
            refine ⟨(a + 1, drS n s (D.getD (a : Int).toNat (0, 0)).2), ⟨⟨by dsimp only; omega, hdr hf _⟩, by dsimp only; omega⟩, none, ?_⟩
            (repeat' ((conv => whnf); (first | (with_reducible first | refine spl (fun hc => ?_) fun hc => ?_ | refine spl' (fun hc => ?_) fun hc => ?_) <;> try (exfalso; omega) | with_reducible refine iJ fun hc => ?_ | refine vcq (k := ?_) | refine dr 6 (k := ?_) | refine dr 2010 (k := ?_) | refine dr 16 (k := ?_) | refine dr 20 (k := ?_)))); all_goals ((try conv => whnf); try with_reducible exact trivial)
            rfl
          · have hi2 : i < x.l.length := by dsimp only at hc; omega
            have ho : (x.l.getD (i : Int).toNat (0, 0)).1 = 1 ∨ (x.l.getD (i : Int).toNat (0, 0)).1 = 2 → 0 ≤ (x.l.getD (i : Int).toNat (0, 0)).2 ∧ (x.l.getD (i : Int).toNat (0, 0)).2 < n := by
              intro g
              rw [hti] at *
              have := hx.ok.ord _ (Cache.at hi2)
              unfold Cache.OkO at this
              omega
            refine pcall_intro (do18 n (by omega) s (by omega) (by omega) i (x.l.getD (i : Int).toNat (0, 0)) ho) rfl ?_
            (repeat' ((conv => whnf); (first | (with_reducible first | refine spl (fun hc => ?_) fun hc => ?_ | refine spl' (fun hc => ?_) fun hc => ?_) <;> try (exfalso; omega) | with_reducible refine iJ fun hc => ?_ | refine vcq (k := ?_) | refine dr 6 (k := ?_) | refine dr 2010 (k := ?_) | refine dr 16 (k := ?_) | refine dr 20 (k := ?_)))); all_goals ((try conv => whnf); try with_reducible exact trivial)
            refine pcall_intro (do18 n (by omega) z (by omega) (by omega) i (x.l.getD (i : Int).toNat (0, 0)) ho) rfl ?_
            (repeat' ((conv => whnf); (first | (with_reducible first | refine spl (fun hc => ?_) fun hc => ?_ | refine spl' (fun hc => ?_) fun hc => ?_) <;> try (exfalso; omega) | with_reducible refine iJ fun hc => ?_ | refine vcq (k := ?_) | refine dr 6 (k := ?_) | refine dr 2010 (k := ?_) | refine dr 16 (k := ?_) | refine dr 20 (k := ?_)))); all_goals ((try conv => whnf); try with_reducible exact trivial)
            obtain ⟨hf2, hle⟩ := hord hf hi2
            have hb2 := hbo hf2 (by omega)
            rw [← hti] at hf2 hle hb2
            rw [hti] at hf2 hle hb2
            have e : (x.l.getD (i : Int).toNat (0, 0)) = x.l.getD i (0, 0) := by rw [hti]
            rw [← e] at hf2 hle hb2
            generalize s.order n i (x.l.getD (i : Int).toNat (0, 0)) = s' at *
            generalize z.order n i (x.l.getD (i : Int).toNat (0, 0)) = z' at *
            refine callee_fo (entries19 n (by omega) s' (by omega)) rfl ?_
            rintro _ rfl
            (repeat' ((conv => whnf); (first | (with_reducible first | refine spl (fun hc => ?_) fun hc => ?_ | refine spl' (fun hc => ?_) fun hc => ?_) <;> try (exfalso; omega) | with_reducible refine iJ fun hc => ?_ | refine vcq (k := ?_) | refine dr 6 (k := ?_) | refine dr 2010 (k := ?_) | refine dr 16 (k := ?_) | refine dr 20 (k := ?_)))); all_goals ((try conv => whnf); try with_reducible exact trivial)
            refine ⟨(i + 1, a, s', z'), ⟨⟨by dsimp only; omega, ha, by dsimp only; rw [Nat.min_eq_left (by omega)]; exact hf2⟩, by dsimp only; omega⟩, none, ?_⟩
            (repeat' ((conv => whnf); (first | (with_reducible first | refine spl (fun hc => ?_) fun hc => ?_ | refine spl' (fun hc => ?_) fun hc => ?_) <;> try (exfalso; omega) | with_reducible refine iJ fun hc => ?_ | refine vcq (k := ?_) | refine dr 6 (k := ?_) | refine dr 2010 (k := ?_) | refine dr 16 (k := ?_) | refine dr 20 (k := ?_)))); all_goals ((try conv => whnf); try with_reducible exact trivial)
            rfl
          · have hi2 : i = x.l.length := by dsimp only at hc; omega
            refine ⟨(i + 1, a, s, z), ⟨⟨by dsimp only; omega, ha, by dsimp only; rw [Nat.min_eq_right (by omega), ← hi2]; exact hf⟩, by dsimp only; omega⟩, none, ?_⟩
            (repeat' ((conv => whnf); (first | (with_reducible first | refine spl (fun hc => ?_) fun hc => ?_ | refine spl' (fun hc => ?_) fun hc => ?_) <;> try (exfalso; omega) | with_reducible refine iJ fun hc => ?_ | refine vcq (k := ?_) | refine dr 6 (k := ?_) | refine dr 2010 (k := ?_) | refine dr 16 (k := ?_) | refine dr 20 (k := ?_)))); all_goals ((try conv => whnf); try with_reducible exact trivial)
      · have hi2 : i = x.l.length + 1 := by dsimp only at hc; omega
        rw [Nat.min_eq_right (by omega)] at hf
        have hb := hbo hf (Nat.le_refl _)
        obtain ⟨hf1, hf2⟩ := hfin hf
        have hes : 0 ≤ s.entries n ∧ s.entries n ≤ 24 := by
          have h := cntFE_le n s s.E.length
          have h2 : s.E.length * n ≤ 8 * 3 := Nat.mul_le_mul (by omega) (by omega)
          unfold RS.entries
          omega
        have hez : 0 ≤ z.entries n ∧ z.entries n ≤ 24 := by
          have h := cntFE_le n z z.E.length
          have h2 : z.E.length * n ≤ 8 * 3 := Nat.mul_le_mul (by omega) (by omega)
          unfold RS.entries
          omega
        refine pcall_intro (entries19 n (by omega) s (by omega)) rfl ?_
        (repeat' ((conv => whnf); (first | (with_reducible first | refine spl (fun hc => ?_) fun hc => ?_ | refine spl' (fun hc => ?_) fun hc => ?_) <;> try (exfalso; omega) | with_reducible refine iJ fun hc => ?_ | refine vcq (k := ?_) | refine dr 6 (k := ?_) | refine dr 2010 (k := ?_) | refine dr 16 (k := ?_) | refine dr 20 (k := ?_)))); all_goals ((try conv => whnf); try with_reducible exact trivial)
        refine pcall_soft (fun _ => entries19 n (by omega) z (by omega)) rfl ?_
        (repeat' ((conv => whnf); (first | (with_reducible first | refine spl (fun hc => ?_) fun hc => ?_ | refine spl' (fun hc => ?_) fun hc => ?_) <;> try (exfalso; omega) | with_reducible refine iJ fun hc => ?_ | refine vcq (k := ?_) | refine dr 6 (k := ?_) | refine dr 2010 (k := ?_) | refine dr 16 (k := ?_) | refine dr 20 (k := ?_)))); all_goals ((try conv => whnf); try with_reducible exact trivial)
        refine ⟨fun _ => inR64 (by dsimp only; omega) (by dsimp only; omega), ?_⟩
        (repeat' ((conv => whnf); (first | (with_reducible first | refine spl (fun hc => ?_) fun hc => ?_ | refine spl' (fun hc => ?_) fun hc => ?_) <;> try (exfalso; omega) | with_reducible refine iJ fun hc => ?_ | refine vcq (k := ?_) | refine dr 6 (k := ?_) | refine dr 2010 (k := ?_) | refine dr 16 (k := ?_) | refine dr 20 (k := ?_)))); all_goals ((try conv => whnf); try with_reducible exact trivial)
        · refine callee_fo works13 rfl ?_
          rintro _ rfl
          (repeat' ((conv => whnf); (first | (with_reducible first | refine spl (fun hc => ?_) fun hc => ?_ | refine spl' (fun hc => ?_) fun hc => ?_) <;> try (exfalso; omega) | with_reducible refine iJ fun hc => ?_ | refine vcq (k := ?_) | refine dr 6 (k := ?_) | refine dr 2010 (k := ?_) | refine dr 16 (k := ?_) | refine dr 20 (k := ?_)))); all_goals ((try conv => whnf); try with_reducible exact trivial)
          refine ⟨_, rfl, ?_⟩
          (repeat' ((conv => whnf); (first | (with_reducible first | refine spl (fun hc => ?_) fun hc => ?_ | refine spl' (fun hc => ?_) fun hc => ?_) <;> try (exfalso; omega) | with_reducible refine iJ fun hc => ?_ | refine vcq (k := ?_) | refine dr 6 (k := ?_) | refine dr 2010 (k := ?_) | refine dr 16 (k := ?_) | refine dr 20 (k := ?_)))); all_goals ((try conv => whnf); try with_reducible exact trivial)
        · exact absurd ⟨hf1, hf2⟩ hc
end Go.Proofs

