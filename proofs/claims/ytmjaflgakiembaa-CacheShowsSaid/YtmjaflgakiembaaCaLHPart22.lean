/- Own work: texts of the proof of a law (CaR7, CaR8, CaR9, CaL6, CaM7, CaM8, CaM9). No condition. -/
import Derived.Test.YtmjaflgakiembaaGround21
namespace Go.Proofs
open Go Go.Sx
set_option maxRecDepth 100000
set_option maxHeartbeats 40000000
def RS.vo (n k : Nat) (s : RS) : V := .agg [.osl k n, .sl 1 s.E.length (s.epF n), .int .i64 s.W]
theorem write48n (n : Nat) (hn : 1 ≤ n ∧ n ≤ 1000) (s : RS) (hE : s.E.length ≤ 1000) (hW : 0 ≤ s.W ∧ s.W ≤ 1000000) (e b : Nat) (he : e < s.E.length) (hb : b < n) (hc : s.ep e b ≠ -1) :
    NewC Try.prog 48 [s.v n, .int .i64 e, .int .i64 b] (fun r H => r = (s.wr e b).vo n 0 ∧ H = [.row 3 1 n (s.wr e b).medF false]) := by
  refine newC_ent Try.E_ok Try.func48 rfl (by kernel_rfl) ?_
  (repeat' ((conv => whnf); (first | (with_reducible apply spl) <;> intro hc <;> try (exfalso; omega) | with_reducible refine iJ fun hc => ?_ | refine vcq (k := ?_) | refine dr 21 (k := ?_) | refine dr 2011 (k := ?_) | refine dr 8 (k := ?_)))); all_goals ((try conv => whnf); try with_reducible exact trivial)
  refine callee_new (copied49 n hn s hE) rfl ?_
  rintro _ _ ⟨β, rfl, rfl⟩
  (repeat' ((conv => whnf); (first | (with_reducible apply spl) <;> intro hc <;> try (exfalso; omega) | with_reducible refine iJ fun hc => ?_ | refine vcq (k := ?_) | refine dr 21 (k := ?_) | refine dr 2011 (k := ?_) | refine dr 8 (k := ?_)))); all_goals ((try conv => whnf); try with_reducible exact trivial)
  (repeat' ((first | (refine And.intro ⟨by omega, rfl⟩ ?_) | (refine And.intro ⟨by omega, rfl, rfl, by dsimp only; omega⟩ ?_)); (repeat' ((conv => whnf); (first | (with_reducible apply spl) <;> intro hc <;> try (exfalso; omega) | with_reducible refine iJ fun hc => ?_ | refine vcq (k := ?_) | refine dr 21 (k := ?_) | refine dr 2011 (k := ?_) | refine dr 8 (k := ?_)))); all_goals ((try conv => whnf); try with_reducible exact trivial)))
  · rw [Int.toNat_natCast, Int.toNat_natCast] at *
    have hep := RS.ep_wr (s := s) (e := e) (b := b) he
    rw [RS.wr_pos hc]
    refine ⟨_, _, ⟨rfl, rfl⟩, some [some 2], ?_⟩
    unfold RS.vo
    (repeat' ((conv => whnf); (first | (with_reducible apply spl) <;> intro hc <;> try (exfalso; omega) | with_reducible refine iJ fun hc => ?_ | refine vcq (k := ?_) | refine dr 21 (k := ?_) | refine dr 2011 (k := ?_) | refine dr 8 (k := ?_)))); all_goals ((try conv => whnf); try with_reducible exact trivial)
    refine ⟨by simp, rfl, fun e' he' => ⟨_, rfl, fun j _ => ?_⟩, .inl rfl, ?_⟩
    · show spliceP (e' = e ∧ j = b) [V.int .i64 (s.ep e' j)] 0 [V.int .i64 (-1)] = [V.int .i64 (RS.ep _ e' j)]
      rw [hep]
      by_cases h : e' = e ∧ j = b
      · rw [spliceP_pos h, if_pos h]; rfl
      · rw [spliceP_neg h, if_neg h]
    (repeat' ((conv => whnf); (first | (with_reducible apply spl) <;> intro hc <;> try (exfalso; omega) | with_reducible refine iJ fun hc => ?_ | refine vcq (k := ?_) | refine dr 21 (k := ?_) | refine dr 2011 (k := ?_) | refine dr 8 (k := ?_)))); all_goals ((try conv => whnf); try with_reducible exact trivial)
    refine ⟨fun i _ => ?_, ?_⟩
    · show spliceP (i = b) [V.int .i64 (s.M i)] 0 [V.int .i64 (s.ep e b)] = [V.int .i64 (if i = b then s.ep e b else s.M i)]
      by_cases h : i = b
      · rw [spliceP_pos h, if_pos h]; rfl
      · rw [spliceP_neg h, if_neg h]
    (repeat' ((conv => whnf); (first | (with_reducible apply spl) <;> intro hc <;> try (exfalso; omega) | with_reducible refine iJ fun hc => ?_ | refine vcq (k := ?_) | refine dr 21 (k := ?_) | refine dr 2011 (k := ?_) | refine dr 8 (k := ?_)))); all_goals ((try conv => whnf); try with_reducible exact trivial)
  · rw [Int.toNat_natCast, Int.toNat_natCast] at hc
    exact absurd (by assumption) hc
theorem Drained17n (n : Nat) (hn : 1 ≤ n ∧ n ≤ 1000) (s : RS) (hE : s.E.length ≤ 100) (hW : 0 ≤ s.W ∧ s.W ≤ 1000000) (z : Int) (hcan : canR n s z) :
    NewC Try.prog 17 [s.v n, .int .i64 z] (fun r H => r = .tup [(drS n s z).vo n 0, .prop True inferInstance] ∧ H = [.row 3 1 n (drS n s z).medF false]) := by
  refine newC_ent Try.E_ok Try.func17 rfl (by kernel_rfl) ?_
  (repeat' ((conv => whnf); (first | (with_reducible apply spl) <;> intro hc <;> try (exfalso; omega) | with_reducible refine iJ fun hc => ?_ | refine vcq (k := ?_) | refine dr 21 (k := ?_) | refine dr 2011 (k := ?_) | refine dr 8 (k := ?_)))); all_goals ((try conv => whnf); try with_reducible exact trivial)
  refine callee_fo (first46 n hn s hE) rfl ?_
  obtain ⟨hz0, hz1, e0, he0, hne0⟩ := id hcan
  obtain ⟨b, rfl⟩ : ∃ b : Nat, z = b := ⟨z.toNat, by omega⟩
  have htb : (b : Int).toNat = b := Int.toNat_natCast b
  rintro _ (⟨e, he, rfl⟩ | ⟨h, rfl⟩)
  · obtain rfl := IsFirst.uniq he he0
    have hel := he.1
    have hte : (e : Int).toNat = e := Int.toNat_natCast e
    (repeat' ((conv => whnf); (first | (with_reducible apply spl) <;> intro hc <;> try (exfalso; omega) | with_reducible refine iJ fun hc => ?_ | refine vcq (k := ?_) | refine dr 21 (k := ?_) | refine dr 2011 (k := ?_) | refine dr 8 (k := ?_)))); all_goals ((try conv => whnf); try with_reducible exact trivial); (repeat' ((first | (refine callee_fo (within47 _ _ _) rfl ?_; rintro _ rfl) | (refine pcall_intro (within47 _ _ _) rfl ?_) | (refine pcall_soft (fun _ => within47 _ _ _) rfl ?_)); (repeat' ((conv => whnf); (first | (with_reducible apply spl) <;> intro hc <;> try (exfalso; omega) | with_reducible refine iJ fun hc => ?_ | refine vcq (k := ?_) | refine dr 21 (k := ?_) | refine dr 2011 (k := ?_) | refine dr 8 (k := ?_)))); all_goals ((try conv => whnf); try with_reducible exact trivial)))
    · exfalso
      rw [hte] at hc
      rcases hc with hc | hc
      · omega
      · exact hne0 hc
    · rw [htb] at hne0
      have hy := drS_yes ⟨hz0, hz1⟩ he (by rw [htb]; exact hne0)
      rw [htb] at hy
      rw [hy.1]
      refine callee_new (write48n n hn s (by omega) hW e b hel (by omega) hne0) rfl ?_
      rintro _ _ ⟨rfl, rfl⟩
      unfold RS.vo
      (repeat' ((conv => whnf); (first | (with_reducible apply spl) <;> intro hc <;> try (exfalso; omega) | with_reducible refine iJ fun hc => ?_ | refine vcq (k := ?_) | refine dr 21 (k := ?_) | refine dr 2011 (k := ?_) | refine dr 8 (k := ?_)))); all_goals ((try conv => whnf); try with_reducible exact trivial)
      refine ⟨_, _, ⟨rfl, rfl⟩, some [some 2], ?_⟩
      (repeat' ((conv => whnf); (first | (with_reducible apply spl) <;> intro hc <;> try (exfalso; omega) | with_reducible refine iJ fun hc => ?_ | refine vcq (k := ?_) | refine dr 21 (k := ?_) | refine dr 2011 (k := ?_) | refine dr 8 (k := ?_)))); all_goals ((try conv => whnf); try with_reducible exact trivial)
  · exact absurd (h e0 he0.1) he0.2.1
structure Ply (x : Cache) (n : Nat) (D : List (Int × Int)) (i a : Nat) (s : RS) : Prop where
  ex : ∃ (s' : PS) (k' : Nat) (u : PS) (D' : List (Int × Int)), PS.playD x D a = some (s', k') ∧ k' ≤ min i x.l.length ∧ RchU x (min i x.l.length) u D' ∧ Sim n s u ∧ PS.from x.l s' k' (min i x.l.length - k') = u.tidy ∧
    (a < D.length → ∀ i' : Nat, k' ≤ i' → i' < i → (D.getD a (0, 0)).1 ≠ i')
namespace Ply
variable {x : Cache} {n : Nat} {D : List (Int × Int)} {i a : Nat} {s : RS}
theorem begin (hn : n ≤ 6) : Ply x n D 0 0 RS.begin :=
  ⟨_, _, _, [], rfl, by omega, by rw [Nat.zero_min]; exact .begin, Sim.begin hn, by rw [Nat.zero_min]; exact begin_tidy.symm, fun _ i' _ h => by omega⟩
theorem bnd (hx : x.Ok) (hn : x.n = n) (h : Ply x n D i a s) : 0 ≤ s.W ∧ s.W ≤ x.l.length ∧ 0 < s.E.length ∧ s.E.length ≤ x.l.length + 1 := by
  obtain ⟨_, _, u, _, _, _, h1, h2, _⟩ := h.ex
  have := h2.bnd hx hn h1
  omega
theorem drain (hx : x.Ok) (hn : x.n = n) (h : Ply x n D i a s) (hi : i ≤ x.l.length) (hd : (D.getD a (0, 0)).1 = i) (hc : canR n s (D.getD a (0, 0)).2) : Ply x n D i (a + 1) (drS n s (D.getD a (0, 0)).2) := by
  have hn6 := hx.n
  obtain ⟨s', k', u, D', h1, h2, h3, h4, h5, h6⟩ := h.ex
  rw [Nat.min_eq_left hi] at h2 h3 h5
  have hc2 := (h4.canR_iff (by omega)).1 hc
  have hl : 0 < u.E.length := by rw [(h3.inv hx).len]; omega
  have hct := (PS.can_tidy u hl _).2 hc2.2.2
  have hti : ((i : Nat) : Int).toNat = i := Int.toNat_natCast i
  refine ⟨u.tidy.drain (D.getD a (0, 0)).2.toNat, i, u.drainU (D.getD a (0, 0)).2.toNat, _, ?_, by rw [Nat.min_eq_left hi]; exact Nat.le_refl i, by rw [Nat.min_eq_left hi]; exact h3.drain (by omega) hc2.2.2, h4.drain' (by omega) hc, ?_, fun _ i' g1 g2 => by omega⟩
  · simp only [PS.playD]
    rw [h1]
    dsimp only
    rw [hd, hti, h5]
    rw [if_pos ⟨⟨by omega, by omega⟩, ⟨by omega, by omega⟩, hct⟩]
  · rw [Nat.min_eq_left hi, Nat.sub_self]
    exact (PS.drain_tidy u hl hc2.2.2).symm
theorem stop (hx : x.Ok) (hn : x.n = n) (h : Ply x n D i a s) (hi : i ≤ x.l.length) (ha : a < D.length) (hd : (D.getD a (0, 0)).1 = i) (hc : ¬ canR n s (D.getD a (0, 0)).2) : PS.playD x D D.length = none := by
  have hn6 := hx.n
  obtain ⟨s', k', u, D', h1, h2, h3, h4, h5, h6⟩ := h.ex
  rw [Nat.min_eq_left hi] at h2 h3 h5
  have hl : 0 < u.E.length := by rw [(h3.inv hx).len]; omega
  refine PS.playD_stop h1 ha fun g => hc ((h4.canR_iff (by omega)).2 ?_)
  obtain ⟨_, g2, g3⟩ := g
  rw [hd, Int.toNat_natCast, h5] at g3
  exact ⟨by omega, by omega, (PS.can_tidy u hl _).1 g3⟩
theorem order (hx : x.Ok) (hn : x.n = n) (h : Ply x n D i a s) (hi : i < x.l.length) (hd : a < D.length → (D.getD a (0, 0)).1 ≠ i) : Ply x n D (i + 1) a (s.order n i (x.l.getD i (0, 0))) := by
  obtain ⟨s', k', u, D', h1, h2, h3, h4, h5, h6⟩ := h.ex
  rw [Nat.min_eq_left (by omega)] at h2 h3 h5
  have hl : 0 < u.E.length := by rw [(h3.inv hx).len]; omega
  have e : min (i + 1) x.l.length = i + 1 := Nat.min_eq_left hi
  refine ⟨s', k', _, _, h1, by rw [e]; omega, by rw [e]; exact h3.order hi, h4.order (by have := hx.n; omega) hl (by omega) (hx.blkn hn hi), ?_, fun g i' g1 g2 => ?_⟩
  · rw [e, show i + 1 - k' = (i - k') + 1 by omega, from_from, h5, show k' + (i - k') = i by omega, PS.orderU_tidy u hl]
  · rcases Nat.lt_or_eq_of_le (show i' ≤ i by omega) with k | rfl
    · exact h6 g i' g1 k
    · exact hd g
theorem last (h : Ply x n D x.l.length a s) (hd : a < D.length → (D.getD a (0, 0)).1 ≠ x.l.length) : Ply x n D (x.l.length + 1) a s := by
  obtain ⟨s', k', u, D', h1, h2, h3, h4, h5, h6⟩ := h.ex
  have e : min (x.l.length + 1) x.l.length = min x.l.length x.l.length := by omega
  refine ⟨s', k', u, D', h1, by rw [e]; exact h2, by rw [e]; exact h3, h4, by rw [e]; exact h5, fun g i' g1 g2 => ?_⟩
  rcases Nat.lt_or_eq_of_le (show i' ≤ x.l.length by omega) with k | rfl
  · exact h6 g i' g1 k
  · exact hd g
theorem late (h : Ply x n D (x.l.length + 1) a s) (ha : a < D.length) : PS.playD x D D.length = none := by
  obtain ⟨s', k', u, D', h1, h2, h3, h4, h5, h6⟩ := h.ex
  refine PS.playD_stop h1 ha fun g => ?_
  obtain ⟨⟨g1, g2⟩, _⟩ := g
  exact h6 ha (D.getD a (0, 0)).1.toNat (by omega) (by omega) (by omega)
theorem fin (h : Ply x n D (x.l.length + 1) D.length s) : ∃ s' k', PS.playD x D D.length = some (s', k') ∧ ∀ b, b < n → (PS.from x.l s' k' (x.l.length - k')).M.get b = s.M b := by
  obtain ⟨s', k', u, D', h1, h2, h3, h4, h5, h6⟩ := h.ex
  have e : min (x.l.length + 1) x.l.length = x.l.length := by omega
  rw [e] at h5
  refine ⟨s', k', h1, fun b hb => ?_⟩
  rw [h5, h4.M b hb]
  rfl
end Ply
def RS.co (n : Nat) (s : RS) (own : Bool) : List V := [bif own then .osl 2 n else .sl 1 n s.medF, .sl 1 s.E.length (s.epF n), .int .i64 s.W]
theorem Play32 (x : Cache) (hl : x.l.length ≤ 1000000) (D : List (Int × Int)) (hD : D.length ≤ 1000000) (torn : Bool) : PureC Try.prog 32 true [x.v, .sl 2 D.length (rowOf oC (0, 0) D), .prop (torn = true) inferInstance] (· = .tup (playV x D torn)) := by
  refine pureC_of_exec Try.E_ok Try.func32 rfl (by kernel_rfl) ?_
  unfold playV
  (repeat' ((conv => whnf); (first | (with_reducible apply spl) <;> intro hc <;> try (exfalso; omega) | with_reducible refine iJ fun hc => ?_ | refine vcq (k := ?_) | refine dr 21 (k := ?_) | refine dr 2011 (k := ?_) | refine dr 8 (k := ?_)))); all_goals ((try conv => whnf); try with_reducible exact trivial); (repeat' ((first | (refine callee_fo (Check37 x hl) rfl ?_; rintro _ rfl)); (repeat' ((conv => whnf); (first | (with_reducible apply spl) <;> intro hc <;> try (exfalso; omega) | with_reducible refine iJ fun hc => ?_ | refine vcq (k := ?_) | refine dr 21 (k := ?_) | refine dr 2011 (k := ?_) | refine dr 8 (k := ?_)))); all_goals ((try conv => whnf); try with_reducible exact trivial)))
  · rw [if_neg hc]
    have h80 : x.chk = 80 := by unfold Cache.chk at hc ⊢; split <;> simp_all
    rw [h80]
    refine ⟨_, rfl, ?_⟩
    (repeat' ((conv => whnf); (first | (with_reducible apply spl) <;> intro hc <;> try (exfalso; omega) | with_reducible refine iJ fun hc => ?_ | refine vcq (k := ?_) | refine dr 21 (k := ?_) | refine dr 2011 (k := ?_) | refine dr 8 (k := ?_)))); all_goals ((try conv => whnf); try with_reducible exact trivial)
  · have hk : x.chk = 0 := Classical.not_not.1 (by assumption)
    have hx := Cache.chk_ok hk
    have hn6 := hx.n
    have h16 := hx.len
    have hbad : badPl x D torn := (badPl_iff x D torn).1 (by assumption)
    rw [if_pos hk, if_pos hbad]
    refine ⟨_, rfl, ?_⟩
    (repeat' ((conv => whnf); (first | (with_reducible apply spl) <;> intro hc <;> try (exfalso; omega) | with_reducible refine iJ fun hc => ?_ | refine vcq (k := ?_) | refine dr 21 (k := ?_) | refine dr 2011 (k := ?_) | refine dr 8 (k := ?_)))); all_goals ((try conv => whnf); try with_reducible exact trivial)
  · have hk : x.chk = 0 := Classical.not_not.1 (by assumption)
    have hx := Cache.chk_ok hk
    have hn6 := hx.n
    have h16 := hx.len
    have hbad : ¬ badPl x D torn := fun g => hc ((badPl_iff x D torn).2 g)
    rw [if_pos hk, if_neg hbad]
    obtain ⟨n, hn⟩ : ∃ n : Nat, x.n = n := ⟨x.n.toNat, by omega⟩
    have hD16 : D.length ≤ 16 := Classical.byContradiction fun g => hbad (.inl (by omega))
    have htn : torn = true → 0 < D.length ∧ (D.getD (D.length - 1) (0, 0)).1 = x.l.length := fun g => ⟨Classical.byContradiction fun k => hbad (.inr ⟨g, .inl (by omega)⟩), Classical.byContradiction fun k => hbad (.inr ⟨g, .inr k⟩)⟩
    refine callee_fo (begin16 x n hn (by omega)) rfl ?_
    rintro _ rfl
    (repeat' ((conv => whnf); (first | (with_reducible apply spl) <;> intro hc <;> try (exfalso; omega) | with_reducible refine iJ fun hc => ?_ | refine vcq (k := ?_) | refine dr 21 (k := ?_) | refine dr 2011 (k := ?_) | refine dr 8 (k := ?_)))); all_goals ((try conv => whnf); try with_reducible exact trivial)
    refine ⟨Nat × Nat × RS × Bool, fun q => q.1 ≤ x.l.length + 1 ∧ q.2.1 ≤ D.length ∧ Ply x n D q.1 q.2.1 q.2.2.1 ∧ (q.2.2.2 = true → q.2.1 = D.length ∧ torn = true ∧ q.1 = x.l.length + 1) ∧ (q.2.2.2 = false → torn = true → q.2.1 < D.length), fun q => x.l.length + 1 - q.1,
      fun q => [(11, .int .i64 (q.1 : Nat)), (10, .int .i64 (q.2.1 : Nat)), (34, .any)], fun q => [(1, .cells 34 (q.2.2.1.co n q.2.2.2))], fun q => bif q.2.2.2 then [.row 3 1 n q.2.2.1.medF false] else [], (0, 0, RS.begin, false), ⟨⟨by dsimp only; omega, by dsimp only; omega, Ply.begin (by omega), fun g => (Bool.noConfusion g), fun _ g => (htn g).1⟩, none, ?_⟩, ?_⟩
    · (repeat' ((conv => whnf); (first | (with_reducible apply spl) <;> intro hc <;> try (exfalso; omega) | with_reducible refine iJ fun hc => ?_ | refine vcq (k := ?_) | refine dr 21 (k := ?_) | refine dr 2011 (k := ?_) | refine dr 8 (k := ?_)))); all_goals ((try conv => whnf); try with_reducible exact trivial)
      rfl
    · rintro ⟨i, a, s, own⟩ ⟨hi, ha, hp, ho1, ho2⟩
      dsimp only at hi ha hp ho1 ho2
      have hti : (i : Int).toNat = i := Int.toNat_natCast i
      cases own with
      | false =>
        (repeat' ((conv => whnf); (first | (with_reducible apply spl) <;> intro hc <;> try (exfalso; omega) | with_reducible refine iJ fun hc => ?_ | refine vcq (k := ?_) | refine dr 21 (k := ?_) | refine dr 2011 (k := ?_) | refine dr 8 (k := ?_)))); all_goals ((try conv => whnf); try with_reducible exact trivial)
        · have hi1 : i ≤ x.l.length := by dsimp only at hc; omega
          refine ⟨Nat × RS × Bool, fun q => q.1 ≤ D.length ∧ Ply x n D i q.1 q.2.1 ∧ (q.2.2 = true → q.1 = D.length ∧ torn = true ∧ i = x.l.length) ∧ (q.2.2 = false → torn = true → q.1 < D.length), fun q => D.length - q.1,
            fun q => [(10, .int .i64 (q.1 : Nat))], fun q => [(1, .cells 34 (q.2.1.co n q.2.2))], fun q => bif q.2.2 then [.row 3 1 n q.2.1.medF false] else [], (a, s, false), ⟨⟨ha, hp, fun g => (Bool.noConfusion g), ho2⟩, none, ?_⟩, ?_⟩
          · (repeat' ((conv => whnf); (first | (with_reducible apply spl) <;> intro hc <;> try (exfalso; omega) | with_reducible refine iJ fun hc => ?_ | refine vcq (k := ?_) | refine dr 21 (k := ?_) | refine dr 2011 (k := ?_) | refine dr 8 (k := ?_)))); all_goals ((try conv => whnf); try with_reducible exact trivial)
          · clear hp ha ho1 ho2
            rintro ⟨a, s, own⟩ ⟨ha, hp, ho1, ho2⟩
            dsimp only at ha hp ho1 ho2
            have hta : (a : Int).toNat = a := Int.toNat_natCast a
            have hb := hp.bnd hx hn
            cases own with
            | false =>
              (repeat' ((conv => whnf); (first | (with_reducible apply spl) <;> intro hc <;> try (exfalso; omega) | with_reducible refine iJ fun hc => ?_ | refine vcq (k := ?_) | refine dr 21 (k := ?_) | refine dr 2011 (k := ?_) | refine dr 8 (k := ?_)))); all_goals ((try conv => whnf); try with_reducible exact trivial)
              · have hcd : (a : Int) < D.length ∧ (D.getD (a : Int).toNat (0, 0)).1 = i := hc
                rw [hta] at hcd
                have ha1 : a < D.length := by omega
                by_cases hcn : canR n s (D.getD a (0, 0)).2
                · have hp2 := hp.drain hx hn hi1 hcd.2 hcn
                  by_cases hlast : torn = true ∧ a + 1 = D.length
                  · refine ncall_intro (Drained17n n (by omega) s (by omega) (by omega) (D.getD (a : Int).toNat (0, 0)).2 (by rw [hta]; exact hcn)) rfl ?_
                    unfold RS.vo
                    (repeat' ((conv => whnf); (first | (with_reducible apply spl) <;> intro hc <;> try (exfalso; omega) | with_reducible refine iJ fun hc => ?_ | refine vcq (k := ?_) | refine dr 21 (k := ?_) | refine dr 2011 (k := ?_) | refine dr 8 (k := ?_)))); all_goals ((try conv => whnf); try with_reducible exact trivial)
                    · exact absurd trivial hc
                    · rw [hta]
                      have hil : i = x.l.length := by
                        have g1 := (htn hlast.1).2
                        have g2 := hcd.2
                        rw [show D.length - 1 = a by omega] at g1
                        omega
                      refine ⟨(a + 1, drS n s (D.getD a (0, 0)).2, true), ⟨⟨by dsimp only; omega, hp2, fun _ => ⟨hlast.2, hlast.1, hil⟩, fun g => (Bool.noConfusion g)⟩, by dsimp only; omega⟩, some [some 0, some 1, some 2], ?_⟩
                      dsimp only [RS.co, RS.c]
                      (repeat' ((conv => whnf); (first | (with_reducible apply spl) <;> intro hc <;> try (exfalso; omega) | with_reducible refine iJ fun hc => ?_ | refine vcq (k := ?_) | refine dr 21 (k := ?_) | refine dr 2011 (k := ?_) | refine dr 8 (k := ?_)))); all_goals ((try conv => whnf); try with_reducible exact trivial)
                  · refine pcall_intro (Drained17d n (by omega) s (by omega) (by omega) (D.getD (a : Int).toNat (0, 0)).2) rfl ?_
                    (repeat' ((conv => whnf); (first | (with_reducible apply spl) <;> intro hc <;> try (exfalso; omega) | with_reducible refine iJ fun hc => ?_ | refine vcq (k := ?_) | refine dr 21 (k := ?_) | refine dr 2011 (k := ?_) | refine dr 8 (k := ?_)))); all_goals ((try conv => whnf); try with_reducible exact trivial)
                    · rw [hta] at hc
                      exact absurd hcn hc
                    · rw [hta]
                      refine ⟨(a + 1, drS n s (D.getD a (0, 0)).2, false), ⟨⟨by dsimp only; omega, hp2, fun g => (Bool.noConfusion g), fun _ g => by dsimp only; have hne : a + 1 ≠ D.length := fun k => hlast ⟨g, k⟩; omega⟩, by dsimp only; omega⟩, some [some 0, some 1], ?_⟩
                      dsimp only [RS.co, RS.c]
                      (repeat' ((conv => whnf); (first | (with_reducible apply spl) <;> intro hc <;> try (exfalso; omega) | with_reducible refine iJ fun hc => ?_ | refine vcq (k := ?_) | refine dr 21 (k := ?_) | refine dr 2011 (k := ?_) | refine dr 8 (k := ?_)))); all_goals ((try conv => whnf); try with_reducible exact trivial)
                · have hst := hp.stop hx hn hi1 ha1 hcd.2 hcn
                  refine pcall_intro (Drained17d n (by omega) s (by omega) (by omega) (D.getD (a : Int).toNat (0, 0)).2) rfl ?_
                  (repeat' ((conv => whnf); (first | (with_reducible apply spl) <;> intro hc <;> try (exfalso; omega) | with_reducible refine iJ fun hc => ?_ | refine vcq (k := ?_) | refine dr 21 (k := ?_) | refine dr 2011 (k := ?_) | refine dr 8 (k := ?_)))); all_goals ((try conv => whnf); try with_reducible exact trivial)
                  · rw [hst]
                    refine ⟨_, rfl, ?_⟩
                    (repeat' ((conv => whnf); (first | (with_reducible apply spl) <;> intro hc <;> try (exfalso; omega) | with_reducible refine iJ fun hc => ?_ | refine vcq (k := ?_) | refine dr 21 (k := ?_) | refine dr 2011 (k := ?_) | refine dr 8 (k := ?_)))); all_goals ((try conv => whnf); try with_reducible exact trivial)
                  · rw [hta] at hc
                    exact absurd hc (fun k => k hcn)
              · have hi2 : i < x.l.length := by dsimp only at hc; omega
                have hcd : ¬ ((a : Int) < D.length ∧ (D.getD (a : Int).toNat (0, 0)).1 = i) := by assumption
                rw [hta] at hcd
                have hp2 := hp.order hx hn hi2 (fun g k => hcd ⟨by omega, k⟩)
                have hob := hx.blkn hn hi2
                rw [← hti] at hob
                refine pcall_intro (do18 n (by omega) s (by omega) (by omega) i (x.l.getD (i : Int).toNat (0, 0)) hob) rfl ?_
                (repeat' ((conv => whnf); (first | (with_reducible apply spl) <;> intro hc <;> try (exfalso; omega) | with_reducible refine iJ fun hc => ?_ | refine vcq (k := ?_) | refine dr 21 (k := ?_) | refine dr 2011 (k := ?_) | refine dr 8 (k := ?_)))); all_goals ((try conv => whnf); try with_reducible exact trivial)
                rw [hti]
                refine ⟨(i + 1, a, s.order n i (x.l.getD i (0, 0)), false), ⟨⟨by dsimp only; omega, ha, hp2, fun g => (Bool.noConfusion g), ho2⟩, by dsimp only; omega⟩, none, ?_⟩
                (repeat' ((conv => whnf); (first | (with_reducible apply spl) <;> intro hc <;> try (exfalso; omega) | with_reducible refine iJ fun hc => ?_ | refine vcq (k := ?_) | refine dr 21 (k := ?_) | refine dr 2011 (k := ?_) | refine dr 8 (k := ?_)))); all_goals ((try conv => whnf); try with_reducible exact trivial)
                all_goals (try rfl)
              · have hi2 : i = x.l.length := by dsimp only at hc; omega
                have hcd : ¬ ((a : Int) < D.length ∧ (D.getD (a : Int).toNat (0, 0)).1 = i) := by assumption
                rw [hta] at hcd
                subst hi2
                have hp2 := hp.last (fun g k => hcd ⟨by omega, k⟩)
                refine ⟨(x.l.length + 1, a, s, false), ⟨⟨by dsimp only; omega, ha, hp2, fun g => (Bool.noConfusion g), ho2⟩, by dsimp only; omega⟩, none, ?_⟩
                (repeat' ((conv => whnf); (first | (with_reducible apply spl) <;> intro hc <;> try (exfalso; omega) | with_reducible refine iJ fun hc => ?_ | refine vcq (k := ?_) | refine dr 21 (k := ?_) | refine dr 2011 (k := ?_) | refine dr 8 (k := ?_)))); all_goals ((try conv => whnf); try with_reducible exact trivial)
                all_goals (try rfl)
            | true =>
              obtain ⟨h1, h2, h3⟩ := ho1 rfl
              (repeat' ((conv => whnf); (first | (with_reducible apply spl) <;> intro hc <;> try (exfalso; omega) | with_reducible refine iJ fun hc => ?_ | refine vcq (k := ?_) | refine dr 21 (k := ?_) | refine dr 2011 (k := ?_) | refine dr 8 (k := ?_)))); all_goals ((try conv => whnf); try with_reducible exact trivial)
              subst h3
              have hp2 := hp.last (fun g k => by omega)
              refine ⟨(x.l.length + 1, a, s, true), ⟨⟨by dsimp only; omega, ha, hp2, fun _ => ⟨h1, h2, rfl⟩, fun g => (Bool.noConfusion g)⟩, by dsimp only; omega⟩, some [some 0, some 1, some 2], ?_⟩
              dsimp only [RS.co]
              (repeat' ((conv => whnf); (first | (with_reducible apply spl) <;> intro hc <;> try (exfalso; omega) | with_reducible refine iJ fun hc => ?_ | refine vcq (k := ?_) | refine dr 21 (k := ?_) | refine dr 2011 (k := ?_) | refine dr 8 (k := ?_)))); all_goals ((try conv => whnf); try with_reducible exact trivial)
        · have hi2 : i = x.l.length + 1 := by have : ¬ (i : Int) ≤ x.l.length := by assumption
                                              omega
          subst hi2
          have ha1 : (a : Int) < D.length := by assumption
          rw [hp.late (by omega)]
          refine ⟨_, rfl, ?_⟩
          (repeat' ((conv => whnf); (first | (with_reducible apply spl) <;> intro hc <;> try (exfalso; omega) | with_reducible refine iJ fun hc => ?_ | refine vcq (k := ?_) | refine dr 21 (k := ?_) | refine dr 2011 (k := ?_) | refine dr 8 (k := ?_)))); all_goals ((try conv => whnf); try with_reducible exact trivial)
        · have ha1 : ¬ (a : Int) < D.length := by assumption
          have := ho2 rfl (by assumption)
          omega
        · have hi2 : i = x.l.length + 1 := by have : ¬ (i : Int) ≤ x.l.length := by assumption
                                              omega
          have ha1 : ¬ (a : Int) < D.length := by assumption
          have had : a = D.length := by omega
          subst hi2 had
          obtain ⟨s', k', hpl, hM⟩ := hp.fin
          have hto : ¬ torn = true := by assumption
          rw [hpl]
          dsimp only [PS.endP]
          rw [if_neg hto]
          refine ⟨_, rfl, ?_⟩
          (repeat' ((conv => whnf); (first | (with_reducible apply spl) <;> intro hc <;> try (exfalso; omega) | with_reducible refine iJ fun hc => ?_ | refine vcq (k := ?_) | refine dr 21 (k := ?_) | refine dr 2011 (k := ?_) | refine dr 8 (k := ?_)))); all_goals ((try conv => whnf); try with_reducible exact trivial)
          refine ⟨fun b hb => ?_, ?_⟩
          · show [V.int .i64 (s.M b)] = [V.int .i64 ((PS.from x.l s' k' (x.l.length - k')).M.get b)]
            rw [hM b hb]
          (repeat' ((conv => whnf); (first | (with_reducible apply spl) <;> intro hc <;> try (exfalso; omega) | with_reducible refine iJ fun hc => ?_ | refine vcq (k := ?_) | refine dr 21 (k := ?_) | refine dr 2011 (k := ?_) | refine dr 8 (k := ?_)))); all_goals ((try conv => whnf); try with_reducible exact trivial)
      | true =>
        obtain ⟨h1, h2, h3⟩ := ho1 rfl
        subst h3 h1
        obtain ⟨hD0, _⟩ := htn h2
        obtain ⟨s', k', hpl, hM⟩ := hp.fin
        have hblk := PS.playD_blk hpl hD0
        have e1 : ((D.length : Int) - 1).toNat = D.length - 1 := by omega
        rw [← e1] at hblk
        (repeat' ((conv => whnf); (first | (with_reducible apply spl) <;> intro hc <;> try (exfalso; omega) | with_reducible refine iJ fun hc => ?_ | refine vcq (k := ?_) | refine dr 21 (k := ?_) | refine dr 2011 (k := ?_) | refine dr 8 (k := ?_)))); all_goals ((try conv => whnf); try with_reducible exact trivial)
        · exfalso
          have : ((D.length : Nat) : Int) < D.length := by assumption
          omega
        · rw [hpl]
          dsimp only [PS.endP]
          rw [if_pos h2]
          refine ⟨_, rfl, ?_⟩
          (repeat' ((conv => whnf); (first | (with_reducible apply spl) <;> intro hc <;> try (exfalso; omega) | with_reducible refine iJ fun hc => ?_ | refine vcq (k := ?_) | refine dr 21 (k := ?_) | refine dr 2011 (k := ?_) | refine dr 8 (k := ?_)))); all_goals ((try conv => whnf); try with_reducible exact trivial)
          refine ⟨fun b hb => ?_, .inl rfl, ?_⟩
          · show spliceP (b = (D.getD ((D.length : Int) - 1).toNat (0, 0)).2.toNat) [V.int .i64 (s.M b)] 0 [V.int .i64 (-2)] = [V.int .i64 (((PS.from x.l s' k' (x.l.length - k')).M.set (D.getD (D.length - 1) (0, 0)).2.toNat (-2)).get b)]
            rw [e1] at hblk ⊢
            rw [C6.get_set (by omega) (by omega), ← hM b hb]
            by_cases h : b = (D.getD (D.length - 1) (0, 0)).2.toNat
            · rw [spliceP_pos h, if_pos h]; rfl
            · rw [spliceP_neg h, if_neg h]
          (repeat' ((conv => whnf); (first | (with_reducible apply spl) <;> intro hc <;> try (exfalso; omega) | with_reducible refine iJ fun hc => ?_ | refine vcq (k := ?_) | refine dr 21 (k := ?_) | refine dr 2011 (k := ?_) | refine dr 8 (k := ?_)))); all_goals ((try conv => whnf); try with_reducible exact trivial)
        · exact absurd h2 (by assumption)
theorem show_play {x : Cache} (hk : x.chk = 0) {im : Img} (h : ImgOk x im) : playV x im.t.D im.torn = [.sl 1 x.n.toNat (iF im.h.get), .int .i64 0] ∧ im.t.D.length ≤ 16 := by
  obtain ⟨h1, s, k, h2, h3⟩ := img_play (Cache.chk_ok hk) h
  refine ⟨?_, Classical.byContradiction fun g => h1 (.inl (by omega))⟩
  unfold playV
  rw [if_pos hk, if_neg h1, h2]
  dsimp only
  rw [h3]
  rfl
def FdQ (L : List Int) (n : Int) (i : Nat) : Prop := ∃ j, j < i ∧ L.getD j 0 = n
theorem FdQ.succ {L : List Int} {n : Int} {i : Nat} : FdQ L n (i + 1) ↔ FdQ L n i ∨ L.getD i 0 = n := by
  constructor
  · rintro ⟨j, h1, h2⟩
    rcases Nat.lt_or_eq_of_le (show j ≤ i by omega) with g | rfl
    · exact .inl ⟨j, g, h2⟩
    · exact .inr h2
  · rintro (⟨j, h1, h2⟩ | h)
    · exact ⟨j, by omega, h2⟩
    · exact ⟨i, by omega, h⟩
open Classical in
theorem Possible27 (x : Cache) (hl : x.l.length ≤ 1000000) (hs : x.chk = 0 → x.Small) (l : List Int) (hll : l.length ≤ 1000000) : PureC Try.prog 27 false [x.v, .sl 1 l.length (rowOf intC 0 l)] (PosR x l) := by
  refine pureC_of_exec Try.E_ok Try.func27 rfl (by kernel_rfl) ?_
  (repeat' ((conv => whnf); (first | (with_reducible apply spl) <;> intro hc <;> try (exfalso; omega) | with_reducible refine iJ fun hc => ?_ | refine vcq (k := ?_) | fail))); all_goals ((try conv => whnf); try with_reducible exact trivial); (repeat' ((first | (refine callee_fo (Check37 x hl) rfl ?_; rintro _ rfl)); (repeat' ((conv => whnf); (first | (with_reducible apply spl) <;> intro hc <;> try (exfalso; omega) | with_reducible refine iJ fun hc => ?_ | refine vcq (k := ?_) | fail))); all_goals ((try conv => whnf); try with_reducible exact trivial)))
  · have h80 := chk80 hc
    refine ⟨_, .chk hc, ?_⟩
    rw [h80]
    (repeat' ((conv => whnf); (first | (with_reducible apply spl) <;> intro hc <;> try (exfalso; omega) | with_reducible refine iJ fun hc => ?_ | refine vcq (k := ?_) | fail))); all_goals ((try conv => whnf); try with_reducible exact trivial)
  · have hk : x.chk = 0 := Classical.not_not.1 hc
    have hx := hs hk
    have hn := hx.ok.n
    have h3 := hx.n
    clear hc
    refine callee_fo (IsImage33 x hl l hll) rfl ?_
    rintro _ rfl
    (repeat' ((conv => whnf); (first | (with_reducible apply spl) <;> intro hc <;> try (exfalso; omega) | with_reducible refine iJ fun hc => ?_ | refine vcq (k := ?_) | fail))); all_goals ((try conv => whnf); try with_reducible exact trivial)
    · refine ⟨_, .img hk hc, ?_⟩
      (repeat' ((conv => whnf); (first | (with_reducible apply spl) <;> intro hc <;> try (exfalso; omega) | with_reducible refine iJ fun hc => ?_ | refine vcq (k := ?_) | fail))); all_goals ((try conv => whnf); try with_reducible exact trivial)
    · have himg : IsImg x l := Classical.not_not.1 hc
      have hln := himg.1
      refine callee_new (Images60 x hx l.length (by omega)) rfl ?_
      rintro _ _ ⟨Ms, hM, rfl, rfl⟩
      have hpos := hM.pos (l := l) rfl
      have hml := hM.len
      (repeat' ((conv => whnf); (first | (with_reducible apply spl) <;> intro hc <;> try (exfalso; omega) | with_reducible refine iJ fun hc => ?_ | refine vcq (k := ?_) | fail))); all_goals ((try conv => whnf); try with_reducible exact trivial)
      refine callee_frame [1] (image61 l.length (by omega) Ms (by omega) (fun b => l.getD b 0) true) rfl ?_ ?_
      · (repeat' ((conv => whnf); (first | (with_reducible apply spl) <;> intro hc <;> try (exfalso; omega) | with_reducible refine iJ fun hc => ?_ | refine vcq (k := ?_) | fail))); all_goals ((try conv => whnf); try with_reducible exact trivial)
      · rintro _ _ ⟨rfl, rfl⟩
        (repeat' ((conv => whnf); (first | (with_reducible apply spl) <;> intro hc <;> try (exfalso; omega) | with_reducible refine iJ fun hc => ?_ | refine vcq (k := ?_) | fail))); all_goals ((try conv => whnf); try with_reducible exact trivial)
        refine ⟨_, .pos hk himg, ?_⟩
        (repeat' ((conv => whnf); (first | (with_reducible apply spl) <;> intro hc <;> try (exfalso; omega) | with_reducible refine iJ fun hc => ?_ | refine vcq (k := ?_) | fail))); all_goals ((try conv => whnf); try with_reducible exact trivial)
        refine ⟨by rw [← hpos]; omega, ?_⟩
        (repeat' ((conv => whnf); (first | (with_reducible apply spl) <;> intro hc <;> try (exfalso; omega) | with_reducible refine iJ fun hc => ?_ | refine vcq (k := ?_) | fail))); all_goals ((try conv => whnf); try with_reducible exact trivial)
theorem pureWk {P : Program} {g : FuncId} {keep : Bool} {args : List V} {R R' : V → Prop} (h : PureC P g keep args R) (hr : ∀ r, R r → ∃ r', R' r' ∧ ∀ I w v, Den I [] w r v → Den I [] w r' v) : PureC P g keep args R' :=
  ⟨h.1, fun I w vals hI hd => (h.2 I w vals hI hd).mono fun _ _ ⟨_, v, h1, h2, h3, h4⟩ => let ⟨r', g1, g2⟩ := hr _ h2; ⟨r', v, h1, g1, g2 _ _ _ h3, h4⟩⟩
theorem show_err (x : Cache) (l : List Int) (h : ¬ (x.chk = 0 ∧ IsImg x l)) : ∃ e : Int, e ≠ 0 ∧ (∀ r, ShowR x l r → r = .tup [.lit (.slice none 0 0), .prop False inferInstance, .int .i64 e]) ∧ ∀ r, PosR x l r → r = .tup [.prop False inferInstance, .int .i64 e] := by
  by_cases hk : x.chk = 0
  · have hi : ¬ IsImg x l := fun g => h ⟨hk, g⟩
    refine ⟨81, by decide, fun r hr => ?_, fun r hr => ?_⟩
    · cases hr with
      | chk h => exact absurd hk h
      | img => rfl
      | no _ h => exact absurd h hi
      | yes _ _ h => exact absurd h hi
    · cases hr with
      | chk h => exact absurd hk h
      | img => rfl
      | pos _ h => exact absurd h hi
  · refine ⟨x.chk, hk, fun r hr => ?_, fun r hr => ?_⟩
    · cases hr with
      | chk => rfl
      | img h => exact absurd h hk
      | no h => exact absurd h hk
      | yes _ h => exact absurd h hk
    · cases hr with
      | chk => rfl
      | img h => exact absurd h hk
      | pos h => exact absurd h hk
theorem den_nilL {I : Nat → Prop} {w : World} {v : Value} {sz : Nat} {f : Nat → List V} {cs : List V} (h : Den I [] w (.tup (.lit (.slice none 0 0) :: cs)) v) : Den I [] w (.tup (.sl sz 0 f :: cs)) v := by
  obtain ⟨vs, rfl, v1, r1, rfl, h1, h2⟩ := h
  have h1 : v1 = .slice none 0 0 := h1
  exact ⟨_, rfl, v1, r1, rfl, .inl ⟨rfl, none, 0, h1⟩, h2⟩
theorem show_w {x : Cache} {l : List Int} {args : List V} {e : Int} (h : PureC Try.prog 31 true args (ShowR x l)) (hr : ∀ r, ShowR x l r → r = .tup [.lit (.slice none 0 0), .prop False inferInstance, .int .i64 e]) : PureC Try.prog 31 true args (· = .tup [.sl 2 0 (rowOf oC (0, 0) []), .prop False inferInstance, .int .i64 e]) :=
  pureWk h fun r g => ⟨_, rfl, fun _ _ _ hd => by rw [hr r g] at hd; exact den_nilL hd⟩
theorem show_no {x : Cache} {l : List Int} (hk : x.chk = 0) (hi : IsImg x l) (hno : ¬ IsPos x l) : ∀ r, ShowR x l r → r = .tup [.lit (.slice none 0 0), .prop False inferInstance, .int .i64 3] := fun r hr => by
  cases hr with
  | chk h => exact absurd hk h
  | img _ h => exact absurd hi h
  | no => rfl
  | yes im _ _ h g => exact absurd ⟨_, h.pos, g⟩ hno
theorem show_yes {x : Cache} {l : List Int} (hk : x.chk = 0) (hi : IsImg x l) (hp : IsPos x l) : ∀ r, ShowR x l r → ∃ im, ImgOk x im ∧ Eqs im.h l ∧ r = .tup [drV im.t.D, .prop (im.torn = true) inferInstance, .int .i64 0] := fun r hr => by
  cases hr with
  | chk h => exact absurd hk h
  | img _ h => exact absurd hi h
  | no _ _ h => exact absurd hp h
  | yes im _ _ h g => exact ⟨im, h, g, rfl⟩
theorem pos_at {x : Cache} {l : List Int} {args : List V} (h : PureC Try.prog 27 false args (PosR x l)) (hk : x.chk = 0) (hi : IsImg x l) {p : Prop} (hp : IsPos x l = p) : PureC Try.prog 27 false args (· = .tup [.prop p (Classical.propDecidable p), .int .i64 0]) := by
  subst hp
  refine h.mono fun r hr => ?_
  cases hr with
  | chk h => exact absurd hk h
  | img _ h => exact absurd hi h
  | pos => rfl
theorem Shows6 (x : Cache) (hl : x.l.length ≤ 9223372036854775807) (l : List Int) (hll : l.length ≤ 9223372036854775807) : PureC Try.prog 6 false [x.v, .sl 1 l.length (rowOf intC 0 l)] (· = .prop True inferInstance) := by
  refine pureC_of_exec Try.E_ok Try.func6 rfl (by kernel_rfl) ?_
  (repeat' ((conv => whnf); (first | (with_reducible apply spl) <;> intro hc <;> try (exfalso; omega) | with_reducible refine iJ fun hc => ?_ | refine vcq (k := ?_) | fail))); all_goals ((try conv => whnf); try with_reducible exact trivial); (repeat' ((first | (refine callee_fo (Far23 x hl) rfl ?_; rintro _ rfl) | (refine callee_fo (works13) rfl ?_; rintro _ rfl)); (repeat' ((conv => whnf); (first | (with_reducible apply spl) <;> intro hc <;> try (exfalso; omega) | with_reducible refine iJ fun hc => ?_ | refine vcq (k := ?_) | fail))); all_goals ((try conv => whnf); try with_reducible exact trivial)))
  · refine ⟨_, rfl, ?_⟩
    conv => whnf
    trivial
  · have h40 : x.l.length ≤ 40 := Classical.byContradiction fun g => hc (.inl (.inl (by omega)))
    have hl40 : l.length ≤ 40 := Classical.byContradiction fun g => hc (.inr (by omega))
    have hfar : ¬ x.far := fun g => hc (.inl g)
    have hs : x.chk = 0 → x.Small := fun h => Cache.valid ⟨hfar, h⟩
    clear hc
    refine callee_fo (Copy24p x (by omega)) rfl ?_
    rintro _ rfl
    have hS := Show31 x (by omega) hs l (by omega)
    have hP := Possible27 x (by omega) hs l (by omega)
    (repeat' ((conv => whnf); (first | (with_reducible apply spl) <;> intro hc <;> try (exfalso; omega) | with_reducible refine iJ fun hc => ?_ | refine vcq (k := ?_) | fail))); all_goals ((try conv => whnf); try with_reducible exact trivial)
    by_cases hi : x.chk = 0 ∧ IsImg x l
    · obtain ⟨hk, himg⟩ := hi
      by_cases hpos : IsPos x l
      · have hP := pos_at hP hk himg (eq_true hpos)
        have hx := hs hk
        have hn := hx.ok.n
        have h3 := hx.n
        have hln := himg.1
        refine callee_frz (PureC.view hS ?_) rfl ?_ ?_
        · (repeat' ((conv => whnf); (first | (with_reducible apply spl) <;> intro hc <;> try (exfalso; omega) | with_reducible refine iJ fun hc => ?_ | refine vcq (k := ?_) | fail))); all_goals ((try conv => whnf); try with_reducible exact trivial)
        · simp [app]
        · intro r hr
          obtain ⟨im, him, heq, rfl⟩ := show_yes hk himg hpos r hr
          obtain ⟨hpl, hD⟩ := show_play hk him
          have hQ := Play32 x (by omega) im.t.D (by omega) im.torn
          rw [hpl] at hQ
          clear hr hpl hS
          (repeat' ((conv => whnf); (first | (with_reducible apply spl) <;> intro hc <;> try (exfalso; omega) | with_reducible refine iJ fun hc => ?_ | refine vcq (k := ?_) | fail))); all_goals ((try conv => whnf); try with_reducible exact trivial)
          refine callee_fo hP rfl ?_
          rintro _ rfl
          (repeat' ((conv => whnf); (first | (with_reducible apply spl) <;> intro hc <;> try (exfalso; omega) | with_reducible refine iJ fun hc => ?_ | refine vcq (k := ?_) | fail))); all_goals ((try conv => whnf); try with_reducible exact trivial)
          · exact absurd trivial (show (0 : Int) = 0 ∧ ¬ True from by assumption).2
          refine callee_fo hQ rfl ?_
          rintro _ rfl
          (repeat' ((conv => whnf); (first | (with_reducible apply spl) <;> intro hc <;> try (exfalso; omega) | with_reducible refine iJ fun hc => ?_ | refine vcq (k := ?_) | fail))); all_goals ((try conv => whnf); try with_reducible exact trivial)
          refine callee_fo (sameInts30 x.n.toNat l.length (by omega) (by omega) im.h.get (fun b => l.getD b 0)) rfl ?_
          rintro _ rfl
          (repeat' ((conv => whnf); (first | (with_reducible apply spl) <;> intro hc <;> try (exfalso; omega) | with_reducible refine iJ fun hc => ?_ | refine vcq (k := ?_) | fail))); all_goals ((try conv => whnf); try with_reducible exact trivial)
          · refine callee_fo works13 rfl ?_
            rintro _ rfl
            (repeat' ((conv => whnf); (first | (with_reducible apply spl) <;> intro hc <;> try (exfalso; omega) | with_reducible refine iJ fun hc => ?_ | refine vcq (k := ?_) | fail))); all_goals ((try conv => whnf); try with_reducible exact trivial)
            refine ⟨_, rfl, ?_⟩
            conv => whnf
            trivial
          · exact absurd (⟨by omega, fun b hb => heq b (by omega)⟩ : x.n.toNat = l.length ∧ ∀ b, b < x.n.toNat → im.h.get b = l.getD b 0) hc
      · have hP := pos_at hP hk himg (eq_false hpos)
        have hS := show_w hS (show_no hk himg hpos)
        refine callee_frz (PureC.view hS ?_) rfl ?_ ?_
        · (repeat' ((conv => whnf); (first | (with_reducible apply spl) <;> intro hc <;> try (exfalso; omega) | with_reducible refine iJ fun hc => ?_ | refine vcq (k := ?_) | fail))); all_goals ((try conv => whnf); try with_reducible exact trivial)
        · simp [app]
        · rintro _ rfl
          clear hS
          (repeat' ((conv => whnf); (first | (with_reducible apply spl) <;> intro hc <;> try (exfalso; omega) | with_reducible refine iJ fun hc => ?_ | refine vcq (k := ?_) | fail))); all_goals ((try conv => whnf); try with_reducible exact trivial)
          refine callee_fo hP rfl ?_
          rintro _ rfl
          (repeat' ((conv => whnf); (first | (with_reducible apply spl) <;> intro hc <;> try (exfalso; omega) | with_reducible refine iJ fun hc => ?_ | refine vcq (k := ?_) | fail))); all_goals ((try conv => whnf); try with_reducible exact trivial)
          · exfalso
            rcases hc with g | ⟨_, g | g⟩
            · exact g rfl
            · exact absurd g (by decide)
            · exact g
          · refine callee_fo works13 rfl ?_
            rintro _ rfl
            (repeat' ((conv => whnf); (first | (with_reducible apply spl) <;> intro hc <;> try (exfalso; omega) | with_reducible refine iJ fun hc => ?_ | refine vcq (k := ?_) | fail))); all_goals ((try conv => whnf); try with_reducible exact trivial)
            refine ⟨_, rfl, ?_⟩
            conv => whnf
            trivial
          · exact absurd ⟨rfl, fun h => h⟩ (show ¬ ((0 : Int) = 0 ∧ ¬ False) from by assumption)
    · obtain ⟨e, he, h1, h2⟩ := show_err x l hi
      have hS := show_w hS h1
      have hP := hP.mono h2
      refine callee_frz (PureC.view hS ?_) rfl ?_ ?_
      · (repeat' ((conv => whnf); (first | (with_reducible apply spl) <;> intro hc <;> try (exfalso; omega) | with_reducible refine iJ fun hc => ?_ | refine vcq (k := ?_) | fail))); all_goals ((try conv => whnf); try with_reducible exact trivial)
      · simp [app]
      · rintro _ rfl
        clear hS
        (repeat' ((conv => whnf); (first | (with_reducible apply spl) <;> intro hc <;> try (exfalso; omega) | with_reducible refine iJ fun hc => ?_ | refine vcq (k := ?_) | fail))); all_goals ((try conv => whnf); try with_reducible exact trivial)
        refine callee_fo hP rfl ?_
        rintro _ rfl
        (repeat' ((conv => whnf); (first | (with_reducible apply spl) <;> intro hc <;> try (exfalso; omega) | with_reducible refine iJ fun hc => ?_ | refine vcq (k := ?_) | fail))); all_goals ((try conv => whnf); try with_reducible exact trivial)
        · exfalso
          rcases hc with g | ⟨_, g | g⟩
          · exact g rfl
          · exact absurd g (by decide)
          · exact g
        · refine callee_fo works13 rfl ?_
          rintro _ rfl
          (repeat' ((conv => whnf); (first | (with_reducible apply spl) <;> intro hc <;> try (exfalso; omega) | with_reducible refine iJ fun hc => ?_ | refine vcq (k := ?_) | fail))); all_goals ((try conv => whnf); try with_reducible exact trivial)
          refine ⟨_, rfl, ?_⟩
          conv => whnf
          trivial
end Go.Proofs
