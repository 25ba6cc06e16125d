/- Own work: texts of the proof of a law (CaR9, CaL11, CaL12). No condition. -/
import Derived.Test.YtmjaflgakiembaaCaLPPart21
namespace Go.Proofs
open Go Go.Sx
set_option maxRecDepth 100000
set_option maxHeartbeats 40000000
def RS.co (n : Nat) (s : RS) (own : Bool) : List V := [bif own then .osl 2 n else .sl 1 n s.medF, .sl 1 s.E.length (s.epF n), .int .i64 s.W]
theorem Play32 (x : Cache) (hl : x.l.length ≤ 1000000) (D : List (Int × Int)) (hD : D.length ≤ 1000000) (torn : Bool) : PureC Try.prog 32 true [x.v, .sl 2 D.length (rowOf oC (0, 0) D), .prop (torn = true) inferInstance] (· = .tup (playV x D torn)) := by
  refine pureC_of_exec Try.E_ok Try.func32 rfl (by kernel_rfl) ?_
  unfold playV
  (repeat' ((conv => whnf); (first | (with_reducible refine spl (fun hc => ?_) fun hc => ?_) <;> try (exfalso; omega) | with_reducible refine iJ fun hc => ?_ | refine vcq (k := ?_) | refine dr 21 (k := ?_) | refine dr 2011 (k := ?_) | refine dr 8 (k := ?_)))); all_goals ((try conv => whnf); try with_reducible exact trivial); (repeat' ((first | (refine callee_fo (Check37 x hl) rfl ?_; rintro _ rfl)); (repeat' ((conv => whnf); (first | (with_reducible refine spl (fun hc => ?_) fun hc => ?_) <;> try (exfalso; omega) | with_reducible refine iJ fun hc => ?_ | refine vcq (k := ?_) | refine dr 21 (k := ?_) | refine dr 2011 (k := ?_) | refine dr 8 (k := ?_)))); all_goals ((try conv => whnf); try with_reducible exact trivial)))
  · rw [if_neg hc]
    have h80 : x.chk = 80 := by unfold Cache.chk at hc ⊢; split <;> simp_all
    rw [h80]
    refine ⟨_, rfl, ?_⟩
    (repeat' ((conv => whnf); (first | (with_reducible refine spl (fun hc => ?_) fun hc => ?_) <;> try (exfalso; omega) | with_reducible refine iJ fun hc => ?_ | refine vcq (k := ?_) | refine dr 21 (k := ?_) | refine dr 2011 (k := ?_) | refine dr 8 (k := ?_)))); all_goals ((try conv => whnf); try with_reducible exact trivial)
  · have hk : x.chk = 0 := Classical.not_not.1 (by assumption)
    have hx := Cache.chk_ok hk
    have hn6 := hx.n
    have h16 := hx.len
    have hbad : badPl x D torn := (badPl_iff x D torn).1 (by assumption)
    rw [if_pos hk, if_pos hbad]
    refine ⟨_, rfl, ?_⟩
    (repeat' ((conv => whnf); (first | (with_reducible refine spl (fun hc => ?_) fun hc => ?_) <;> try (exfalso; omega) | with_reducible refine iJ fun hc => ?_ | refine vcq (k := ?_) | refine dr 21 (k := ?_) | refine dr 2011 (k := ?_) | refine dr 8 (k := ?_)))); all_goals ((try conv => whnf); try with_reducible exact trivial)
  · have hk : x.chk = 0 := Classical.not_not.1 (by assumption)
    have hx := Cache.chk_ok hk
    have hn6 := hx.n
    have h16 := hx.len
    have hbad : ¬ badPl x D torn := fun g => hc ((badPl_iff x D torn).2 g)
    rw [if_pos hk, if_neg hbad]
    obtain ⟨n, hn⟩ : ∃ n : Nat, x.n = n := ⟨x.n.toNat, by omega⟩
    have hD16 : D.length ≤ 16 := Classical.byContradiction fun g => hbad (.inl (by omega))
    have htn : torn = true → 0 < D.length ∧ (D.getD (D.length - 1) (0, 0)).1 = x.l.length := fun g => ⟨Classical.byContradiction fun k => hbad (.inr ⟨g, .inl (by omega)⟩), Classical.byContradiction fun k => hbad (.inr ⟨g, .inr k⟩)⟩
    refine callee_fo (begin16 x n hn (by omega)) rfl ?_
    rintro _ rfl
    (repeat' ((conv => whnf); (first | (with_reducible refine spl (fun hc => ?_) fun hc => ?_) <;> try (exfalso; omega) | with_reducible refine iJ fun hc => ?_ | refine vcq (k := ?_) | refine dr 21 (k := ?_) | refine dr 2011 (k := ?_) | refine dr 8 (k := ?_)))); all_goals ((try conv => whnf); try with_reducible exact trivial)
    refine ⟨Nat × Nat × RS × Bool, fun q => q.1 ≤ x.l.length + 1 ∧ q.2.1 ≤ D.length ∧ Ply x n D q.1 q.2.1 q.2.2.1 ∧ (q.2.2.2 = true → q.2.1 = D.length ∧ torn = true ∧ q.1 = x.l.length + 1) ∧ (q.2.2.2 = false → torn = true → q.2.1 < D.length), fun q => x.l.length + 1 - q.1,
      fun q => [(11, .int .i64 (q.1 : Nat)), (10, .int .i64 (q.2.1 : Nat)), (34, .any)], fun q => [(1, .cells 34 (q.2.2.1.co n q.2.2.2))], fun q => bif q.2.2.2 then [.row 3 1 n q.2.2.1.medF false] else [], (0, 0, RS.begin, false), ⟨⟨by dsimp only; omega, by dsimp only; omega, Ply.begin (by omega), fun g => (Bool.noConfusion g), fun _ g => (htn g).1⟩, none, ?_⟩, ?_⟩
    · (repeat' ((conv => whnf); (first | (with_reducible refine spl (fun hc => ?_) fun hc => ?_) <;> try (exfalso; omega) | with_reducible refine iJ fun hc => ?_ | refine vcq (k := ?_) | refine dr 21 (k := ?_) | refine dr 2011 (k := ?_) | refine dr 8 (k := ?_)))); all_goals ((try conv => whnf); try with_reducible exact trivial)
      rfl
    · rintro ⟨i, a, s, own⟩ ⟨hi, ha, hp, ho1, ho2⟩
      dsimp only at hi ha hp ho1 ho2
      have hti : (i : Int).toNat = i := Int.toNat_natCast i
      cases own with
      | false =>
        (repeat' ((conv => whnf); (first | (with_reducible refine spl (fun hc => ?_) fun hc => ?_) <;> try (exfalso; omega) | with_reducible refine iJ fun hc => ?_ | refine vcq (k := ?_) | refine dr 21 (k := ?_) | refine dr 2011 (k := ?_) | refine dr 8 (k := ?_)))); all_goals ((try conv => whnf); try with_reducible exact trivial)
        · have hi1 : i ≤ x.l.length := by dsimp only at hc; omega
          refine ⟨Nat × RS × Bool, fun q => q.1 ≤ D.length ∧ Ply x n D i q.1 q.2.1 ∧ (q.2.2 = true → q.1 = D.length ∧ torn = true ∧ i = x.l.length) ∧ (q.2.2 = false → torn = true → q.1 < D.length), fun q => D.length - q.1,
            fun q => [(10, .int .i64 (q.1 : Nat))], fun q => [(1, .cells 34 (q.2.1.co n q.2.2))], fun q => bif q.2.2 then [.row 3 1 n q.2.1.medF false] else [], (a, s, false), ⟨⟨ha, hp, fun g => (Bool.noConfusion g), ho2⟩, none, ?_⟩, ?_⟩
          · (repeat' ((conv => whnf); (first | (with_reducible refine spl (fun hc => ?_) fun hc => ?_) <;> try (exfalso; omega) | with_reducible refine iJ fun hc => ?_ | refine vcq (k := ?_) | refine dr 21 (k := ?_) | refine dr 2011 (k := ?_) | refine dr 8 (k := ?_)))); all_goals ((try conv => whnf); try with_reducible exact trivial)
          · clear hp ha ho1 ho2
            rintro ⟨a, s, own⟩ ⟨ha, hp, ho1, ho2⟩
            dsimp only at ha hp ho1 ho2
            have hta : (a : Int).toNat = a := Int.toNat_natCast a
            have hb := hp.bnd hx hn
            cases own with
            | false =>
              (repeat' ((conv => whnf); (first | (with_reducible refine spl (fun hc => ?_) fun hc => ?_) <;> try (exfalso; omega) | with_reducible refine iJ fun hc => ?_ | refine vcq (k := ?_) | refine dr 21 (k := ?_) | refine dr 2011 (k := ?_) | refine dr 8 (k := ?_)))); all_goals ((try conv => whnf); try with_reducible exact trivial)
              · have hcd : (a : Int) < D.length ∧ (D.getD (a : Int).toNat (0, 0)).1 = i := hc
                rw [hta] at hcd
                have ha1 : a < D.length := by omega
                by_cases hcn : canR n s (D.getD a (0, 0)).2
                · have hp2 := hp.drain hx hn hi1 hcd.2 hcn
                  by_cases hlast : torn = true ∧ a + 1 = D.length
                  · refine ncall_intro (Drained17n n (by omega) s (by omega) (by omega) (D.getD (a : Int).toNat (0, 0)).2 (by rw [hta]; exact hcn)) rfl ?_
                    unfold RS.vo
                    (repeat' ((conv => whnf); (first | (with_reducible refine spl (fun hc => ?_) fun hc => ?_) <;> try (exfalso; omega) | with_reducible refine iJ fun hc => ?_ | refine vcq (k := ?_) | refine dr 21 (k := ?_) | refine dr 2011 (k := ?_) | refine dr 8 (k := ?_)))); all_goals ((try conv => whnf); try with_reducible exact trivial)
                    · exact absurd trivial hc
                    · rw [hta]
                      have hil : i = x.l.length := by
                        have g1 := (htn hlast.1).2
                        have g2 := hcd.2
                        rw [show D.length - 1 = a by omega] at g1
                        omega
                      refine ⟨(a + 1, drS n s (D.getD a (0, 0)).2, true), ⟨⟨by dsimp only; omega, hp2, fun _ => ⟨hlast.2, hlast.1, hil⟩, fun g => (Bool.noConfusion g)⟩, by dsimp only; omega⟩, some [some 0, some 1, some 2], ?_⟩
                      dsimp only [RS.co, RS.c]
                      (repeat' ((conv => whnf); (first | (with_reducible refine spl (fun hc => ?_) fun hc => ?_) <;> try (exfalso; omega) | with_reducible refine iJ fun hc => ?_ | refine vcq (k := ?_) | refine dr 21 (k := ?_) | refine dr 2011 (k := ?_) | refine dr 8 (k := ?_)))); all_goals ((try conv => whnf); try with_reducible exact trivial)
                  · refine pcall_intro (Drained17d n (by omega) s (by omega) (by omega) (D.getD (a : Int).toNat (0, 0)).2) rfl ?_
                    (repeat' ((conv => whnf); (first | (with_reducible refine spl (fun hc => ?_) fun hc => ?_) <;> try (exfalso; omega) | with_reducible refine iJ fun hc => ?_ | refine vcq (k := ?_) | refine dr 21 (k := ?_) | refine dr 2011 (k := ?_) | refine dr 8 (k := ?_)))); all_goals ((try conv => whnf); try with_reducible exact trivial)
                    · rw [hta] at hc
                      exact absurd hcn hc
                    · rw [hta]
                      refine ⟨(a + 1, drS n s (D.getD a (0, 0)).2, false), ⟨⟨by dsimp only; omega, hp2, fun g => (Bool.noConfusion g), fun _ g => by dsimp only; have hne : a + 1 ≠ D.length := fun k => hlast ⟨g, k⟩; omega⟩, by dsimp only; omega⟩, some [some 0, some 1], ?_⟩
                      dsimp only [RS.co, RS.c]
                      (repeat' ((conv => whnf); (first | (with_reducible refine spl (fun hc => ?_) fun hc => ?_) <;> try (exfalso; omega) | with_reducible refine iJ fun hc => ?_ | refine vcq (k := ?_) | refine dr 21 (k := ?_) | refine dr 2011 (k := ?_) | refine dr 8 (k := ?_)))); all_goals ((try conv => whnf); try with_reducible exact trivial)
                · have hst := hp.stop hx hn hi1 ha1 hcd.2 hcn
                  refine pcall_intro (Drained17d n (by omega) s (by omega) (by omega) (D.getD (a : Int).toNat (0, 0)).2) rfl ?_
                  (repeat' ((conv => whnf); (first | (with_reducible refine spl (fun hc => ?_) fun hc => ?_) <;> try (exfalso; omega) | with_reducible refine iJ fun hc => ?_ | refine vcq (k := ?_) | refine dr 21 (k := ?_) | refine dr 2011 (k := ?_) | refine dr 8 (k := ?_)))); all_goals ((try conv => whnf); try with_reducible exact trivial)
                  · rw [hst]
                    refine ⟨_, rfl, ?_⟩
                    (repeat' ((conv => whnf); (first | (with_reducible refine spl (fun hc => ?_) fun hc => ?_) <;> try (exfalso; omega) | with_reducible refine iJ fun hc => ?_ | refine vcq (k := ?_) | refine dr 21 (k := ?_) | refine dr 2011 (k := ?_) | refine dr 8 (k := ?_)))); all_goals ((try conv => whnf); try with_reducible exact trivial)
                  · rw [hta] at hc
                    exact absurd hc (fun k => k hcn)
              · have hi2 : i < x.l.length := by dsimp only at hc; omega
                have hcd : ¬ ((a : Int) < D.length ∧ (D.getD (a : Int).toNat (0, 0)).1 = i) := by assumption
                rw [hta] at hcd
                have hp2 := hp.order hx hn hi2 (fun g k => hcd ⟨by omega, k⟩)
                have hob := hx.blkn hn hi2
                rw [← hti] at hob
                refine pcall_intro (do18 n (by omega) s (by omega) (by omega) i (x.l.getD (i : Int).toNat (0, 0)) hob) rfl ?_
                (repeat' ((conv => whnf); (first | (with_reducible refine spl (fun hc => ?_) fun hc => ?_) <;> try (exfalso; omega) | with_reducible refine iJ fun hc => ?_ | refine vcq (k := ?_) | refine dr 21 (k := ?_) | refine dr 2011 (k := ?_) | refine dr 8 (k := ?_)))); all_goals ((try conv => whnf); try with_reducible exact trivial)
                rw [hti]
                refine ⟨(i + 1, a, s.order n i (x.l.getD i (0, 0)), false), ⟨⟨by dsimp only; omega, ha, hp2, fun g => (Bool.noConfusion g), ho2⟩, by dsimp only; omega⟩, none, ?_⟩
                (repeat' ((conv => whnf); (first | (with_reducible refine spl (fun hc => ?_) fun hc => ?_) <;> try (exfalso; omega) | with_reducible refine iJ fun hc => ?_ | refine vcq (k := ?_) | refine dr 21 (k := ?_) | refine dr 2011 (k := ?_) | refine dr 8 (k := ?_)))); all_goals ((try conv => whnf); try with_reducible exact trivial)
                all_goals (try rfl)
              · have hi2 : i = x.l.length := by dsimp only at hc; omega
                have hcd : ¬ ((a : Int) < D.length ∧ (D.getD (a : Int).toNat (0, 0)).1 = i) := by assumption
                rw [hta] at hcd
                subst hi2
                have hp2 := hp.last (fun g k => hcd ⟨by omega, k⟩)
                refine ⟨(x.l.length + 1, a, s, false), ⟨⟨by dsimp only; omega, ha, hp2, fun g => (Bool.noConfusion g), ho2⟩, by dsimp only; omega⟩, none, ?_⟩
                (repeat' ((conv => whnf); (first | (with_reducible refine spl (fun hc => ?_) fun hc => ?_) <;> try (exfalso; omega) | with_reducible refine iJ fun hc => ?_ | refine vcq (k := ?_) | refine dr 21 (k := ?_) | refine dr 2011 (k := ?_) | refine dr 8 (k := ?_)))); all_goals ((try conv => whnf); try with_reducible exact trivial)
                all_goals (try rfl)
            | true =>
              obtain ⟨h1, h2, h3⟩ := ho1 rfl
              (repeat' ((conv => whnf); (first | (with_reducible refine spl (fun hc => ?_) fun hc => ?_) <;> try (exfalso; omega) | with_reducible refine iJ fun hc => ?_ | refine vcq (k := ?_) | refine dr 21 (k := ?_) | refine dr 2011 (k := ?_) | refine dr 8 (k := ?_)))); all_goals ((try conv => whnf); try with_reducible exact trivial)
              subst h3
              have hp2 := hp.last (fun g k => by omega)
              refine ⟨(x.l.length + 1, a, s, true), ⟨⟨by dsimp only; omega, ha, hp2, fun _ => ⟨h1, h2, rfl⟩, fun g => (Bool.noConfusion g)⟩, by dsimp only; omega⟩, some [some 0, some 1, some 2], ?_⟩
              dsimp only [RS.co]
              (repeat' ((conv => whnf); (first | (with_reducible refine spl (fun hc => ?_) fun hc => ?_) <;> try (exfalso; omega) | with_reducible refine iJ fun hc => ?_ | refine vcq (k := ?_) | refine dr 21 (k := ?_) | refine dr 2011 (k := ?_) | refine dr 8 (k := ?_)))); all_goals ((try conv => whnf); try with_reducible exact trivial)
        · have hi2 : i = x.l.length + 1 := by have : ¬ (i : Int) ≤ x.l.length := by assumption
                                              omega
          subst hi2
          have ha1 : (a : Int) < D.length := by assumption
          rw [hp.late (by omega)]
          refine ⟨_, rfl, ?_⟩
          (repeat' ((conv => whnf); (first | (with_reducible refine spl (fun hc => ?_) fun hc => ?_) <;> try (exfalso; omega) | with_reducible refine iJ fun hc => ?_ | refine vcq (k := ?_) | refine dr 21 (k := ?_) | refine dr 2011 (k := ?_) | refine dr 8 (k := ?_)))); all_goals ((try conv => whnf); try with_reducible exact trivial)
        · have ha1 : ¬ (a : Int) < D.length := by assumption
          have := ho2 rfl (by assumption)
          omega
        · have hi2 : i = x.l.length + 1 := by have : ¬ (i : Int) ≤ x.l.length := by assumption
                                              omega
          have ha1 : ¬ (a : Int) < D.length := by assumption
          have had : a = D.length := by omega
          subst hi2 had
          obtain ⟨s', k', hpl, hM⟩ := hp.fin
          have hto : ¬ torn = true := by assumption
          rw [hpl]
          dsimp only [PS.endP]
          rw [if_neg hto]
          refine ⟨_, rfl, ?_⟩
          (repeat' ((conv => whnf); (first | (with_reducible refine spl (fun hc => ?_) fun hc => ?_) <;> try (exfalso; omega) | with_reducible refine iJ fun hc => ?_ | refine vcq (k := ?_) | refine dr 21 (k := ?_) | refine dr 2011 (k := ?_) | refine dr 8 (k := ?_)))); all_goals ((try conv => whnf); try with_reducible exact trivial)
          refine ⟨fun b hb => ?_, ?_⟩
          · show [V.int .i64 (s.M b)] = [V.int .i64 ((PS.from x.l s' k' (x.l.length - k')).M.get b)]
            rw [hM b hb]
          (repeat' ((conv => whnf); (first | (with_reducible refine spl (fun hc => ?_) fun hc => ?_) <;> try (exfalso; omega) | with_reducible refine iJ fun hc => ?_ | refine vcq (k := ?_) | refine dr 21 (k := ?_) | refine dr 2011 (k := ?_) | refine dr 8 (k := ?_)))); all_goals ((try conv => whnf); try with_reducible exact trivial)
      | true =>
        obtain ⟨h1, h2, h3⟩ := ho1 rfl
        subst h3 h1
        obtain ⟨hD0, _⟩ := htn h2
        obtain ⟨s', k', hpl, hM⟩ := hp.fin
        have hblk := PS.playD_blk hpl hD0
        have e1 : ((D.length : Int) - 1).toNat = D.length - 1 := by omega
        rw [← e1] at hblk
        (repeat' ((conv => whnf); (first | (with_reducible refine spl (fun hc => ?_) fun hc => ?_) <;> try (exfalso; omega) | with_reducible refine iJ fun hc => ?_ | refine vcq (k := ?_) | refine dr 21 (k := ?_) | refine dr 2011 (k := ?_) | refine dr 8 (k := ?_)))); all_goals ((try conv => whnf); try with_reducible exact trivial)
        · exfalso
          have : ((D.length : Nat) : Int) < D.length := by assumption
          omega
        · rw [hpl]
          dsimp only [PS.endP]
          rw [if_pos h2]
          refine ⟨_, rfl, ?_⟩
          (repeat' ((conv => whnf); (first | (with_reducible refine spl (fun hc => ?_) fun hc => ?_) <;> try (exfalso; omega) | with_reducible refine iJ fun hc => ?_ | refine vcq (k := ?_) | refine dr 21 (k := ?_) | refine dr 2011 (k := ?_) | refine dr 8 (k := ?_)))); all_goals ((try conv => whnf); try with_reducible exact trivial)
          refine ⟨fun b hb => ?_, .inl rfl, ?_⟩
          · show spliceP (b = (D.getD ((D.length : Int) - 1).toNat (0, 0)).2.toNat) [V.int .i64 (s.M b)] 0 [V.int .i64 (-2)] = [V.int .i64 (((PS.from x.l s' k' (x.l.length - k')).M.set (D.getD (D.length - 1) (0, 0)).2.toNat (-2)).get b)]
            rw [e1] at hblk ⊢
            rw [C6.get_set (by omega) (by omega), ← hM b hb]
            by_cases h : b = (D.getD (D.length - 1) (0, 0)).2.toNat
            · rw [spliceP_pos h, if_pos h]; rfl
            · rw [spliceP_neg h, if_neg h]
          (repeat' ((conv => whnf); (first | (with_reducible refine spl (fun hc => ?_) fun hc => ?_) <;> try (exfalso; omega) | with_reducible refine iJ fun hc => ?_ | refine vcq (k := ?_) | refine dr 21 (k := ?_) | refine dr 2011 (k := ?_) | refine dr 8 (k := ?_)))); all_goals ((try conv => whnf); try with_reducible exact trivial)
        · exact absurd h2 (by assumption)
end Go.Proofs


namespace Go.Proofs
open Go Go.Sx
set_option maxRecDepth 100000
set_option maxHeartbeats 40000000
theorem chk80 {x : Cache} (h : x.chk ≠ 0) : x.chk = 80 := by unfold Cache.chk at h ⊢; split <;> simp_all
theorem Newest38e (x : Cache) (hl : x.l.length ≤ 1000000) (h : x.chk ≠ 0) : PureC Try.prog 38 false [x.v] (· = .tup [.lit (.slice none 0 0), .int .i64 x.chk]) := by
  refine pureC_of_exec Try.E_ok Try.func38 rfl (by kernel_rfl) ?_
  (repeat' ((conv => whnf); (first | (with_reducible refine spl (fun hc => ?_) fun hc => ?_) <;> try (exfalso; omega) | with_reducible refine iJ fun hc => ?_ | refine vcq (k := ?_) | refine dr 5072006 (k := ?_) | refine dr 5 (k := ?_) | refine dr 10 (k := ?_) | refine dr 2005 (k := ?_)))); all_goals ((try conv => whnf); try with_reducible exact trivial); (repeat' ((first | (refine callee_fo (Check37 x hl) rfl ?_; rintro _ rfl)); (repeat' ((conv => whnf); (first | (with_reducible refine spl (fun hc => ?_) fun hc => ?_) <;> try (exfalso; omega) | with_reducible refine iJ fun hc => ?_ | refine vcq (k := ?_) | refine dr 5072006 (k := ?_) | refine dr 5 (k := ?_) | refine dr 10 (k := ?_) | refine dr 2005 (k := ?_)))); all_goals ((try conv => whnf); try with_reducible exact trivial)))
  · rw [chk80 h]
    refine ⟨_, rfl, ?_⟩
    (repeat' ((conv => whnf); (first | (with_reducible refine spl (fun hc => ?_) fun hc => ?_) <;> try (exfalso; omega) | with_reducible refine iJ fun hc => ?_ | refine vcq (k := ?_) | refine dr 5072006 (k := ?_) | refine dr 5 (k := ?_) | refine dr 10 (k := ?_) | refine dr 2005 (k := ?_)))); all_goals ((try conv => whnf); try with_reducible exact trivial)
theorem Writes39e (x : Cache) (hl : x.l.length ≤ 1000000) (h : x.chk ≠ 0) : PureC Try.prog 39 false [x.v] (· = .tup [.int .i64 0, .int .i64 x.chk]) := by
  refine pureC_of_exec Try.E_ok Try.func39 rfl (by kernel_rfl) ?_
  (repeat' ((conv => whnf); (first | (with_reducible refine spl (fun hc => ?_) fun hc => ?_) <;> try (exfalso; omega) | with_reducible refine iJ fun hc => ?_ | refine vcq (k := ?_) | refine dr 5072006 (k := ?_) | refine dr 5 (k := ?_) | refine dr 10 (k := ?_) | refine dr 2005 (k := ?_)))); all_goals ((try conv => whnf); try with_reducible exact trivial); (repeat' ((first | (refine callee_fo (Check37 x hl) rfl ?_; rintro _ rfl)); (repeat' ((conv => whnf); (first | (with_reducible refine spl (fun hc => ?_) fun hc => ?_) <;> try (exfalso; omega) | with_reducible refine iJ fun hc => ?_ | refine vcq (k := ?_) | refine dr 5072006 (k := ?_) | refine dr 5 (k := ?_) | refine dr 10 (k := ?_) | refine dr 2005 (k := ?_)))); all_goals ((try conv => whnf); try with_reducible exact trivial)))
  · rw [chk80 h]
    refine ⟨_, rfl, ?_⟩
    (repeat' ((conv => whnf); (first | (with_reducible refine spl (fun hc => ?_) fun hc => ?_) <;> try (exfalso; omega) | with_reducible refine iJ fun hc => ?_ | refine vcq (k := ?_) | refine dr 5072006 (k := ?_) | refine dr 5 (k := ?_) | refine dr 10 (k := ?_) | refine dr 2005 (k := ?_)))); all_goals ((try conv => whnf); try with_reducible exact trivial)
theorem Charge40e (x : Cache) (hl : x.l.length ≤ 1000000) (h : x.chk ≠ 0) : PureC Try.prog 40 false [x.v] (· = .tup [.int .i64 0, .int .i64 x.chk]) := by
  refine pureC_of_exec Try.E_ok Try.func40 rfl (by kernel_rfl) ?_
  (repeat' ((conv => whnf); (first | (with_reducible refine spl (fun hc => ?_) fun hc => ?_) <;> try (exfalso; omega) | with_reducible refine iJ fun hc => ?_ | refine vcq (k := ?_) | refine dr 5072006 (k := ?_) | refine dr 5 (k := ?_) | refine dr 10 (k := ?_) | refine dr 2005 (k := ?_)))); all_goals ((try conv => whnf); try with_reducible exact trivial); (repeat' ((first | (refine callee_fo (Check37 x hl) rfl ?_; rintro _ rfl)); (repeat' ((conv => whnf); (first | (with_reducible refine spl (fun hc => ?_) fun hc => ?_) <;> try (exfalso; omega) | with_reducible refine iJ fun hc => ?_ | refine vcq (k := ?_) | refine dr 5072006 (k := ?_) | refine dr 5 (k := ?_) | refine dr 10 (k := ?_) | refine dr 2005 (k := ?_)))); all_goals ((try conv => whnf); try with_reducible exact trivial)))
  · rw [chk80 h]
    refine ⟨_, rfl, ?_⟩
    (repeat' ((conv => whnf); (first | (with_reducible refine spl (fun hc => ?_) fun hc => ?_) <;> try (exfalso; omega) | with_reducible refine iJ fun hc => ?_ | refine vcq (k := ?_) | refine dr 5072006 (k := ?_) | refine dr 5 (k := ?_) | refine dr 10 (k := ?_) | refine dr 2005 (k := ?_)))); all_goals ((try conv => whnf); try with_reducible exact trivial)
theorem PureC.nil2 {P : Program} {g : FuncId} {keep : Bool} {sz : Nat} {f f' : Nat → List V} {R : V → Prop} (h : PureC P g keep [.sl sz 0 f, .sl sz 0 f'] R) : PureC P g keep [.lit (.slice none 0 0), .lit (.slice none 0 0)] R := by
  refine ⟨h.1, fun I w vals hI hd => h.2 I w vals hI ?_⟩
  obtain ⟨v, r, rfl, h1, v2, r2, rfl, h2, h3⟩ := hd
  have h1 : v = .slice none 0 0 := h1
  have h2 : v2 = .slice none 0 0 := h2
  subst h1 h2
  exact ⟨_, _, rfl, .inl ⟨rfl, _, _, rfl⟩, _, _, rfl, .inl ⟨rfl, _, _, rfl⟩, h3⟩
theorem sameNil : PureC Try.prog 30 false [.lit (.slice none 0 0), .lit (.slice none 0 0)] (· = .prop (0 = 0 ∧ ∀ b, b < 0 → (0 : Int) = 0) (Classical.propDecidable _)) :=
  PureC.nil2 (sameInts30 0 0 (by omega) (by omega) (fun _ => 0) (fun _ => 0))
theorem Copy24p (x : Cache) (hl : x.l.length ≤ 1000000) : PureC Try.prog 24 false [x.v] (· = x.v) := by
  refine pureC_of_exec Try.E_ok Try.func24 rfl (by kernel_rfl) ?_
  (repeat' ((conv => whnf); (first | (with_reducible refine spl (fun hc => ?_) fun hc => ?_) <;> try (exfalso; omega) | with_reducible refine iJ fun hc => ?_ | refine vcq (k := ?_) | refine dr 5072006 (k := ?_) | refine dr 5 (k := ?_) | refine dr 10 (k := ?_) | refine dr 2005 (k := ?_)))); all_goals ((try conv => whnf); try with_reducible exact trivial)
  refine ⟨_, rfl, ?_⟩
  (repeat' ((conv => whnf); (first | (with_reducible refine spl (fun hc => ?_) fun hc => ?_) <;> try (exfalso; omega) | with_reducible refine iJ fun hc => ?_ | refine vcq (k := ?_) | refine dr 5072006 (k := ?_) | refine dr 5 (k := ?_) | refine dr 10 (k := ?_) | refine dr 2005 (k := ?_)))); all_goals ((try conv => whnf); try with_reducible exact trivial)
theorem writes_ok' {x : Cache} (hk : x.chk = 0) (hl : x.l.length ≤ 1000000) : PureC Try.prog 14 false [x.v] (· = .tup [.int .i64 ((PS.run x.l x.l.length).W + (PS.run x.l x.l.length).waits), .int .i64 0]) := by
  have h := Writes14 x hl
  rw [if_pos hk] at h
  exact h
theorem charge_ok' {x : Cache} (hk : x.chk = 0) (hl : x.l.length ≤ 1000000) : PureC Try.prog 15 false [x.v] (· = .tup [.int .i64 (PS.most x.l x.l.length), .int .i64 0]) := by
  have h := Charge15 x hl
  rw [if_pos hk] at h
  exact h
end Go.Proofs


namespace Go.Proofs
open Go Go.Sx
set_option maxRecDepth 100000
set_option maxHeartbeats 40000000
theorem Plays10a (x : Cache) (hl : x.l.length ≤ 9223372036854775807) (D : List (Int × Int)) (hD : D.length ≤ 9223372036854775807) (torn : Bool) (hk : x.chk = 0) (e : playV x D torn = [.lit (.slice none 0 0), .int .i64 1]) : PureC Try.prog 10 false [x.v, .agg [.sl 2 D.length (rowOf oC (0, 0) D), .prop (torn = true) inferInstance]] (· = .prop True inferInstance) := by
  refine pureC_of_exec Try.E_ok Try.func10 rfl (by kernel_rfl) ?_
  (repeat' ((conv => whnf); (first | (with_reducible refine spl (fun hc => ?_) fun hc => ?_) <;> try (exfalso; omega) | with_reducible refine iJ fun hc => ?_ | refine vcq (k := ?_) | refine dr 5072006 (k := ?_) | refine dr 5 (k := ?_)))); all_goals ((try conv => whnf); try with_reducible exact trivial); (repeat' ((first | (refine callee_fo (Far23 x hl) rfl ?_; rintro _ rfl) | (refine callee_fo (works13) rfl ?_; rintro _ rfl)); (repeat' ((conv => whnf); (first | (with_reducible refine spl (fun hc => ?_) fun hc => ?_) <;> try (exfalso; omega) | with_reducible refine iJ fun hc => ?_ | refine vcq (k := ?_) | refine dr 5072006 (k := ?_) | refine dr 5 (k := ?_)))); all_goals ((try conv => whnf); try with_reducible exact trivial)))
  · refine ⟨_, rfl, ?_⟩
    (repeat' ((conv => whnf); (first | (with_reducible refine spl (fun hc => ?_) fun hc => ?_) <;> try (exfalso; omega) | with_reducible refine iJ fun hc => ?_ | refine vcq (k := ?_) | refine dr 5072006 (k := ?_) | refine dr 5 (k := ?_)))); all_goals ((try conv => whnf); try with_reducible exact trivial)
  · have h40 : x.l.length ≤ 40 := Classical.byContradiction fun g => hc (.inl (.inl (by omega)))
    have hD40 : D.length ≤ 40 := Classical.byContradiction fun g => hc (.inr (by omega))
    have hfar : ¬ x.far := fun g => hc (.inl g)
    refine pcall_intro (Copy24p x (by omega)) rfl ?_
    (repeat' ((conv => whnf); (first | (with_reducible refine spl (fun hc => ?_) fun hc => ?_) <;> try (exfalso; omega) | with_reducible refine iJ fun hc => ?_ | refine vcq (k := ?_) | refine dr 5072006 (k := ?_) | refine dr 5 (k := ?_)))); all_goals ((try conv => whnf); try with_reducible exact trivial)
    dsimp only
    refine pcall_intro (check36 x (by omega)) rfl ?_
    (repeat' ((conv => whnf); (first | (with_reducible refine spl (fun hc => ?_) fun hc => ?_) <;> try (exfalso; omega) | with_reducible refine iJ fun hc => ?_ | refine vcq (k := ?_) | refine dr 5072006 (k := ?_) | refine dr 5 (k := ?_)))); all_goals ((try conv => whnf); try with_reducible exact trivial)
    refine pcall_intro (Check37 x (by omega)) rfl ?_
    (repeat' ((conv => whnf); (first | (with_reducible refine spl (fun hc => ?_) fun hc => ?_) <;> try (exfalso; omega) | with_reducible refine iJ fun hc => ?_ | refine vcq (k := ?_) | refine dr 5072006 (k := ?_) | refine dr 5 (k := ?_)))); all_goals ((try conv => whnf); try with_reducible exact trivial)
    have hDe : ∀ i, i < D.length → appF 0 (fun i => Sx.get [] [] i) (rowOf oC (0, 0) D) i = rowOf oC (0, 0) D i := fun i _ => rfl
    have hp1 := Play20 x (by omega) D (by omega) torn
    have hp2 := Play32 x (by omega) D (by omega) torn
    have hx : x.Small := Cache.valid ⟨hfar, hk⟩
    have hn := hx.ok.n
    have h3 := hx.n
    have h7 := hx.l
    rw [e] at hp1 hp2
    clear e
    refine callee_fo (newest_ok hk (by omega)) rfl ?_
    rintro _ rfl
    (repeat' ((conv => whnf); (first | (with_reducible first | refine spl (fun hc => ?_) fun hc => ?_ | refine spl' (fun hc => ?_) fun hc => ?_) <;> try (exfalso; omega) | with_reducible refine iJ fun hc => ?_ | refine vcq (k := ?_) | refine dr 10 (k := ?_)))); all_goals ((try conv => whnf); try with_reducible exact trivial)
    refine callee_fo (Newest38 x hk) rfl ?_
    rintro _ rfl
    (repeat' ((conv => whnf); (first | (with_reducible first | refine spl (fun hc => ?_) fun hc => ?_ | refine spl' (fun hc => ?_) fun hc => ?_) <;> try (exfalso; omega) | with_reducible refine iJ fun hc => ?_ | refine vcq (k := ?_) | refine dr 10 (k := ?_)))); all_goals ((try conv => whnf); try with_reducible exact trivial)
    refine callee_view hp1 ?_
    (repeat' ((conv => whnf); (first | (with_reducible first | refine spl (fun hc => ?_) fun hc => ?_ | refine spl' (fun hc => ?_) fun hc => ?_) <;> try (exfalso; omega) | with_reducible refine iJ fun hc => ?_ | refine vcq (k := ?_) | refine dr 10 (k := ?_)))); all_goals ((try conv => whnf); try with_reducible exact trivial)
    rintro _ rfl
    (repeat' ((conv => whnf); (first | (with_reducible first | refine spl (fun hc => ?_) fun hc => ?_ | refine spl' (fun hc => ?_) fun hc => ?_) <;> try (exfalso; omega) | with_reducible refine iJ fun hc => ?_ | refine vcq (k := ?_) | refine dr 10 (k := ?_)))); all_goals ((try conv => whnf); try with_reducible exact trivial)
    refine callee_fo hp2 rfl ?_
    rintro _ rfl
    (repeat' ((conv => whnf); (first | (with_reducible first | refine spl (fun hc => ?_) fun hc => ?_ | refine spl' (fun hc => ?_) fun hc => ?_) <;> try (exfalso; omega) | with_reducible refine iJ fun hc => ?_ | refine vcq (k := ?_) | refine dr 10 (k := ?_)))); all_goals ((try conv => whnf); try with_reducible exact trivial)
    refine callee_fo (sameInts30 x.n.toNat x.n.toNat (by omega) (by omega) (newP x.l x.l.length) (newP x.l x.l.length)) rfl ?_
    rintro _ rfl
    (repeat' ((conv => whnf); (first | (with_reducible first | refine spl (fun hc => ?_) fun hc => ?_ | refine spl' (fun hc => ?_) fun hc => ?_) <;> try (exfalso; omega) | with_reducible refine iJ fun hc => ?_ | refine vcq (k := ?_) | refine dr 10 (k := ?_)))); all_goals ((try conv => whnf); try with_reducible exact trivial)
    · refine callee_fo sameNil rfl ?_
      rintro _ rfl
      (repeat' ((conv => whnf); (first | (with_reducible first | refine spl (fun hc => ?_) fun hc => ?_ | refine spl' (fun hc => ?_) fun hc => ?_) <;> try (exfalso; omega) | with_reducible refine iJ fun hc => ?_ | refine vcq (k := ?_) | refine dr 10 (k := ?_)))); all_goals ((try conv => whnf); try with_reducible exact trivial)
      · exfalso
        rcases hc with g | g
        · exact g ⟨rfl, fun _ _ => rfl⟩
        · exact g rfl
      · clear hp1 hp2 hc
        refine callee_fo (writes_ok' hk (by omega)) rfl ?_
        rintro _ rfl
        (repeat' ((conv => whnf); (first | (with_reducible first | refine spl (fun hc => ?_) fun hc => ?_ | refine spl' (fun hc => ?_) fun hc => ?_) <;> try (exfalso; omega) | with_reducible refine iJ fun hc => ?_ | refine vcq (k := ?_) | refine dr 10 (k := ?_)))); all_goals ((try conv => whnf); try with_reducible exact trivial)
        refine callee_fo (Writes39 x hk) rfl ?_
        rintro _ rfl
        (repeat' ((conv => whnf); (first | (with_reducible first | refine spl (fun hc => ?_) fun hc => ?_ | refine spl' (fun hc => ?_) fun hc => ?_) <;> try (exfalso; omega) | with_reducible refine iJ fun hc => ?_ | refine vcq (k := ?_) | refine dr 10 (k := ?_)))); all_goals ((try conv => whnf); try with_reducible exact trivial)
        refine callee_fo (charge_ok' hk (by omega)) rfl ?_
        rintro _ rfl
        (repeat' ((conv => whnf); (first | (with_reducible first | refine spl (fun hc => ?_) fun hc => ?_ | refine spl' (fun hc => ?_) fun hc => ?_) <;> try (exfalso; omega) | with_reducible refine iJ fun hc => ?_ | refine vcq (k := ?_) | refine dr 10 (k := ?_)))); all_goals ((try conv => whnf); try with_reducible exact trivial)
        refine callee_fo (Charge40 x hk) rfl ?_
        rintro _ rfl
        generalize (PS.run x.l x.l.length).W + (PS.run x.l x.l.length).waits = need
        generalize PS.most x.l x.l.length = most
        (repeat' ((conv => whnf); (first | (with_reducible first | refine spl (fun hc => ?_) fun hc => ?_ | refine spl' (fun hc => ?_) fun hc => ?_) <;> try (exfalso; omega) | with_reducible refine iJ fun hc => ?_ | refine vcq (k := ?_) | refine dr 10 (k := ?_)))); all_goals ((try conv => whnf); try with_reducible exact trivial)
        refine ⟨Nat, fun i => i ≤ D.length, fun i => D.length - i, fun i => [(23, .int .i64 (i : Nat)), (27, .any)], fun _ => [], fun _ => [], 0, ⟨by omega, none, ?_⟩, ?_⟩
        · (repeat' ((conv => whnf); (first | (with_reducible first | refine spl (fun hc => ?_) fun hc => ?_ | refine spl' (fun hc => ?_) fun hc => ?_) <;> try (exfalso; omega) | with_reducible refine iJ fun hc => ?_ | refine vcq (k := ?_) | refine dr 10 (k := ?_)))); all_goals ((try conv => whnf); try with_reducible exact trivial)
        · intro i hi
          have hi : i ≤ D.length := hi
          have hti : (i : Int).toNat = i := Int.toNat_natCast i
          (repeat' ((conv => whnf); (first | (with_reducible first | refine spl (fun hc => ?_) fun hc => ?_ | refine spl' (fun hc => ?_) fun hc => ?_) <;> try (exfalso; omega) | with_reducible refine iJ fun hc => ?_ | refine vcq (k := ?_) | refine dr 10 (k := ?_)))); all_goals ((try conv => whnf); try with_reducible exact trivial)
          · exact absurd ⟨rfl, rfl⟩ hc
          · refine ⟨i + 1, ⟨by omega, by dsimp only; omega⟩, none, ?_⟩
            (repeat' ((conv => whnf); (first | (with_reducible first | refine spl (fun hc => ?_) fun hc => ?_ | refine spl' (fun hc => ?_) fun hc => ?_) <;> try (exfalso; omega) | with_reducible refine iJ fun hc => ?_ | refine vcq (k := ?_) | refine dr 10 (k := ?_)))); all_goals ((try conv => whnf); try with_reducible exact trivial)
          · refine callee_fo works13 rfl ?_
            rintro _ rfl
            (repeat' ((conv => whnf); (first | (with_reducible first | refine spl (fun hc => ?_) fun hc => ?_ | refine spl' (fun hc => ?_) fun hc => ?_) <;> try (exfalso; omega) | with_reducible refine iJ fun hc => ?_ | refine vcq (k := ?_) | refine dr 10 (k := ?_)))); all_goals ((try conv => whnf); try with_reducible exact trivial)
            refine ⟨_, rfl, ?_⟩
            (repeat' ((conv => whnf); (first | (with_reducible first | refine spl (fun hc => ?_) fun hc => ?_ | refine spl' (fun hc => ?_) fun hc => ?_) <;> try (exfalso; omega) | with_reducible refine iJ fun hc => ?_ | refine vcq (k := ?_) | refine dr 10 (k := ?_)))); all_goals ((try conv => whnf); try with_reducible exact trivial)
    · exfalso
      rcases hc with g | g
      · exact g ⟨rfl, fun _ _ => rfl⟩
      · exact g rfl
end Go.Proofs

