/- Own work: texts of the proof of a law (CaC17B). No condition. -/
import Derived.Test.YtmjaflgakiembaaGround14
namespace Go.Proofs
open Go Go.Sx
set_option maxRecDepth 100000
set_option maxHeartbeats 40000000
theorem images56 (x : Cache) (hx : x.Ok) (hx3 : x.n ≤ 3) (hgood : ∀ k s D, Rch x k s D → (⟨s, D⟩ : Trip).Good x k)
    (hcap : ∀ k, ∀ l : List Trip, (∀ t ∈ l, t.Good x k) → (l.map Trip.sh).Nodup → l.length ≤ 65536) : PureC Try.prog 56 true [x.v] (fun r => ∃ L : List Img, Imgs x L ∧ r = .sl 9 L.length (rowOf imC Img.none L)) := by
  have hn6 := hx.n
  have hl16 := hx.len
  refine (images56A x hx hgood hcap).2 fun l f hent hfit hlc => ?_
  refine callee_frame [4] (Callee.fit (drained74 x hx x.l.length (by omega) (hgood _) (hcap _) l hent.ne hent.good hent.nd) hfit) rfl ?_ ?_
  · (repeat' ((conv => whnf); (first | (with_reducible first | apply spl | apply spl') <;> intro hc <;> try (exfalso; omega) | with_reducible refine iJ fun hc => ?_ | refine vcq (k := ?_) | refine dr 2004 (k := ?_) | refine dr 10 (k := ?_)))); all_goals ((try conv => whnf); try with_reducible exact trivial)
  · rintro _ _ ⟨l', hcl, rfl, rfl⟩
    have hlc' := hcap _ l' hcl.good hcl.nd
    have hcov := hent.all l' hcl
    (repeat' ((conv => whnf); (first | (with_reducible first | apply spl | apply spl') <;> intro hc <;> try (exfalso; omega) | with_reducible refine iJ fun hc => ?_ | refine vcq (k := ?_) | refine dr 2004 (k := ?_) | refine dr 8 (k := ?_) | refine dr 10 (k := ?_)))); all_goals ((try conv => whnf); try with_reducible exact trivial)
    intro g0
    (repeat' ((conv => whnf); (first | (with_reducible first | apply spl | apply spl') <;> intro hc <;> try (exfalso; omega) | with_reducible refine iJ fun hc => ?_ | refine vcq (k := ?_) | refine dr 2004 (k := ?_) | refine dr 8 (k := ?_) | refine dr 10 (k := ?_)))); all_goals ((try conv => whnf); try with_reducible exact trivial)
    refine ⟨Nat × List Img × (List Int → Prop) × (List Int → Int) × Nat × MG, fun q => q.1 ≤ l'.length ∧ ImgsOk x q.2.1 q.2.2.1 ∧ Done x l' q.2.1 q.1 ∧ q.2.1.length ≤ 7 * q.1 ∧ ∀ k, q.2.2.1 k → 1 ≤ q.2.2.2.1 k ∧ q.2.2.2.1 k ≤ (7 * q.1 : Nat), fun q => l'.length - q.1, fun q => [(81, .int .i64 (q.1 : Nat))],
      fun q => [(6, .map K6 true false q.2.2.1 (fun k => [.int .i64 (q.2.2.2.1 k)]) q.2.2.2.2.1 q.2.2.2.2.2), (8, .cells 90 [.osl 9 q.2.1.length])], fun q => [.row 86 9 q.2.1.length (rowOf imC Img.none q.2.1) true], (0, [], (fun _ => False), (fun _ => 0), 0, g0), ⟨⟨by dsimp only; omega, ImgsOk.nil x, Done.zero x l', by simp, by simp⟩, some [some 0, some 1, some 2, some 3, some 4, some 5, some 6, some 7, some 8, none], ?_⟩, ?_⟩
    · (repeat' ((conv => whnf); (first | (with_reducible first | apply spl | apply spl') <;> intro hc <;> try (exfalso; omega) | with_reducible refine iJ fun hc => ?_ | refine vcq (k := ?_) | refine dr 2004 (k := ?_) | refine dr 10 (k := ?_)))); all_goals ((try conv => whnf); try with_reducible exact trivial)
      refine ⟨allInts_all (fun k _ => ⟨Iff.rfl, fun h => h.elim⟩), ?_⟩
      (repeat' ((conv => whnf); (first | (with_reducible first | apply spl | apply spl') <;> intro hc <;> try (exfalso; omega) | with_reducible refine iJ fun hc => ?_ | refine vcq (k := ?_) | refine dr 2004 (k := ?_) | refine dr 10 (k := ?_)))); all_goals ((try conv => whnf); try with_reducible exact trivial)
    · rintro ⟨i, L, dom, c, m, g⟩ ⟨h1, h2, h3, h4, h5⟩
      dsimp only at h1 h2 h3 h4 h5
      (repeat' ((conv => whnf); (first | (with_reducible first | apply spl | apply spl') <;> intro hc <;> try (exfalso; omega) | with_reducible refine iJ fun hc => ?_ | refine vcq (k := ?_) | refine dr 2004 (k := ?_) | refine dr 8 (k := ?_) | refine dr 10 (k := ?_)))); all_goals ((try conv => whnf); try with_reducible exact trivial)
      · have hi : i < l'.length := by dsimp only at hc; omega
        have htm : l'.getD i Trip.none ∈ l' := by simp [List.getD_eq_getElem?_getD, hi]
        have htg := hcl.good _ htm
        refine callee_frame [7, 8, 6, 9] (add77' ⟨l'.getD i Trip.none, (l'.getD i Trip.none).s.M, false⟩ L (by omega) dom c (7 * i) (by omega) h5 m g) rfl ?_ ?_
        · (repeat' ((conv => whnf); (first | (with_reducible first | apply spl | apply spl') <;> intro hc <;> try (exfalso; omega) | with_reducible refine iJ fun hc => ?_ | refine vcq (k := ?_) | refine dr 2004 (k := ?_) | refine dr 10 (k := ?_)))); all_goals ((try conv => whnf); try with_reducible exact trivial)
          refine ⟨by simp, ?_⟩
          (repeat' ((conv => whnf); (first | (with_reducible first | apply spl | apply spl') <;> intro hc <;> try (exfalso; omega) | with_reducible refine iJ fun hc => ?_ | refine vcq (k := ?_) | refine dr 2004 (k := ?_) | refine dr 10 (k := ?_)))); all_goals ((try conv => whnf); try with_reducible exact trivial)
          refine ⟨allInts_all (fun k _ => ⟨Iff.rfl, fun _ => rfl⟩), ?_⟩
          (repeat' ((conv => whnf); (first | (with_reducible first | apply spl | apply spl') <;> intro hc <;> try (exfalso; omega) | with_reducible refine iJ fun hc => ?_ | refine vcq (k := ?_) | refine dr 2004 (k := ?_) | refine dr 10 (k := ?_)))); all_goals ((try conv => whnf); try with_reducible exact trivial)
        · rintro _ _ ⟨L1, dom1, c1, m1, g1, ⟨e1, e2, e3⟩, rfl, rfl⟩
          have hA := h2.add (im := ⟨l'.getD i Trip.none, (l'.getD i Trip.none).s.M, false⟩) (.inl ⟨rfl, htg.r, rfl⟩)
          rw [← e1, ← e2] at hA
          obtain ⟨hA1, hA2, hA3, hA4⟩ := hA
          have hb0 : HasI x L1 (l'.getD i Trip.none).s 0 := ⟨hA3, fun b' hb' => by omega⟩
          have hdn := h3.sub hA2
          clear e1 e2
          (repeat' ((conv => whnf); (first | (with_reducible first | apply spl | apply spl') <;> intro hc <;> try (exfalso; omega) | with_reducible refine iJ fun hc => ?_ | refine vcq (k := ?_) | refine dr 2004 (k := ?_) | refine dr 8 (k := ?_) | refine dr 10 (k := ?_)))); all_goals ((try conv => whnf); try with_reducible exact trivial)
          refine ⟨Nat × List Img × (List Int → Prop) × (List Int → Int) × Nat × MG, fun q => (q.1 : Int) ≤ x.n ∧ ImgsOk x q.2.1 q.2.2.1 ∧ Done x l' q.2.1 i ∧ HasI x q.2.1 (l'.getD i Trip.none).s q.1 ∧ q.2.1.length ≤ 7 * i + 1 + q.1 ∧ ∀ k, q.2.2.1 k → 1 ≤ q.2.2.2.1 k ∧ q.2.2.2.1 k ≤ (7 * i + 1 + q.1 : Nat), fun q => x.n.toNat - q.1, fun q => [(96, .int .i64 (q.1 : Nat)), (83, .any)],
            fun q => [(6, .map K6 true false q.2.2.1 (fun k => [.int .i64 (q.2.2.2.1 k)]) q.2.2.2.2.1 q.2.2.2.2.2), (8, .cells 90 [.osl 12 q.2.1.length]), (11, .gone)], fun q => [.row 86 9 q.2.1.length (rowOf imC Img.none q.2.1) true], (0, L1, dom1, c1, m1, g1), ⟨⟨by dsimp only; omega, hA1, hdn, hb0, by dsimp only at hA4 ⊢; omega, e3⟩, some [some 0, some 1, some 2, some 3, some 4, some 5, some 6, some 7, some 8, some 9, some 10, some 11, some 11], ?_⟩, ?_⟩
          · (repeat' ((conv => whnf); (first | (with_reducible first | apply spl | apply spl') <;> intro hc <;> try (exfalso; omega) | with_reducible refine iJ fun hc => ?_ | refine vcq (k := ?_) | refine dr 2004 (k := ?_) | refine dr 10 (k := ?_)))); all_goals ((try conv => whnf); try with_reducible exact trivial)
            refine ⟨allInts_all (fun k _ => ⟨Iff.rfl, fun _ => rfl⟩), ?_⟩
            (repeat' ((conv => whnf); (first | (with_reducible first | apply spl | apply spl') <;> intro hc <;> try (exfalso; omega) | with_reducible refine iJ fun hc => ?_ | refine vcq (k := ?_) | refine dr 2004 (k := ?_) | refine dr 10 (k := ?_)))); all_goals ((try conv => whnf); try with_reducible exact trivial)
          · clear hA1 hA2 hA3 hA4 hb0 hdn e3 h2 h3 h4 h5 hc
            rintro ⟨b, L2, dom, c, m, g⟩ ⟨hb, h2, h3, hI, h4, h5⟩
            dsimp only at hb h2 h3 hI h4 h5
            (repeat' ((conv => whnf); (first | (with_reducible first | apply spl | apply spl') <;> intro hc <;> try (exfalso; omega) | with_reducible refine iJ fun hc => ?_ | refine vcq (k := ?_) | refine dr 2004 (k := ?_) | refine dr 8 (k := ?_) | refine dr 10 (k := ?_)))); all_goals ((try conv => whnf); try with_reducible exact trivial)
            · have hbn : (b : Int) < x.n := hc
              have hb6 : b < 6 := by omega
              have hcb := can52 (l'.getD i Trip.none).s htg.sm.len b hb6
              have hwb := fun hcan : (l'.getD i Trip.none).s.can b => with78 (l'.getD i Trip.none) htg.sm (by have := htg.D; omega) (by have := htg.W; omega) x.l.length b hb6 hcan.1
              have hab := fun hcan : (l'.getD i Trip.none).s.can b => h2.add (im := ⟨(l'.getD i Trip.none).with ((x.l.length : Int), (b : Int)), (l'.getD i Trip.none).s.M.set b (-2), true⟩) (.inr ⟨rfl, _, _, b, htg.r, hbn, hcan, rfl, rfl⟩)
              have hcall := add77' ⟨(l'.getD i Trip.none).with ((x.l.length : Int), (b : Int)), (l'.getD i Trip.none).s.M.set b (-2), true⟩ L2 (by omega) dom c (7 * i + 1 + b) (by omega) h5 m g
              have hskip : ¬ (l'.getD i Trip.none).s.can b → HasI x L2 (l'.getD i Trip.none).s (b + 1) := hI.skip
              have hadd : ∀ L3, (∀ y ∈ L2, y ∈ L3) → (∃ y ∈ L3, y.h = (l'.getD i Trip.none).s.M.set b (-2)) → HasI x L3 (l'.getD i Trip.none).s (b + 1) := fun L3 h6 h7 => (hI.sub h6).add h7
              clear hI
              have hb3 : b = 0 ∨ b = 1 ∨ b = 2 := by omega
              rcases hb3 with rfl | rfl | rfl
              · refine callee_fo hcb rfl ?_
                rintro _ rfl
                (repeat' ((conv => whnf); (first | (with_reducible first | apply spl | apply spl') <;> intro hc <;> try (exfalso; omega) | with_reducible refine iJ fun hc => ?_ | refine vcq (k := ?_) | refine dr 2004 (k := ?_) | refine dr 8 (k := ?_) | refine dr 10 (k := ?_)))); all_goals ((try conv => whnf); try with_reducible exact trivial)
                · have hcan : (l'.getD i Trip.none).s.can 0 := hc
                  refine pcall_intro (hwb hcan) rfl ?_
                  (repeat' ((conv => whnf); (first | (with_reducible first | apply spl | apply spl') <;> intro hc <;> try (exfalso; omega) | with_reducible refine iJ fun hc => ?_ | refine vcq (k := ?_) | refine dr 2004 (k := ?_) | refine dr 8 (k := ?_) | refine dr 10 (k := ?_)))); all_goals ((try conv => whnf); try with_reducible exact trivial)
                  refine callee_frame [7, 8, 6, 12] hcall rfl ?_ ?_
                  · (repeat' ((conv => whnf); (first | (with_reducible first | apply spl | apply spl') <;> intro hc <;> try (exfalso; omega) | with_reducible refine iJ fun hc => ?_ | refine vcq (k := ?_) | refine dr 2004 (k := ?_) | refine dr 10 (k := ?_)))); all_goals ((try conv => whnf); try with_reducible exact trivial)
                    refine ⟨by simp, ?_⟩
                    (repeat' ((conv => whnf); (first | (with_reducible first | apply spl | apply spl') <;> intro hc <;> try (exfalso; omega) | with_reducible refine iJ fun hc => ?_ | refine vcq (k := ?_) | refine dr 2004 (k := ?_) | refine dr 10 (k := ?_)))); all_goals ((try conv => whnf); try with_reducible exact trivial)
                    refine ⟨allInts_all (fun k _ => ⟨Iff.rfl, fun _ => rfl⟩), ?_⟩
                    (repeat' ((conv => whnf); (first | (with_reducible first | apply spl | apply spl') <;> intro hc <;> try (exfalso; omega) | with_reducible refine iJ fun hc => ?_ | refine vcq (k := ?_) | refine dr 2004 (k := ?_) | refine dr 10 (k := ?_)))); all_goals ((try conv => whnf); try with_reducible exact trivial)
                  · rintro _ _ ⟨L3, dom3, c3, m3, g3, ⟨e1, e2, e3⟩, rfl, rfl⟩
                    obtain ⟨hA1, hA2, hA3, hA4⟩ := hab hcan
                    rw [← e1] at hA1 hA2 hA3 hA4
                    rw [← e2] at hA1
                    clear e1 e2
                    (repeat' ((conv => whnf); (first | (with_reducible first | apply spl | apply spl') <;> intro hc <;> try (exfalso; omega) | with_reducible refine iJ fun hc => ?_ | refine vcq (k := ?_) | refine dr 2004 (k := ?_) | refine dr 8 (k := ?_) | refine dr 10 (k := ?_)))); all_goals ((try conv => whnf); try with_reducible exact trivial)
                    refine ⟨(0 + 1, L3, dom3, c3, m3, g3), ⟨⟨by dsimp only; omega, hA1, h3.sub hA2, hadd L3 hA2 hA3, by dsimp only at hA4 ⊢; omega, fun k hk => by have := e3 k hk; dsimp only at this ⊢; omega⟩, by dsimp only; omega⟩, some [some 0, some 1, some 2, some 3, some 4, some 5, some 6, some 7, some 8, some 9, some 10, some 11, some 14], ?_⟩
                    (repeat' ((conv => whnf); (first | (with_reducible first | apply spl | apply spl') <;> intro hc <;> try (exfalso; omega) | with_reducible refine iJ fun hc => ?_ | refine vcq (k := ?_) | refine dr 2004 (k := ?_) | refine dr 10 (k := ?_)))); all_goals ((try conv => whnf); try with_reducible exact trivial)
                    refine ⟨allInts_all (fun k _ => ⟨Iff.rfl, fun _ => rfl⟩), ?_⟩
                    (repeat' ((conv => whnf); (first | (with_reducible first | apply spl | apply spl') <;> intro hc <;> try (exfalso; omega) | with_reducible refine iJ fun hc => ?_ | refine vcq (k := ?_) | refine dr 2004 (k := ?_) | refine dr 10 (k := ?_)))); all_goals ((try conv => whnf); try with_reducible exact trivial)
                · refine ⟨(0 + 1, L2, dom, c, m, g), ⟨⟨by dsimp only; omega, h2, h3, hskip hc, by dsimp only; omega, fun k hk => by have := h5 k hk; dsimp only at this ⊢; omega⟩, by dsimp only; omega⟩, some [some 0, some 1, some 2, some 3, some 4, some 5, some 6, some 7, some 8, some 9, some 10, some 11, some 12], ?_⟩
                  (repeat' ((conv => whnf); (first | (with_reducible first | apply spl | apply spl') <;> intro hc <;> try (exfalso; omega) | with_reducible refine iJ fun hc => ?_ | refine vcq (k := ?_) | refine dr 2004 (k := ?_) | refine dr 10 (k := ?_)))); all_goals ((try conv => whnf); try with_reducible exact trivial)
                  refine ⟨allInts_all (fun k _ => ⟨Iff.rfl, fun _ => rfl⟩), ?_⟩
                  (repeat' ((conv => whnf); (first | (with_reducible first | apply spl | apply spl') <;> intro hc <;> try (exfalso; omega) | with_reducible refine iJ fun hc => ?_ | refine vcq (k := ?_) | refine dr 2004 (k := ?_) | refine dr 10 (k := ?_)))); all_goals ((try conv => whnf); try with_reducible exact trivial)
              · refine callee_fo hcb rfl ?_
                rintro _ rfl
                (repeat' ((conv => whnf); (first | (with_reducible first | apply spl | apply spl') <;> intro hc <;> try (exfalso; omega) | with_reducible refine iJ fun hc => ?_ | refine vcq (k := ?_) | refine dr 2004 (k := ?_) | refine dr 8 (k := ?_) | refine dr 10 (k := ?_)))); all_goals ((try conv => whnf); try with_reducible exact trivial)
                · have hcan : (l'.getD i Trip.none).s.can 1 := hc
                  refine pcall_intro (hwb hcan) rfl ?_
                  (repeat' ((conv => whnf); (first | (with_reducible first | apply spl | apply spl') <;> intro hc <;> try (exfalso; omega) | with_reducible refine iJ fun hc => ?_ | refine vcq (k := ?_) | refine dr 2004 (k := ?_) | refine dr 8 (k := ?_) | refine dr 10 (k := ?_)))); all_goals ((try conv => whnf); try with_reducible exact trivial)
                  refine callee_frame [7, 8, 6, 12] hcall rfl ?_ ?_
                  · (repeat' ((conv => whnf); (first | (with_reducible first | apply spl | apply spl') <;> intro hc <;> try (exfalso; omega) | with_reducible refine iJ fun hc => ?_ | refine vcq (k := ?_) | refine dr 2004 (k := ?_) | refine dr 10 (k := ?_)))); all_goals ((try conv => whnf); try with_reducible exact trivial)
                    refine ⟨by simp, ?_⟩
                    (repeat' ((conv => whnf); (first | (with_reducible first | apply spl | apply spl') <;> intro hc <;> try (exfalso; omega) | with_reducible refine iJ fun hc => ?_ | refine vcq (k := ?_) | refine dr 2004 (k := ?_) | refine dr 10 (k := ?_)))); all_goals ((try conv => whnf); try with_reducible exact trivial)
                    refine ⟨allInts_all (fun k _ => ⟨Iff.rfl, fun _ => rfl⟩), ?_⟩
                    (repeat' ((conv => whnf); (first | (with_reducible first | apply spl | apply spl') <;> intro hc <;> try (exfalso; omega) | with_reducible refine iJ fun hc => ?_ | refine vcq (k := ?_) | refine dr 2004 (k := ?_) | refine dr 10 (k := ?_)))); all_goals ((try conv => whnf); try with_reducible exact trivial)
                  · rintro _ _ ⟨L3, dom3, c3, m3, g3, ⟨e1, e2, e3⟩, rfl, rfl⟩
                    obtain ⟨hA1, hA2, hA3, hA4⟩ := hab hcan
                    rw [← e1] at hA1 hA2 hA3 hA4
                    rw [← e2] at hA1
                    clear e1 e2
                    (repeat' ((conv => whnf); (first | (with_reducible first | apply spl | apply spl') <;> intro hc <;> try (exfalso; omega) | with_reducible refine iJ fun hc => ?_ | refine vcq (k := ?_) | refine dr 2004 (k := ?_) | refine dr 8 (k := ?_) | refine dr 10 (k := ?_)))); all_goals ((try conv => whnf); try with_reducible exact trivial)
                    refine ⟨(1 + 1, L3, dom3, c3, m3, g3), ⟨⟨by dsimp only; omega, hA1, h3.sub hA2, hadd L3 hA2 hA3, by dsimp only at hA4 ⊢; omega, fun k hk => by have := e3 k hk; dsimp only at this ⊢; omega⟩, by dsimp only; omega⟩, some [some 0, some 1, some 2, some 3, some 4, some 5, some 6, some 7, some 8, some 9, some 10, some 11, some 14], ?_⟩
                    (repeat' ((conv => whnf); (first | (with_reducible first | apply spl | apply spl') <;> intro hc <;> try (exfalso; omega) | with_reducible refine iJ fun hc => ?_ | refine vcq (k := ?_) | refine dr 2004 (k := ?_) | refine dr 10 (k := ?_)))); all_goals ((try conv => whnf); try with_reducible exact trivial)
                    refine ⟨allInts_all (fun k _ => ⟨Iff.rfl, fun _ => rfl⟩), ?_⟩
                    (repeat' ((conv => whnf); (first | (with_reducible first | apply spl | apply spl') <;> intro hc <;> try (exfalso; omega) | with_reducible refine iJ fun hc => ?_ | refine vcq (k := ?_) | refine dr 2004 (k := ?_) | refine dr 10 (k := ?_)))); all_goals ((try conv => whnf); try with_reducible exact trivial)
                · refine ⟨(1 + 1, L2, dom, c, m, g), ⟨⟨by dsimp only; omega, h2, h3, hskip hc, by dsimp only; omega, fun k hk => by have := h5 k hk; dsimp only at this ⊢; omega⟩, by dsimp only; omega⟩, some [some 0, some 1, some 2, some 3, some 4, some 5, some 6, some 7, some 8, some 9, some 10, some 11, some 12], ?_⟩
                  (repeat' ((conv => whnf); (first | (with_reducible first | apply spl | apply spl') <;> intro hc <;> try (exfalso; omega) | with_reducible refine iJ fun hc => ?_ | refine vcq (k := ?_) | refine dr 2004 (k := ?_) | refine dr 10 (k := ?_)))); all_goals ((try conv => whnf); try with_reducible exact trivial)
                  refine ⟨allInts_all (fun k _ => ⟨Iff.rfl, fun _ => rfl⟩), ?_⟩
                  (repeat' ((conv => whnf); (first | (with_reducible first | apply spl | apply spl') <;> intro hc <;> try (exfalso; omega) | with_reducible refine iJ fun hc => ?_ | refine vcq (k := ?_) | refine dr 2004 (k := ?_) | refine dr 10 (k := ?_)))); all_goals ((try conv => whnf); try with_reducible exact trivial)
              · refine callee_fo hcb rfl ?_
                rintro _ rfl
                (repeat' ((conv => whnf); (first | (with_reducible first | apply spl | apply spl') <;> intro hc <;> try (exfalso; omega) | with_reducible refine iJ fun hc => ?_ | refine vcq (k := ?_) | refine dr 2004 (k := ?_) | refine dr 8 (k := ?_) | refine dr 10 (k := ?_)))); all_goals ((try conv => whnf); try with_reducible exact trivial)
                · have hcan : (l'.getD i Trip.none).s.can 2 := hc
                  refine pcall_intro (hwb hcan) rfl ?_
                  (repeat' ((conv => whnf); (first | (with_reducible first | apply spl | apply spl') <;> intro hc <;> try (exfalso; omega) | with_reducible refine iJ fun hc => ?_ | refine vcq (k := ?_) | refine dr 2004 (k := ?_) | refine dr 8 (k := ?_) | refine dr 10 (k := ?_)))); all_goals ((try conv => whnf); try with_reducible exact trivial)
                  refine callee_frame [7, 8, 6, 12] hcall rfl ?_ ?_
                  · (repeat' ((conv => whnf); (first | (with_reducible first | apply spl | apply spl') <;> intro hc <;> try (exfalso; omega) | with_reducible refine iJ fun hc => ?_ | refine vcq (k := ?_) | refine dr 2004 (k := ?_) | refine dr 10 (k := ?_)))); all_goals ((try conv => whnf); try with_reducible exact trivial)
                    refine ⟨by simp, ?_⟩
                    (repeat' ((conv => whnf); (first | (with_reducible first | apply spl | apply spl') <;> intro hc <;> try (exfalso; omega) | with_reducible refine iJ fun hc => ?_ | refine vcq (k := ?_) | refine dr 2004 (k := ?_) | refine dr 10 (k := ?_)))); all_goals ((try conv => whnf); try with_reducible exact trivial)
                    refine ⟨allInts_all (fun k _ => ⟨Iff.rfl, fun _ => rfl⟩), ?_⟩
                    (repeat' ((conv => whnf); (first | (with_reducible first | apply spl | apply spl') <;> intro hc <;> try (exfalso; omega) | with_reducible refine iJ fun hc => ?_ | refine vcq (k := ?_) | refine dr 2004 (k := ?_) | refine dr 10 (k := ?_)))); all_goals ((try conv => whnf); try with_reducible exact trivial)
                  · rintro _ _ ⟨L3, dom3, c3, m3, g3, ⟨e1, e2, e3⟩, rfl, rfl⟩
                    obtain ⟨hA1, hA2, hA3, hA4⟩ := hab hcan
                    rw [← e1] at hA1 hA2 hA3 hA4
                    rw [← e2] at hA1
                    clear e1 e2
                    (repeat' ((conv => whnf); (first | (with_reducible first | apply spl | apply spl') <;> intro hc <;> try (exfalso; omega) | with_reducible refine iJ fun hc => ?_ | refine vcq (k := ?_) | refine dr 2004 (k := ?_) | refine dr 8 (k := ?_) | refine dr 10 (k := ?_)))); all_goals ((try conv => whnf); try with_reducible exact trivial)
                    refine ⟨(2 + 1, L3, dom3, c3, m3, g3), ⟨⟨by dsimp only; omega, hA1, h3.sub hA2, hadd L3 hA2 hA3, by dsimp only at hA4 ⊢; omega, fun k hk => by have := e3 k hk; dsimp only at this ⊢; omega⟩, by dsimp only; omega⟩, some [some 0, some 1, some 2, some 3, some 4, some 5, some 6, some 7, some 8, some 9, some 10, some 11, some 14], ?_⟩
                    (repeat' ((conv => whnf); (first | (with_reducible first | apply spl | apply spl') <;> intro hc <;> try (exfalso; omega) | with_reducible refine iJ fun hc => ?_ | refine vcq (k := ?_) | refine dr 2004 (k := ?_) | refine dr 10 (k := ?_)))); all_goals ((try conv => whnf); try with_reducible exact trivial)
                    refine ⟨allInts_all (fun k _ => ⟨Iff.rfl, fun _ => rfl⟩), ?_⟩
                    (repeat' ((conv => whnf); (first | (with_reducible first | apply spl | apply spl') <;> intro hc <;> try (exfalso; omega) | with_reducible refine iJ fun hc => ?_ | refine vcq (k := ?_) | refine dr 2004 (k := ?_) | refine dr 10 (k := ?_)))); all_goals ((try conv => whnf); try with_reducible exact trivial)
                · refine ⟨(2 + 1, L2, dom, c, m, g), ⟨⟨by dsimp only; omega, h2, h3, hskip hc, by dsimp only; omega, fun k hk => by have := h5 k hk; dsimp only at this ⊢; omega⟩, by dsimp only; omega⟩, some [some 0, some 1, some 2, some 3, some 4, some 5, some 6, some 7, some 8, some 9, some 10, some 11, some 12], ?_⟩
                  (repeat' ((conv => whnf); (first | (with_reducible first | apply spl | apply spl') <;> intro hc <;> try (exfalso; omega) | with_reducible refine iJ fun hc => ?_ | refine vcq (k := ?_) | refine dr 2004 (k := ?_) | refine dr 10 (k := ?_)))); all_goals ((try conv => whnf); try with_reducible exact trivial)
                  refine ⟨allInts_all (fun k _ => ⟨Iff.rfl, fun _ => rfl⟩), ?_⟩
                  (repeat' ((conv => whnf); (first | (with_reducible first | apply spl | apply spl') <;> intro hc <;> try (exfalso; omega) | with_reducible refine iJ fun hc => ?_ | refine vcq (k := ?_) | refine dr 2004 (k := ?_) | refine dr 10 (k := ?_)))); all_goals ((try conv => whnf); try with_reducible exact trivial)
            · obtain rfl : b = x.n.toNat := by dsimp only at hc; omega
              refine ⟨(i + 1, L2, dom, c, m, g), ⟨⟨by dsimp only; omega, h2, h3.step (hI.full hx), by dsimp only; omega, fun k hk => by have := h5 k hk; dsimp only at this ⊢; omega⟩, by dsimp only; omega⟩, some [some 0, some 1, some 2, some 3, some 4, some 5, some 6, some 7, some 8, some 12], ?_⟩
              (repeat' ((conv => whnf); (first | (with_reducible first | apply spl | apply spl') <;> intro hc <;> try (exfalso; omega) | with_reducible refine iJ fun hc => ?_ | refine vcq (k := ?_) | refine dr 2004 (k := ?_) | refine dr 10 (k := ?_)))); all_goals ((try conv => whnf); try with_reducible exact trivial)
              refine ⟨allInts_all (fun k _ => ⟨Iff.rfl, fun _ => rfl⟩), ?_⟩
              (repeat' ((conv => whnf); (first | (with_reducible first | apply spl | apply spl') <;> intro hc <;> try (exfalso; omega) | with_reducible refine iJ fun hc => ?_ | refine vcq (k := ?_) | refine dr 2004 (k := ?_) | refine dr 10 (k := ?_)))); all_goals ((try conv => whnf); try with_reducible exact trivial)
      · obtain rfl : i = l'.length := by dsimp only at hc; omega
        refine ⟨_, ⟨L, h2.imgs h3 hcov (by omega), rfl⟩, ?_⟩
        (repeat' ((conv => whnf); (first | (with_reducible first | apply spl | apply spl') <;> intro hc <;> try (exfalso; omega) | with_reducible refine iJ fun hc => ?_ | refine vcq (k := ?_) | refine dr 2004 (k := ?_) | refine dr 10 (k := ?_)))); all_goals ((try conv => whnf); try with_reducible exact trivial)
end Go.Proofs

