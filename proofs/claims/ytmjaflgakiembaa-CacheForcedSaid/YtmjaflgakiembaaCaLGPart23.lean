/- Own work: texts of the proof of a law (CaL10). No condition. -/
import Derived.Test.YtmjaflgakiembaaCaLGPart22
namespace Go.Proofs
open Go Go.Sx
set_option maxRecDepth 100000
set_option maxHeartbeats 40000000
theorem Forced11 (x : Cache) (hl : x.l.length ≤ 9223372036854775807) (j : Int) (l : List Int) (hll : l.length ≤ 9223372036854775807) : PureC Try.prog 11 false [x.v, .int .i64 j, .sl 1 l.length (rowOf intC 0 l)] (· = .prop True inferInstance) := by
  refine (Forced11A x hl j l hll).2 fun k hkl hk hx hl40 => ?_
  have hn6 := hx.ok.n
  have h3 := hx.n
  have h7 := hx.l
  obtain ⟨n, hn⟩ : ∃ n : Nat, x.n = n := ⟨x.n.toNat, by omega⟩
  refine callee_fo (begin16 x n hn (by omega)) rfl ?_
  rintro _ rfl
  (repeat' ((conv => whnf); (first | (with_reducible first | refine spl (fun hc => ?_) fun hc => ?_ | refine spl' (fun hc => ?_) fun hc => ?_) <;> try (exfalso; omega) | with_reducible refine iJ fun hc => ?_ | refine vcq (k := ?_) | refine dr 2005 (k := ?_) | refine dr 11 (k := ?_) | refine dr 8 (k := ?_)))); all_goals ((try conv => whnf); try with_reducible exact trivial)
  refine ⟨Nat, fun i => i ≤ x.l.length, fun i => x.l.length - i, fun i => [(13, .int .i64 (i : Nat)), (41, .any), (47, .any), (67, .any)], fun i => [(3, .cells 34 ((RS.run n x.l i).c n))], fun _ => [], 0, ⟨by omega, none, ?_⟩, ?_⟩
  · (repeat' ((conv => whnf); (first | (with_reducible first | refine spl (fun hc => ?_) fun hc => ?_ | refine spl' (fun hc => ?_) fun hc => ?_) <;> try (exfalso; omega) | with_reducible refine iJ fun hc => ?_ | refine vcq (k := ?_) | refine dr 2005 (k := ?_) | refine dr 11 (k := ?_) | refine dr 8 (k := ?_)))); all_goals ((try conv => whnf); try with_reducible exact trivial)
    rfl
  · intro i hi
    have hi : i ≤ x.l.length := hi
    have hti : (i : Int).toNat = i := Int.toNat_natCast i
    have hb := run_bnd hx.ok hn hi
    (repeat' ((conv => whnf); (first | (with_reducible first | refine spl (fun hc => ?_) fun hc => ?_ | refine spl' (fun hc => ?_) fun hc => ?_) <;> try (exfalso; omega) | with_reducible refine iJ fun hc => ?_ | refine vcq (k := ?_) | refine dr 2005 (k := ?_) | refine dr 11 (k := ?_) | refine dr 8 (k := ?_)))); all_goals ((try conv => whnf); try with_reducible exact trivial)
    · have hi1 : i < x.l.length := by omega
      have ho := hx.ok.blkn hn hi1
      rw [← hti] at ho
      refine pcall_intro (do18 n (by omega) (RS.run n x.l i) (by omega) (by omega) i (x.l.getD (i : Int).toNat (0, 0)) ho) rfl ?_
      (repeat' ((conv => whnf); (first | (with_reducible first | refine spl (fun hc => ?_) fun hc => ?_ | refine spl' (fun hc => ?_) fun hc => ?_) <;> try (exfalso; omega) | with_reducible refine iJ fun hc => ?_ | refine vcq (k := ?_) | refine dr 2005 (k := ?_) | refine dr 11 (k := ?_) | refine dr 8 (k := ?_)))); all_goals ((try conv => whnf); try with_reducible exact trivial)
      refine ⟨i + 1, ⟨by omega, by dsimp only; omega⟩, none, ?_⟩
      (repeat' ((conv => whnf); (first | (with_reducible first | refine spl (fun hc => ?_) fun hc => ?_ | refine spl' (fun hc => ?_) fun hc => ?_) <;> try (exfalso; omega) | with_reducible refine iJ fun hc => ?_ | refine vcq (k := ?_) | refine dr 2005 (k := ?_) | refine dr 11 (k := ?_) | refine dr 8 (k := ?_)))); all_goals ((try conv => whnf); try with_reducible exact trivial)
      rw [hti]
      rfl
    · have hil : i = x.l.length := by omega
      subst hil
      have hd0 := Drn.begin hx.ok hn
      clear hb
      generalize RS.run n x.l x.l.length = s0 at *
      refine ⟨RS × List (Int × Int), fun q => Drn x n q.1 q.2, fun q => (q.1.entries n).toNat, fun q => [(14, .osl 4 q.2.length)], fun q => [(3, .cells 34 (q.1.c n))], fun q => [.row 37 2 q.2.length (rowOf oC (0, 0) q.2) true], (s0, []), ⟨hd0, some [some 0, some 1, some 2, some 3, none], ?_⟩, ?_⟩
      · (repeat' ((conv => whnf); (first | (with_reducible first | refine spl (fun hc => ?_) fun hc => ?_ | refine spl' (fun hc => ?_) fun hc => ?_) <;> try (exfalso; omega) | with_reducible refine iJ fun hc => ?_ | refine vcq (k := ?_) | refine dr 2005 (k := ?_) | refine dr 11 (k := ?_) | refine dr 8 (k := ?_)))); all_goals ((try conv => whnf); try with_reducible exact trivial)
      · clear hd0
        rintro ⟨s, D⟩ hd
        dsimp only at hd
        obtain ⟨hb, hDl⟩ := hd.bnd hx.ok hn
        (repeat' ((conv => whnf); (first | (with_reducible first | refine spl (fun hc => ?_) fun hc => ?_ | refine spl' (fun hc => ?_) fun hc => ?_) <;> try (exfalso; omega) | with_reducible refine iJ fun hc => ?_ | refine vcq (k := ?_) | refine dr 2005 (k := ?_) | refine dr 11 (k := ?_) | refine dr 8 (k := ?_)))); all_goals ((try conv => whnf); try with_reducible exact trivial)
        refine callee_fo (entries19 n (by omega) s (by omega)) rfl ?_
        rintro _ rfl
        (repeat' ((conv => whnf); (first | (with_reducible first | refine spl (fun hc => ?_) fun hc => ?_ | refine spl' (fun hc => ?_) fun hc => ?_) <;> try (exfalso; omega) | with_reducible refine iJ fun hc => ?_ | refine vcq (k := ?_) | refine dr 2005 (k := ?_) | refine dr 11 (k := ?_) | refine dr 8 (k := ?_)))); all_goals ((try conv => whnf); try with_reducible exact trivial)
        · have hpos : 0 < s.entries n := hc
          obtain ⟨b0, hb0, hcb0⟩ := hd.some hx.ok hn hpos
          refine ⟨Nat × RS × List (Int × Int), fun q => q.1 ≤ n ∧ Drn x n q.2.1 q.2.2 ∧ (q.2.1.entries n < s.entries n ∨ q.2.1 = s ∧ ∀ b' : Nat, b' < q.1 → ¬ canR n s b'), fun q => n - q.1, fun q => [(15, .int .i64 (q.1 : Nat)), (14, .osl 4 q.2.2.length)], fun q => [(3, .cells 34 (q.2.1.c n)), (4, .row 37 2 q.2.2.length (rowOf oC (0, 0) q.2.2) true)], fun _ => [], (0, s, D), ⟨⟨by dsimp only; omega, hd, .inr ⟨rfl, fun b' hb' => by dsimp only at hb'; omega⟩⟩, some [some 0, some 1, some 2, some 3, some 4], ?_⟩, ?_⟩
          · (repeat' ((conv => whnf); (first | (with_reducible first | refine spl (fun hc => ?_) fun hc => ?_ | refine spl' (fun hc => ?_) fun hc => ?_) <;> try (exfalso; omega) | with_reducible refine iJ fun hc => ?_ | refine vcq (k := ?_) | refine dr 2005 (k := ?_) | refine dr 11 (k := ?_) | refine dr 8 (k := ?_)))); all_goals ((try conv => whnf); try with_reducible exact trivial)
          · rintro ⟨b, s', D'⟩ ⟨hbn, hd', hor⟩
            dsimp only at hbn hd' hor
            have htb : (b : Int).toNat = b := Int.toNat_natCast b
            obtain ⟨hb', hDl'⟩ := hd'.bnd hx.ok hn
            (repeat' ((conv => whnf); (first | (with_reducible first | refine spl (fun hc => ?_) fun hc => ?_ | refine spl' (fun hc => ?_) fun hc => ?_) <;> try (exfalso; omega) | with_reducible refine iJ fun hc => ?_ | refine vcq (k := ?_) | refine dr 2005 (k := ?_) | refine dr 11 (k := ?_) | refine dr 8 (k := ?_)))); all_goals ((try conv => whnf); try with_reducible exact trivial)
            · have hb1 : b < n := by dsimp only at hc; omega
              refine callee_fo (Drained17d n (by omega) s' (by omega) (by omega) b) rfl ?_
              rintro _ rfl
              (repeat' ((conv => whnf); (first | (with_reducible first | refine spl (fun hc => ?_) fun hc => ?_ | refine spl' (fun hc => ?_) fun hc => ?_) <;> try (exfalso; omega) | with_reducible refine iJ fun hc => ?_ | refine vcq (k := ?_) | refine dr 2005 (k := ?_) | refine dr 11 (k := ?_) | refine dr 8 (k := ?_)))); all_goals ((try conv => whnf); try with_reducible exact trivial)
              · obtain ⟨hd2, he2⟩ := hd'.drain hx.ok hn hc
                refine ⟨(b + 1, drS n s' b, D' ++ [((x.l.length : Int), (b : Int))]), ⟨⟨by dsimp only; omega, hd2, .inl (by dsimp only; rcases hor with g | ⟨g, _⟩; omega; rw [← g]; omega)⟩, by dsimp only; omega⟩, some [some 0, some 1, some 2, some 3, some 7], ?_⟩
                (repeat' ((conv => whnf); (first | (with_reducible first | refine spl (fun hc => ?_) fun hc => ?_ | refine spl' (fun hc => ?_) fun hc => ?_) <;> try (exfalso; omega) | with_reducible refine iJ fun hc => ?_ | refine vcq (k := ?_) | refine dr 2005 (k := ?_) | refine dr 11 (k := ?_) | refine dr 8 (k := ?_)))); all_goals ((try conv => whnf); try with_reducible exact trivial)
                refine ⟨by simp, ?_⟩
                (repeat' ((conv => whnf); (first | (with_reducible first | refine spl (fun hc => ?_) fun hc => ?_ | refine spl' (fun hc => ?_) fun hc => ?_) <;> try (exfalso; omega) | with_reducible refine iJ fun hc => ?_ | refine vcq (k := ?_) | refine dr 2005 (k := ?_) | refine dr 11 (k := ?_) | refine dr 8 (k := ?_)))); all_goals ((try conv => whnf); try with_reducible exact trivial)
                refine ⟨by simp, rowOf_snoc (c := oC) (a := ((x.l.length : Int), (b : Int))) (l := D') rfl (fun _ _ => rfl), ?_⟩
                (repeat' ((conv => whnf); (first | (with_reducible first | refine spl (fun hc => ?_) fun hc => ?_ | refine spl' (fun hc => ?_) fun hc => ?_) <;> try (exfalso; omega) | with_reducible refine iJ fun hc => ?_ | refine vcq (k := ?_) | refine dr 2005 (k := ?_) | refine dr 11 (k := ?_) | refine dr 8 (k := ?_)))); all_goals ((try conv => whnf); try with_reducible exact trivial)
              · have hor2 : s'.entries n < s.entries n ∨ s' = s ∧ ∀ b' : Nat, b' < b + 1 → ¬ canR n s b' := by
                  rcases hor with g | ⟨g1, g2⟩
                  · exact .inl g
                  · refine .inr ⟨g1, fun b' hb' => ?_⟩
                    rcases Nat.lt_or_eq_of_le (show b' ≤ b by omega) with g | rfl
                    · exact g2 b' g
                    · rw [← g1]; exact hc
                refine ⟨(b + 1, s', D'), ⟨⟨by dsimp only; omega, hd', hor2⟩, by dsimp only; omega⟩, some [some 0, some 1, some 2, some 3, some 4], ?_⟩
                dsimp only [RS.c]
                (repeat' ((conv => whnf); (first | (with_reducible first | refine spl (fun hc => ?_) fun hc => ?_ | refine spl' (fun hc => ?_) fun hc => ?_) <;> try (exfalso; omega) | with_reducible refine iJ fun hc => ?_ | refine vcq (k := ?_) | refine dr 2005 (k := ?_) | refine dr 11 (k := ?_) | refine dr 8 (k := ?_)))); all_goals ((try conv => whnf); try with_reducible exact trivial)
            · have hbn2 : b = n := by dsimp only at hc; omega
              have hlt : s'.entries n < s.entries n := hor.resolve_right fun ⟨_, g⟩ => g b0 (by omega) hcb0
              refine ⟨(s', D'), ⟨hd', by dsimp only; omega⟩, some [some 0, some 1, some 2, some 3, some 4], ?_⟩
              (repeat' ((conv => whnf); (first | (with_reducible first | refine spl (fun hc => ?_) fun hc => ?_ | refine spl' (fun hc => ?_) fun hc => ?_) <;> try (exfalso; omega) | with_reducible refine iJ fun hc => ?_ | refine vcq (k := ?_) | refine dr 2005 (k := ?_) | refine dr 11 (k := ?_) | refine dr 8 (k := ?_)))); all_goals ((try conv => whnf); try with_reducible exact trivial)
        · have h0 : s.entries n = 0 := by omega
          obtain ⟨M, hpl, hM⟩ := hd.fin hk hn h0
          have hpv := Play20 x (by omega) D (by omega) false
          rw [hpl] at hpv
          refine callee_view hpv ?_
          (repeat' ((conv => whnf); (first | (with_reducible first | refine spl (fun hc => ?_) fun hc => ?_ | refine spl' (fun hc => ?_) fun hc => ?_) <;> try (exfalso; omega) | with_reducible refine iJ fun hc => ?_ | refine vcq (k := ?_) | refine dr 2005 (k := ?_) | refine dr 11 (k := ?_) | refine dr 8 (k := ?_)))); all_goals ((try conv => whnf); try with_reducible exact trivial)
          refine ⟨by simp, ?_⟩
          (repeat' ((conv => whnf); (first | (with_reducible first | refine spl (fun hc => ?_) fun hc => ?_ | refine spl' (fun hc => ?_) fun hc => ?_) <;> try (exfalso; omega) | with_reducible refine iJ fun hc => ?_ | refine vcq (k := ?_) | refine dr 2005 (k := ?_) | refine dr 11 (k := ?_) | refine dr 8 (k := ?_)))); all_goals ((try conv => whnf); try with_reducible exact trivial)
          rintro _ rfl
          (repeat' ((conv => whnf); (first | (with_reducible first | refine spl (fun hc => ?_) fun hc => ?_ | refine spl' (fun hc => ?_) fun hc => ?_) <;> try (exfalso; omega) | with_reducible refine iJ fun hc => ?_ | refine vcq (k := ?_) | refine dr 2005 (k := ?_) | refine dr 11 (k := ?_) | refine dr 8 (k := ?_)))); all_goals ((try conv => whnf); try with_reducible exact trivial)
          refine callee_fo (newest_ok hk (by omega)) rfl ?_
          rintro _ rfl
          (repeat' ((conv => whnf); (first | (with_reducible first | refine spl (fun hc => ?_) fun hc => ?_ | refine spl' (fun hc => ?_) fun hc => ?_) <;> try (exfalso; omega) | with_reducible refine iJ fun hc => ?_ | refine vcq (k := ?_) | refine dr 2005 (k := ?_) | refine dr 11 (k := ?_) | refine dr 8 (k := ?_)))); all_goals ((try conv => whnf); try with_reducible exact trivial)
          refine callee_fo (sameInts30 x.n.toNat x.n.toNat (by omega) (by omega) M.get (newP x.l x.l.length)) rfl ?_
          rintro _ rfl
          (repeat' ((conv => whnf); (first | (with_reducible first | refine spl (fun hc => ?_) fun hc => ?_ | refine spl' (fun hc => ?_) fun hc => ?_) <;> try (exfalso; omega) | with_reducible refine iJ fun hc => ?_ | refine vcq (k := ?_) | refine dr 2005 (k := ?_) | refine dr 11 (k := ?_) | refine dr 8 (k := ?_)))); all_goals ((try conv => whnf); try with_reducible exact trivial)
          · refine callee_fo works13 rfl ?_
            rintro _ rfl
            (repeat' ((conv => whnf); (first | (with_reducible first | refine spl (fun hc => ?_) fun hc => ?_ | refine spl' (fun hc => ?_) fun hc => ?_) <;> try (exfalso; omega) | with_reducible refine iJ fun hc => ?_ | refine vcq (k := ?_) | refine dr 2005 (k := ?_) | refine dr 11 (k := ?_) | refine dr 8 (k := ?_)))); all_goals ((try conv => whnf); try with_reducible exact trivial)
            refine ⟨_, rfl, ?_⟩
            (repeat' ((conv => whnf); (first | (with_reducible first | refine spl (fun hc => ?_) fun hc => ?_ | refine spl' (fun hc => ?_) fun hc => ?_) <;> try (exfalso; omega) | with_reducible refine iJ fun hc => ?_ | refine vcq (k := ?_) | refine dr 2005 (k := ?_) | refine dr 11 (k := ?_) | refine dr 8 (k := ?_)))); all_goals ((try conv => whnf); try with_reducible exact trivial)
          · exact absurd ⟨rfl, fun b hb => hM b (by omega)⟩ hc
end Go.Proofs

