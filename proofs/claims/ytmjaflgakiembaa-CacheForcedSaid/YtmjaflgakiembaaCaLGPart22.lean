/- Own work: texts of the proof of a law (CaL9). No condition. -/
import Derived.Test.YtmjaflgakiembaaCaLGPart21
namespace Go.Proofs
open Go Go.Sx
set_option maxRecDepth 100000
set_option maxHeartbeats 40000000
theorem Copy24f (x : Cache) (hl : x.l.length ≤ 1000000) : NewC Try.prog 24 [x.v] (fun r H => r = .agg [.int .i64 x.n, .osl 0 x.l.length] ∧ H = [.row 42 2 x.l.length (rowOf oC (0, 0) x.l) false]) := by
  refine newC_ent Try.E_ok Try.func24 rfl (by kernel_rfl) ?_
  (repeat' ((conv => whnf); (first | (with_reducible first | refine spl (fun hc => ?_) fun hc => ?_ | refine spl' (fun hc => ?_) fun hc => ?_) <;> try (exfalso; omega) | with_reducible refine iJ fun hc => ?_ | refine vcq (k := ?_) | refine dr 2005 (k := ?_) | refine dr 11 (k := ?_) | refine dr 8 (k := ?_)))); all_goals ((try conv => whnf); try with_reducible exact trivial)
  refine ⟨_, _, ⟨rfl, rfl⟩, some [some 3], ?_⟩
  (repeat' ((conv => whnf); (first | (with_reducible first | refine spl (fun hc => ?_) fun hc => ?_ | refine spl' (fun hc => ?_) fun hc => ?_) <;> try (exfalso; omega) | with_reducible refine iJ fun hc => ?_ | refine vcq (k := ?_) | refine dr 2005 (k := ?_) | refine dr 11 (k := ?_) | refine dr 8 (k := ?_)))); all_goals ((try conv => whnf); try with_reducible exact trivial)
theorem possible_ok {x : Cache} (hx : x.Small) (hk : x.chk = 0) {l : List Int} (hl : l.length ≤ 1000000) (h : IsImg x l) : PureC Try.prog 21 false [x.v, .sl 1 l.length (rowOf intC 0 l)] (· = .tup [.prop (IsPos x l) (Classical.propDecidable _), .int .i64 0]) := by
  refine (Possible21 x (by have := hx.l; omega) (fun _ => hx) l hl).mono fun v hv => ?_
  cases hv with
  | chk g => exact absurd hk g
  | img _ g => exact absurd h g
  | pos => rfl
structure Drn (x : Cache) (n : Nat) (s : RS) (D : List (Int × Int)) : Prop where
  ex : ∃ u, RchU x x.l.length u D ∧ Sim n s u
theorem Drn.begin {x : Cache} (hx : x.Ok) {n : Nat} (hn : x.n = n) : Drn x n (RS.run n x.l x.l.length) [] := ⟨_, runU_rch x _ (Nat.le_refl _), Sim.run hx hn _ (Nat.le_refl _)⟩
theorem Drn.bnd {x : Cache} (hx : x.Ok) {n : Nat} (hn : x.n = n) {s : RS} {D : List (Int × Int)} (h : Drn x n s D) : (0 ≤ s.W ∧ s.W ≤ x.l.length ∧ 0 < s.E.length ∧ s.E.length ≤ x.l.length + 1 ∧ 0 ≤ s.entries n ∧ s.entries n ≤ x.l.length) ∧ D.length ≤ x.l.length := by
  obtain ⟨u, h1, h2⟩ := h.ex
  refine ⟨h2.bnd hx hn h1, ?_⟩
  have hi := h1.inv hx
  have h3 := hi.tot
  have h4 := hi.D
  have h5 := cntL_nonneg u.E
  unfold PS.tot at h3
  omega
theorem Drn.drain {x : Cache} (hx : x.Ok) {n : Nat} (hn : x.n = n) {s : RS} {D : List (Int × Int)} (h : Drn x n s D) {b : Nat} (hc : canR n s b) : Drn x n (drS n s b) (D ++ [((x.l.length : Int), (b : Int))]) ∧ (drS n s b).entries n + 1 = s.entries n := by
  have hn6 := hx.n
  obtain ⟨u, h1, h2⟩ := h.ex
  have hc2 := (h2.canR_iff (by omega)).1 hc
  rw [Int.toNat_natCast] at hc2
  have h3 := h2.drain' (by omega) hc
  rw [Int.toNat_natCast] at h3
  refine ⟨⟨_, h1.drain (by omega) hc2.2.2, h3⟩, ?_⟩
  rw [h3.entries (by omega), h2.entries (by omega)]
  exact drain_cnt (by omega) hc2.2.2
theorem Drn.some {x : Cache} (hx : x.Ok) {n : Nat} (hn : x.n = n) {s : RS} {D : List (Int × Int)} (h : Drn x n s D) (hp : 0 < s.entries n) : ∃ b : Nat, b < n ∧ canR n s b := by
  have hn6 := hx.n
  obtain ⟨u, h1, h2⟩ := h.ex
  rw [h2.entries (by omega)] at hp
  obtain ⟨b, hb, hc⟩ := some_can hx h1 hp
  exact ⟨b, by omega, (h2.canR_iff (by omega)).2 ⟨by omega, by omega, by rw [Int.toNat_natCast]; exact hc⟩⟩
theorem Drn.fin {x : Cache} (hk : x.chk = 0) {n : Nat} (hn : x.n = n) {s : RS} {D : List (Int × Int)} (h : Drn x n s D) (hp : s.entries n = 0) : ∃ M : C6, playV x D false = [.sl 1 x.n.toNat (iF M.get), .int .i64 0] ∧ ∀ b, b < 6 → M.get b = newP x.l x.l.length b := by
  have hx := Cache.chk_ok hk
  have hn6 := hx.n
  obtain ⟨u, h1, h2⟩ := h.ex
  rw [h2.entries (by omega)] at hp
  exact ⟨u.M, rchU_play hk h1, fun b hb => empty_newest hx h1 (no_of_cnt hp) hb⟩
noncomputable def Forced11A (x : Cache) (hl : x.l.length ≤ 9223372036854775807) (j : Int) (l : List Int) (hll : l.length ≤ 9223372036854775807) :
    { G : Nat → Prop // (∀ k, k < x.l.length → x.chk = 0 → x.Small → l.length ≤ 40 → G k) → PureC Try.prog 11 false [x.v, .int .i64 j, .sl 1 l.length (rowOf intC 0 l)] (· = .prop True inferInstance) } := by
  constructor
  case property =>
    intro hG
    refine pureC_of_exec Try.E_ok Try.func11 rfl (by kernel_rfl) ?_
    (repeat' ((conv => whnf); (first | (with_reducible first | refine spl (fun hc => ?_) fun hc => ?_ | refine spl' (fun hc => ?_) fun hc => ?_) <;> try (exfalso; omega) | with_reducible refine iJ fun hc => ?_ | refine vcq (k := ?_) | refine dr 2005 (k := ?_) | refine dr 11 (k := ?_) | refine dr 8 (k := ?_)))); all_goals ((try conv => whnf); try with_reducible exact trivial); (repeat' ((first | (refine callee_fo (valid12 x hl) rfl ?_; rintro _ rfl) | (refine pcall_intro (valid12 x hl) rfl ?_) | (refine pcall_soft (fun _ => valid12 x hl) rfl ?_)); (repeat' ((conv => whnf); (first | (with_reducible first | refine spl (fun hc => ?_) fun hc => ?_ | refine spl' (fun hc => ?_) fun hc => ?_) <;> try (exfalso; omega) | with_reducible refine iJ fun hc => ?_ | refine vcq (k := ?_) | refine dr 2005 (k := ?_) | refine dr 11 (k := ?_) | refine dr 8 (k := ?_)))); all_goals ((try conv => whnf); try with_reducible exact trivial)))
    · have hv : ¬ x.far ∧ x.chk = 0 := Classical.not_not.1 (fun g => hc (.inl g))
      have hl40 : l.length ≤ 40 := by omega
      have hx := Cache.valid hv
      have hk := hv.2
      have hn6 := hx.ok.n
      have h3 := hx.n
      have h7 := hx.l
      clear hc hv
      refine callee_fo (IsImage33 x (by omega) l (by omega)) rfl ?_
      rintro _ rfl
      (repeat' ((conv => whnf); (first | (with_reducible first | refine spl (fun hc => ?_) fun hc => ?_ | refine spl' (fun hc => ?_) fun hc => ?_) <;> try (exfalso; omega) | with_reducible refine iJ fun hc => ?_ | refine vcq (k := ?_) | refine dr 2005 (k := ?_) | refine dr 11 (k := ?_) | refine dr 8 (k := ?_)))); all_goals ((try conv => whnf); try with_reducible exact trivial)
      · refine callee_fo works13 rfl ?_
        rintro _ rfl
        (repeat' ((conv => whnf); (first | (with_reducible first | refine spl (fun hc => ?_) fun hc => ?_ | refine spl' (fun hc => ?_) fun hc => ?_) <;> try (exfalso; omega) | with_reducible refine iJ fun hc => ?_ | refine vcq (k := ?_) | refine dr 2005 (k := ?_) | refine dr 11 (k := ?_) | refine dr 8 (k := ?_)))); all_goals ((try conv => whnf); try with_reducible exact trivial)
        refine ⟨_, rfl, ?_⟩
        (repeat' ((conv => whnf); (first | (with_reducible first | refine spl (fun hc => ?_) fun hc => ?_ | refine spl' (fun hc => ?_) fun hc => ?_) <;> try (exfalso; omega) | with_reducible refine iJ fun hc => ?_ | refine vcq (k := ?_) | refine dr 2005 (k := ?_) | refine dr 11 (k := ?_) | refine dr 8 (k := ?_)))); all_goals ((try conv => whnf); try with_reducible exact trivial)
      · have himg : IsImg x l := Classical.not_not.1 (by assumption)
        obtain ⟨n, hn⟩ : ∃ n : Nat, x.n = n := ⟨x.n.toNat, by omega⟩
        obtain ⟨k, hjk⟩ : ∃ k : Nat, j = k := ⟨j.toNat, by omega⟩
        have htk : j.toNat = k := by omega
        rw [htk] at hc
        have hkl : k < x.l.length := by omega
        have hfo := Cache.force_ok hx.ok hkl hc.2
        have hfS : (x.force k).Small := ⟨hfo, h3, by rw [Cache.force_len]; exact h7⟩
        have hfi := force_img hkl hc.2 himg
        have hfp := fun g => force_pos hx.ok hkl hc.2 (l := l) g
        have hfg := fun i => Cache.force_get x (k := i) hkl
        have hfl := Cache.force_len x k
        have hposF := possible_ok hfS (if_pos hfo) (show l.length ≤ 1000000 by omega) hfi
        refine callee_new (Copy24f x (by omega)) rfl ?_
        rintro _ _ ⟨rfl, rfl⟩
        (repeat' ((conv => whnf); (first | (with_reducible first | refine spl (fun hc => ?_) fun hc => ?_ | refine spl' (fun hc => ?_) fun hc => ?_) <;> try (exfalso; omega) | with_reducible refine iJ fun hc => ?_ | refine vcq (k := ?_) | refine dr 2005 (k := ?_) | refine dr 11 (k := ?_) | refine dr 8 (k := ?_)))); all_goals ((try conv => whnf); try with_reducible exact trivial)
        refine callee_fo (possible_ok hx hk (show l.length ≤ 1000000 by omega) himg) rfl ?_
        rintro _ rfl
        (repeat' ((conv => whnf); (first | (with_reducible first | refine spl (fun hc => ?_) fun hc => ?_ | refine spl' (fun hc => ?_) fun hc => ?_) <;> try (exfalso; omega) | with_reducible refine iJ fun hc => ?_ | refine vcq (k := ?_) | refine dr 2005 (k := ?_) | refine dr 11 (k := ?_) | refine dr 8 (k := ?_)))); all_goals ((try conv => whnf); try with_reducible exact trivial)
        refine callee_view hposF ?_
        (repeat' ((conv => whnf); (first | (with_reducible first | refine spl (fun hc => ?_) fun hc => ?_ | refine spl' (fun hc => ?_) fun hc => ?_) <;> try (exfalso; omega) | with_reducible refine iJ fun hc => ?_ | refine vcq (k := ?_) | refine dr 2005 (k := ?_) | refine dr 11 (k := ?_) | refine dr 8 (k := ?_)))); all_goals ((try conv => whnf); try with_reducible exact trivial)
        refine ⟨fun i hi => ?_, .inl rfl, ?_⟩
        · show spliceP (i = j.toNat) (oC (x.l.getD i (0, 0))) 0 [.int .i64 2, .int .i64 (x.l.getD j.toNat (0, 0)).2] = oC ((x.force k).l.getD i (0, 0))
          rw [htk, hfg i]
          by_cases h : i = k
          · rw [spliceP_pos h, if_pos h]; rfl
          · rw [spliceP_neg h, if_neg h]
        (repeat' ((conv => whnf); (first | (with_reducible first | refine spl (fun hc => ?_) fun hc => ?_ | refine spl' (fun hc => ?_) fun hc => ?_) <;> try (exfalso; omega) | with_reducible refine iJ fun hc => ?_ | refine vcq (k := ?_) | refine dr 2005 (k := ?_) | refine dr 11 (k := ?_) | refine dr 8 (k := ?_)))); all_goals ((try conv => whnf); try with_reducible exact trivial)
        rintro _ rfl
        (repeat' ((conv => whnf); (first | (with_reducible first | refine spl (fun hc => ?_) fun hc => ?_ | refine spl' (fun hc => ?_) fun hc => ?_) <;> try (exfalso; omega) | with_reducible refine iJ fun hc => ?_ | refine vcq (k := ?_) | refine dr 2005 (k := ?_) | refine dr 11 (k := ?_) | refine dr 8 (k := ?_)))); all_goals ((try conv => whnf); try with_reducible exact trivial)
        · exfalso
          have g : ((0 : Int) ≠ 0 ∨ (0 : Int) ≠ 0) ∨ IsPos (x.force k) l ∧ ¬ IsPos x l := hc
          rcases g with (g | g) | g
          · exact g rfl
          · exact g rfl
          · exact g.2 (hfp g.1)
        clear hfo hfS hfi hfp hfg hfl hposF himg hc
        exact hG k hkl hk hx hl40
      · obtain ⟨n, hn⟩ : ∃ n : Nat, x.n = n := ⟨x.n.toNat, by omega⟩
        clear hc
        refine callee_fo (begin16 x n hn (by omega)) rfl ?_
        rintro _ rfl
        (repeat' ((conv => whnf); (first | (with_reducible first | refine spl (fun hc => ?_) fun hc => ?_ | refine spl' (fun hc => ?_) fun hc => ?_) <;> try (exfalso; omega) | with_reducible refine iJ fun hc => ?_ | refine vcq (k := ?_) | refine dr 2005 (k := ?_) | refine dr 11 (k := ?_) | refine dr 8 (k := ?_)))); all_goals ((try conv => whnf); try with_reducible exact trivial)
        refine ⟨Nat, fun i => i ≤ x.l.length, fun i => x.l.length - i, fun i => [(13, .int .i64 (i : Nat)), (41, .any), (47, .any)], fun i => [(1, .cells 34 ((RS.run n x.l i).c n))], fun _ => [], 0, ⟨by omega, none, ?_⟩, ?_⟩
        · (repeat' ((conv => whnf); (first | (with_reducible first | refine spl (fun hc => ?_) fun hc => ?_ | refine spl' (fun hc => ?_) fun hc => ?_) <;> try (exfalso; omega) | with_reducible refine iJ fun hc => ?_ | refine vcq (k := ?_) | refine dr 2005 (k := ?_) | refine dr 11 (k := ?_) | refine dr 8 (k := ?_)))); all_goals ((try conv => whnf); try with_reducible exact trivial)
          rfl
        · intro i hi
          have hi : i ≤ x.l.length := hi
          have hti : (i : Int).toNat = i := Int.toNat_natCast i
          have hb := run_bnd hx.ok hn hi
          (repeat' ((conv => whnf); (first | (with_reducible first | refine spl (fun hc => ?_) fun hc => ?_ | refine spl' (fun hc => ?_) fun hc => ?_) <;> try (exfalso; omega) | with_reducible refine iJ fun hc => ?_ | refine vcq (k := ?_) | refine dr 2005 (k := ?_) | refine dr 11 (k := ?_) | refine dr 8 (k := ?_)))); all_goals ((try conv => whnf); try with_reducible exact trivial)
          · have hi1 : i < x.l.length := by omega
            have ho := hx.ok.blkn hn hi1
            rw [← hti] at ho
            refine pcall_intro (do18 n (by omega) (RS.run n x.l i) (by omega) (by omega) i (x.l.getD (i : Int).toNat (0, 0)) ho) rfl ?_
            (repeat' ((conv => whnf); (first | (with_reducible first | refine spl (fun hc => ?_) fun hc => ?_ | refine spl' (fun hc => ?_) fun hc => ?_) <;> try (exfalso; omega) | with_reducible refine iJ fun hc => ?_ | refine vcq (k := ?_) | refine dr 2005 (k := ?_) | refine dr 11 (k := ?_) | refine dr 8 (k := ?_)))); all_goals ((try conv => whnf); try with_reducible exact trivial)
            refine ⟨i + 1, ⟨by omega, by dsimp only; omega⟩, none, ?_⟩
            (repeat' ((conv => whnf); (first | (with_reducible first | refine spl (fun hc => ?_) fun hc => ?_ | refine spl' (fun hc => ?_) fun hc => ?_) <;> try (exfalso; omega) | with_reducible refine iJ fun hc => ?_ | refine vcq (k := ?_) | refine dr 2005 (k := ?_) | refine dr 11 (k := ?_) | refine dr 8 (k := ?_)))); all_goals ((try conv => whnf); try with_reducible exact trivial)
            rw [hti]
            rfl
          · have hil : i = x.l.length := by omega
            subst hil
            have hd0 := Drn.begin hx.ok hn
            clear hb
            generalize RS.run n x.l x.l.length = s0 at *
            refine ⟨RS × List (Int × Int), fun q => Drn x n q.1 q.2, fun q => (q.1.entries n).toNat, fun q => [(14, .osl 2 q.2.length)], fun q => [(1, .cells 34 (q.1.c n))], fun q => [.row 37 2 q.2.length (rowOf oC (0, 0) q.2) true], (s0, []), ⟨hd0, some [some 0, some 1, none], ?_⟩, ?_⟩
            · (repeat' ((conv => whnf); (first | (with_reducible first | refine spl (fun hc => ?_) fun hc => ?_ | refine spl' (fun hc => ?_) fun hc => ?_) <;> try (exfalso; omega) | with_reducible refine iJ fun hc => ?_ | refine vcq (k := ?_) | refine dr 2005 (k := ?_) | refine dr 11 (k := ?_) | refine dr 8 (k := ?_)))); all_goals ((try conv => whnf); try with_reducible exact trivial)
            · clear hd0
              rintro ⟨s, D⟩ hd
              dsimp only at hd
              obtain ⟨hb, hDl⟩ := hd.bnd hx.ok hn
              (repeat' ((conv => whnf); (first | (with_reducible first | refine spl (fun hc => ?_) fun hc => ?_ | refine spl' (fun hc => ?_) fun hc => ?_) <;> try (exfalso; omega) | with_reducible refine iJ fun hc => ?_ | refine vcq (k := ?_) | refine dr 2005 (k := ?_) | refine dr 11 (k := ?_) | refine dr 8 (k := ?_)))); all_goals ((try conv => whnf); try with_reducible exact trivial)
              refine callee_fo (entries19 n (by omega) s (by omega)) rfl ?_
              rintro _ rfl
              (repeat' ((conv => whnf); (first | (with_reducible first | refine spl (fun hc => ?_) fun hc => ?_ | refine spl' (fun hc => ?_) fun hc => ?_) <;> try (exfalso; omega) | with_reducible refine iJ fun hc => ?_ | refine vcq (k := ?_) | refine dr 2005 (k := ?_) | refine dr 11 (k := ?_) | refine dr 8 (k := ?_)))); all_goals ((try conv => whnf); try with_reducible exact trivial)
              · have hpos : 0 < s.entries n := hc
                obtain ⟨b0, hb0, hcb0⟩ := hd.some hx.ok hn hpos
                refine ⟨Nat × RS × List (Int × Int), fun q => q.1 ≤ n ∧ Drn x n q.2.1 q.2.2 ∧ (q.2.1.entries n < s.entries n ∨ q.2.1 = s ∧ ∀ b' : Nat, b' < q.1 → ¬ canR n s b'), fun q => n - q.1, fun q => [(15, .int .i64 (q.1 : Nat)), (14, .osl 2 q.2.2.length)], fun q => [(1, .cells 34 (q.2.1.c n)), (2, .row 37 2 q.2.2.length (rowOf oC (0, 0) q.2.2) true)], fun _ => [], (0, s, D), ⟨⟨by dsimp only; omega, hd, .inr ⟨rfl, fun b' hb' => by dsimp only at hb'; omega⟩⟩, some [some 0, some 1, some 2], ?_⟩, ?_⟩
                · (repeat' ((conv => whnf); (first | (with_reducible first | refine spl (fun hc => ?_) fun hc => ?_ | refine spl' (fun hc => ?_) fun hc => ?_) <;> try (exfalso; omega) | with_reducible refine iJ fun hc => ?_ | refine vcq (k := ?_) | refine dr 2005 (k := ?_) | refine dr 11 (k := ?_) | refine dr 8 (k := ?_)))); all_goals ((try conv => whnf); try with_reducible exact trivial)
                · rintro ⟨b, s', D'⟩ ⟨hbn, hd', hor⟩
                  dsimp only at hbn hd' hor
                  have htb : (b : Int).toNat = b := Int.toNat_natCast b
                  obtain ⟨hb', hDl'⟩ := hd'.bnd hx.ok hn
                  (repeat' ((conv => whnf); (first | (with_reducible first | refine spl (fun hc => ?_) fun hc => ?_ | refine spl' (fun hc => ?_) fun hc => ?_) <;> try (exfalso; omega) | with_reducible refine iJ fun hc => ?_ | refine vcq (k := ?_) | refine dr 2005 (k := ?_) | refine dr 11 (k := ?_) | refine dr 8 (k := ?_)))); all_goals ((try conv => whnf); try with_reducible exact trivial)
                  · have hb1 : b < n := by dsimp only at hc; omega
                    refine callee_fo (Drained17d n (by omega) s' (by omega) (by omega) b) rfl ?_
                    rintro _ rfl
                    (repeat' ((conv => whnf); (first | (with_reducible first | refine spl (fun hc => ?_) fun hc => ?_ | refine spl' (fun hc => ?_) fun hc => ?_) <;> try (exfalso; omega) | with_reducible refine iJ fun hc => ?_ | refine vcq (k := ?_) | refine dr 2005 (k := ?_) | refine dr 11 (k := ?_) | refine dr 8 (k := ?_)))); all_goals ((try conv => whnf); try with_reducible exact trivial)
                    · obtain ⟨hd2, he2⟩ := hd'.drain hx.ok hn hc
                      refine ⟨(b + 1, drS n s' b, D' ++ [((x.l.length : Int), (b : Int))]), ⟨⟨by dsimp only; omega, hd2, .inl (by dsimp only; rcases hor with g | ⟨g, _⟩; omega; rw [← g]; omega)⟩, by dsimp only; omega⟩, some [some 0, some 1, some 5], ?_⟩
                      (repeat' ((conv => whnf); (first | (with_reducible first | refine spl (fun hc => ?_) fun hc => ?_ | refine spl' (fun hc => ?_) fun hc => ?_) <;> try (exfalso; omega) | with_reducible refine iJ fun hc => ?_ | refine vcq (k := ?_) | refine dr 2005 (k := ?_) | refine dr 11 (k := ?_) | refine dr 8 (k := ?_)))); all_goals ((try conv => whnf); try with_reducible exact trivial)
                      refine ⟨by simp, ?_⟩
                      (repeat' ((conv => whnf); (first | (with_reducible first | refine spl (fun hc => ?_) fun hc => ?_ | refine spl' (fun hc => ?_) fun hc => ?_) <;> try (exfalso; omega) | with_reducible refine iJ fun hc => ?_ | refine vcq (k := ?_) | refine dr 2005 (k := ?_) | refine dr 11 (k := ?_) | refine dr 8 (k := ?_)))); all_goals ((try conv => whnf); try with_reducible exact trivial)
                      refine ⟨by simp, rowOf_snoc (c := oC) (a := ((x.l.length : Int), (b : Int))) (l := D') rfl (fun _ _ => rfl), ?_⟩
                      (repeat' ((conv => whnf); (first | (with_reducible first | refine spl (fun hc => ?_) fun hc => ?_ | refine spl' (fun hc => ?_) fun hc => ?_) <;> try (exfalso; omega) | with_reducible refine iJ fun hc => ?_ | refine vcq (k := ?_) | refine dr 2005 (k := ?_) | refine dr 11 (k := ?_) | refine dr 8 (k := ?_)))); all_goals ((try conv => whnf); try with_reducible exact trivial)
                    · have hor2 : s'.entries n < s.entries n ∨ s' = s ∧ ∀ b' : Nat, b' < b + 1 → ¬ canR n s b' := by
                        rcases hor with g | ⟨g1, g2⟩
                        · exact .inl g
                        · refine .inr ⟨g1, fun b' hb' => ?_⟩
                          rcases Nat.lt_or_eq_of_le (show b' ≤ b by omega) with g | rfl
                          · exact g2 b' g
                          · rw [← g1]; exact hc
                      refine ⟨(b + 1, s', D'), ⟨⟨by dsimp only; omega, hd', hor2⟩, by dsimp only; omega⟩, some [some 0, some 1, some 2], ?_⟩
                      dsimp only [RS.c]
                      (repeat' ((conv => whnf); (first | (with_reducible first | refine spl (fun hc => ?_) fun hc => ?_ | refine spl' (fun hc => ?_) fun hc => ?_) <;> try (exfalso; omega) | with_reducible refine iJ fun hc => ?_ | refine vcq (k := ?_) | refine dr 2005 (k := ?_) | refine dr 11 (k := ?_) | refine dr 8 (k := ?_)))); all_goals ((try conv => whnf); try with_reducible exact trivial)
                  · have hbn2 : b = n := by dsimp only at hc; omega
                    have hlt : s'.entries n < s.entries n := hor.resolve_right fun ⟨_, g⟩ => g b0 (by omega) hcb0
                    refine ⟨(s', D'), ⟨hd', by dsimp only; omega⟩, some [some 0, some 1, some 2], ?_⟩
                    (repeat' ((conv => whnf); (first | (with_reducible first | refine spl (fun hc => ?_) fun hc => ?_ | refine spl' (fun hc => ?_) fun hc => ?_) <;> try (exfalso; omega) | with_reducible refine iJ fun hc => ?_ | refine vcq (k := ?_) | refine dr 2005 (k := ?_) | refine dr 11 (k := ?_) | refine dr 8 (k := ?_)))); all_goals ((try conv => whnf); try with_reducible exact trivial)
              · have h0 : s.entries n = 0 := by omega
                obtain ⟨M, hpl, hM⟩ := hd.fin hk hn h0
                have hpv := Play20 x (by omega) D (by omega) false
                rw [hpl] at hpv
                refine callee_view hpv ?_
                (repeat' ((conv => whnf); (first | (with_reducible first | refine spl (fun hc => ?_) fun hc => ?_ | refine spl' (fun hc => ?_) fun hc => ?_) <;> try (exfalso; omega) | with_reducible refine iJ fun hc => ?_ | refine vcq (k := ?_) | refine dr 2005 (k := ?_) | refine dr 11 (k := ?_) | refine dr 8 (k := ?_)))); all_goals ((try conv => whnf); try with_reducible exact trivial)
                refine ⟨by simp, ?_⟩
                (repeat' ((conv => whnf); (first | (with_reducible first | refine spl (fun hc => ?_) fun hc => ?_ | refine spl' (fun hc => ?_) fun hc => ?_) <;> try (exfalso; omega) | with_reducible refine iJ fun hc => ?_ | refine vcq (k := ?_) | refine dr 2005 (k := ?_) | refine dr 11 (k := ?_) | refine dr 8 (k := ?_)))); all_goals ((try conv => whnf); try with_reducible exact trivial)
                rintro _ rfl
                (repeat' ((conv => whnf); (first | (with_reducible first | refine spl (fun hc => ?_) fun hc => ?_ | refine spl' (fun hc => ?_) fun hc => ?_) <;> try (exfalso; omega) | with_reducible refine iJ fun hc => ?_ | refine vcq (k := ?_) | refine dr 2005 (k := ?_) | refine dr 11 (k := ?_) | refine dr 8 (k := ?_)))); all_goals ((try conv => whnf); try with_reducible exact trivial)
                refine callee_fo (newest_ok hk (by omega)) rfl ?_
                rintro _ rfl
                (repeat' ((conv => whnf); (first | (with_reducible first | refine spl (fun hc => ?_) fun hc => ?_ | refine spl' (fun hc => ?_) fun hc => ?_) <;> try (exfalso; omega) | with_reducible refine iJ fun hc => ?_ | refine vcq (k := ?_) | refine dr 2005 (k := ?_) | refine dr 11 (k := ?_) | refine dr 8 (k := ?_)))); all_goals ((try conv => whnf); try with_reducible exact trivial)
                refine callee_fo (sameInts30 x.n.toNat x.n.toNat (by omega) (by omega) M.get (newP x.l x.l.length)) rfl ?_
                rintro _ rfl
                (repeat' ((conv => whnf); (first | (with_reducible first | refine spl (fun hc => ?_) fun hc => ?_ | refine spl' (fun hc => ?_) fun hc => ?_) <;> try (exfalso; omega) | with_reducible refine iJ fun hc => ?_ | refine vcq (k := ?_) | refine dr 2005 (k := ?_) | refine dr 11 (k := ?_) | refine dr 8 (k := ?_)))); all_goals ((try conv => whnf); try with_reducible exact trivial)
                · refine callee_fo works13 rfl ?_
                  rintro _ rfl
                  (repeat' ((conv => whnf); (first | (with_reducible first | refine spl (fun hc => ?_) fun hc => ?_ | refine spl' (fun hc => ?_) fun hc => ?_) <;> try (exfalso; omega) | with_reducible refine iJ fun hc => ?_ | refine vcq (k := ?_) | refine dr 2005 (k := ?_) | refine dr 11 (k := ?_) | refine dr 8 (k := ?_)))); all_goals ((try conv => whnf); try with_reducible exact trivial)
                  refine ⟨_, rfl, ?_⟩
                  (repeat' ((conv => whnf); (first | (with_reducible first | refine spl (fun hc => ?_) fun hc => ?_ | refine spl' (fun hc => ?_) fun hc => ?_) <;> try (exfalso; omega) | with_reducible refine iJ fun hc => ?_ | refine vcq (k := ?_) | refine dr 2005 (k := ?_) | refine dr 11 (k := ?_) | refine dr 8 (k := ?_)))); all_goals ((try conv => whnf); try with_reducible exact trivial)
                · exact absurd ⟨rfl, fun b hb => hM b (by omega)⟩ hc
    · refine callee_fo works13 rfl ?_
      rintro _ rfl
      (repeat' ((conv => whnf); (first | (with_reducible first | refine spl (fun hc => ?_) fun hc => ?_ | refine spl' (fun hc => ?_) fun hc => ?_) <;> try (exfalso; omega) | with_reducible refine iJ fun hc => ?_ | refine vcq (k := ?_) | refine dr 2005 (k := ?_) | refine dr 11 (k := ?_) | refine dr 8 (k := ?_)))); all_goals ((try conv => whnf); try with_reducible exact trivial)
      refine ⟨_, rfl, ?_⟩
      (repeat' ((conv => whnf); (first | (with_reducible first | refine spl (fun hc => ?_) fun hc => ?_ | refine spl' (fun hc => ?_) fun hc => ?_) <;> try (exfalso; omega) | with_reducible refine iJ fun hc => ?_ | refine vcq (k := ?_) | refine dr 2005 (k := ?_) | refine dr 11 (k := ?_) | refine dr 8 (k := ?_)))); all_goals ((try conv => whnf); try with_reducible exact trivial)
end Go.Proofs

