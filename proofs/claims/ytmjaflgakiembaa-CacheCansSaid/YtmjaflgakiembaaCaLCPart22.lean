/- Own work: texts of the proof of a law (CaR7, CaR8, CaR9, CaL6, CaM7, CaM8, CaM9). No condition. -/
import Derived.Test.YtmjaflgakiembaaGround21
namespace Go.Proofs
open Go Go.Sx
set_option maxRecDepth 100000
set_option maxHeartbeats 40000000
end Go.Proofs


namespace Go.Proofs
open Go Go.Sx
set_option maxRecDepth 100000
set_option maxHeartbeats 40000000
structure Ply (x : Cache) (n : Nat) (D : List (Int × Int)) (i a : Nat) (s : RS) : Prop where
  ex : ∃ (s' : PS) (k' : Nat) (u : PS) (D' : List (Int × Int)), PS.playD x D a = some (s', k') ∧ k' ≤ min i x.l.length ∧ RchU x (min i x.l.length) u D' ∧ Sim n s u ∧ PS.from x.l s' k' (min i x.l.length - k') = u.tidy ∧
    (a < D.length → ∀ i' : Nat, k' ≤ i' → i' < i → (D.getD a (0, 0)).1 ≠ i')
namespace Ply
variable {x : Cache} {n : Nat} {D : List (Int × Int)} {i a : Nat} {s : RS}
theorem begin (hn : n ≤ 6) : Ply x n D 0 0 RS.begin :=
  ⟨_, _, _, [], rfl, by omega, by rw [Nat.zero_min]; exact .begin, Sim.begin hn, by rw [Nat.zero_min]; exact begin_tidy.symm, fun _ i' _ h => by omega⟩
theorem bnd (hx : x.Ok) (hn : x.n = n) (h : Ply x n D i a s) : 0 ≤ s.W ∧ s.W ≤ x.l.length ∧ 0 < s.E.length ∧ s.E.length ≤ x.l.length + 1 := by
  obtain ⟨_, _, u, _, _, _, h1, h2, _⟩ := h.ex
  have := h2.bnd hx hn h1
  omega
theorem drain (hx : x.Ok) (hn : x.n = n) (h : Ply x n D i a s) (hi : i ≤ x.l.length) (hd : (D.getD a (0, 0)).1 = i) (hc : canR n s (D.getD a (0, 0)).2) : Ply x n D i (a + 1) (drS n s (D.getD a (0, 0)).2) := by
  have hn6 := hx.n
  obtain ⟨s', k', u, D', h1, h2, h3, h4, h5, h6⟩ := h.ex
  rw [Nat.min_eq_left hi] at h2 h3 h5
  have hc2 := (h4.canR_iff (by omega)).1 hc
  have hl : 0 < u.E.length := by rw [(h3.inv hx).len]; omega
  have hct := (PS.can_tidy u hl _).2 hc2.2.2
  have hti : ((i : Nat) : Int).toNat = i := Int.toNat_natCast i
  refine ⟨u.tidy.drain (D.getD a (0, 0)).2.toNat, i, u.drainU (D.getD a (0, 0)).2.toNat, _, ?_, by rw [Nat.min_eq_left hi]; exact Nat.le_refl i, by rw [Nat.min_eq_left hi]; exact h3.drain (by omega) hc2.2.2, h4.drain' (by omega) hc, ?_, fun _ i' g1 g2 => by omega⟩
  · simp only [PS.playD]
    rw [h1]
    dsimp only
    rw [hd, hti, h5]
    rw [if_pos ⟨⟨by omega, by omega⟩, ⟨by omega, by omega⟩, hct⟩]
  · rw [Nat.min_eq_left hi, Nat.sub_self]
    exact (PS.drain_tidy u hl hc2.2.2).symm
theorem order (hx : x.Ok) (hn : x.n = n) (h : Ply x n D i a s) (hi : i < x.l.length) (hd : a < D.length → (D.getD a (0, 0)).1 ≠ i) : Ply x n D (i + 1) a (s.order n i (x.l.getD i (0, 0))) := by
  obtain ⟨s', k', u, D', h1, h2, h3, h4, h5, h6⟩ := h.ex
  rw [Nat.min_eq_left (by omega)] at h2 h3 h5
  have hl : 0 < u.E.length := by rw [(h3.inv hx).len]; omega
  have e : min (i + 1) x.l.length = i + 1 := Nat.min_eq_left hi
  refine ⟨s', k', _, _, h1, by rw [e]; omega, by rw [e]; exact h3.order hi, h4.order (by have := hx.n; omega) hl (by omega) (hx.blkn hn hi), ?_, fun g i' g1 g2 => ?_⟩
  · rw [e, show i + 1 - k' = (i - k') + 1 by omega, from_from, h5, show k' + (i - k') = i by omega, PS.orderU_tidy u hl]
  · rcases Nat.lt_or_eq_of_le (show i' ≤ i by omega) with k | rfl
    · exact h6 g i' g1 k
    · exact hd g
theorem fin (h : Ply x n D (x.l.length + 1) D.length s) : ∃ s' k', PS.playD x D D.length = some (s', k') ∧ ∀ b, b < n → (PS.from x.l s' k' (x.l.length - k')).M.get b = s.M b := by
  obtain ⟨s', k', u, D', h1, h2, h3, h4, h5, h6⟩ := h.ex
  have e : min (x.l.length + 1) x.l.length = x.l.length := by omega
  rw [e] at h5
  refine ⟨s', k', h1, fun b hb => ?_⟩
  rw [h5, h4.M b hb]
  rfl
end Ply
end Go.Proofs


namespace Go.Proofs
open Go Go.Sx
set_option maxRecDepth 100000
set_option maxHeartbeats 40000000
end Go.Proofs


namespace Go.Proofs
open Go Go.Sx
set_option maxRecDepth 100000
set_option maxHeartbeats 40000000
def FdQ (L : List Int) (n : Int) (i : Nat) : Prop := ∃ j, j < i ∧ L.getD j 0 = n
theorem FdQ.succ {L : List Int} {n : Int} {i : Nat} : FdQ L n (i + 1) ↔ FdQ L n i ∨ L.getD i 0 = n := by
  constructor
  · rintro ⟨j, h1, h2⟩
    rcases Nat.lt_or_eq_of_le (show j ≤ i by omega) with g | rfl
    · exact .inl ⟨j, g, h2⟩
    · exact .inr h2
  · rintro (⟨j, h1, h2⟩ | h)
    · exact ⟨j, by omega, h2⟩
    · exact ⟨i, by omega, h⟩
end Go.Proofs


namespace Go.Proofs
open Go Go.Sx
set_option maxRecDepth 100000
set_option maxHeartbeats 40000000
open Classical in
noncomputable def cansTo (x : Cache) (b j : Nat) : List Int := ((List.range j).map fun (i : Nat) => (i : Int) - 2).filter (fun n => decide (PosV x b n))
theorem exlt_succ {p : Nat → Prop} {i : Nat} : (∃ q, q < i + 1 ∧ p q) ↔ (∃ q, q < i ∧ p q) ∨ p i := by
  constructor
  · rintro ⟨q, h1, h2⟩
    rcases Nat.lt_or_eq_of_le (show q ≤ i by omega) with g | rfl
    · exact .inl ⟨q, g, h2⟩
    · exact .inr h2
  · rintro (⟨q, h1, h2⟩ | h)
    · exact ⟨q, by omega, h2⟩
    · exact ⟨i, by omega, h⟩
theorem cansTo_succ (x : Cache) (b j : Nat) : (PosV x b ((j : Int) - 2) → cansTo x b (j + 1) = cansTo x b j ++ [(j : Int) - 2]) ∧ (¬ PosV x b ((j : Int) - 2) → cansTo x b (j + 1) = cansTo x b j) := by
  unfold cansTo
  rw [List.range_succ, List.map_append, List.filter_append]
  constructor
  · intro h; simp [h]
  · intro h; simp [h]
theorem cansTo_len (x : Cache) (b j : Nat) : (cansTo x b j).length ≤ j := by
  unfold cansTo
  have := List.length_filter_le (fun n => @decide (PosV x b n) (Classical.propDecidable _)) ((List.range j).map fun (i : Nat) => (i : Int) - 2)
  simpa using this
theorem cansTo_all {x : Cache} (hx : x.Small) {b : Nat} (hb : b < 6) : cansTo x b (x.l.length + 2) = canL x b := by
  have h7 := hx.l
  have e9 : cansTo x b 9 = canL x b := rfl
  have step : ∀ m, m + (x.l.length + 2) ≤ 9 → cansTo x b (m + (x.l.length + 2)) = cansTo x b (x.l.length + 2) := by
    intro m
    induction m with
    | zero => intro _; rw [Nat.zero_add]
    | succ m ih =>
      intro hm
      rw [show m + 1 + (x.l.length + 2) = (m + (x.l.length + 2)) + 1 by omega, (cansTo_succ x b _).2, ih (by omega)]
      rintro ⟨c, h1, h2⟩
      rcases h1.holds hx.ok hb with h3 | h3 | ⟨q, h3, h4, _⟩ <;> omega
  rw [← e9, ← step (7 - x.l.length) (by omega)]
  congr 1
  omega
theorem Possible27 (x : Cache) (hl : x.l.length ≤ 1000000) (hs : x.chk = 0 → x.Small) (l : List Int) (hll : l.length ≤ 1000000) : PureC Try.prog 27 false [x.v, .sl 1 l.length (rowOf intC 0 l)] (PosR x l) := by
  refine pureC_of_exec Try.E_ok Try.func27 rfl (by kernel_rfl) ?_
  (repeat' ((conv => whnf); (first | (with_reducible first | apply spl | apply spl') <;> intro hc <;> try (exfalso; omega) | with_reducible refine iJ fun hc => ?_ | refine vcq (k := ?_) | fail))); all_goals ((try conv => whnf); try with_reducible exact trivial); (repeat' ((first | (refine callee_fo (Check37 x hl) rfl ?_; rintro _ rfl) | (refine pcall_intro (Check37 x hl) rfl ?_) | (refine pcall_soft (fun _ => Check37 x hl) rfl ?_)); (repeat' ((conv => whnf); (first | (with_reducible first | apply spl | apply spl') <;> intro hc <;> try (exfalso; omega) | with_reducible refine iJ fun hc => ?_ | refine vcq (k := ?_) | fail))); all_goals ((try conv => whnf); try with_reducible exact trivial)))
  · have h80 := chk80 hc
    refine ⟨_, .chk hc, ?_⟩
    rw [h80]
    (repeat' ((conv => whnf); (first | (with_reducible first | apply spl | apply spl') <;> intro hc <;> try (exfalso; omega) | with_reducible refine iJ fun hc => ?_ | refine vcq (k := ?_) | fail))); all_goals ((try conv => whnf); try with_reducible exact trivial)
  · have hk : x.chk = 0 := Classical.not_not.1 hc
    have hx := hs hk
    have hn := hx.ok.n
    have h3 := hx.n
    clear hc
    refine callee_fo (IsImage33 x hl l hll) rfl ?_
    rintro _ rfl
    (repeat' ((conv => whnf); (first | (with_reducible first | apply spl | apply spl') <;> intro hc <;> try (exfalso; omega) | with_reducible refine iJ fun hc => ?_ | refine vcq (k := ?_) | fail))); all_goals ((try conv => whnf); try with_reducible exact trivial)
    · refine ⟨_, .img hk hc, ?_⟩
      (repeat' ((conv => whnf); (first | (with_reducible first | apply spl | apply spl') <;> intro hc <;> try (exfalso; omega) | with_reducible refine iJ fun hc => ?_ | refine vcq (k := ?_) | fail))); all_goals ((try conv => whnf); try with_reducible exact trivial)
    · have himg : IsImg x l := Classical.not_not.1 hc
      have hln := himg.1
      refine callee_new (Images60 x hx l.length (by omega)) rfl ?_
      rintro _ _ ⟨Ms, hM, rfl, rfl⟩
      have hpos := hM.pos (l := l) rfl
      have hml := hM.len
      (repeat' ((conv => whnf); (first | (with_reducible first | apply spl | apply spl') <;> intro hc <;> try (exfalso; omega) | with_reducible refine iJ fun hc => ?_ | refine vcq (k := ?_) | fail))); all_goals ((try conv => whnf); try with_reducible exact trivial)
      refine callee_frame [1] (image61 l.length (by omega) Ms (by omega) (fun b => l.getD b 0) true) rfl ?_ ?_
      · (repeat' ((conv => whnf); (first | (with_reducible first | apply spl | apply spl') <;> intro hc <;> try (exfalso; omega) | with_reducible refine iJ fun hc => ?_ | refine vcq (k := ?_) | fail))); all_goals ((try conv => whnf); try with_reducible exact trivial)
      · rintro _ _ ⟨rfl, rfl⟩
        (repeat' ((conv => whnf); (first | (with_reducible first | apply spl | apply spl') <;> intro hc <;> try (exfalso; omega) | with_reducible refine iJ fun hc => ?_ | refine vcq (k := ?_) | fail))); all_goals ((try conv => whnf); try with_reducible exact trivial)
        refine ⟨_, .pos hk himg, ?_⟩
        (repeat' ((conv => whnf); (first | (with_reducible first | apply spl | apply spl') <;> intro hc <;> try (exfalso; omega) | with_reducible refine iJ fun hc => ?_ | refine vcq (k := ?_) | fail))); all_goals ((try conv => whnf); try with_reducible exact trivial)
        refine ⟨by rw [← hpos]; omega, ?_⟩
        (repeat' ((conv => whnf); (first | (with_reducible first | apply spl | apply spl') <;> intro hc <;> try (exfalso; omega) | with_reducible refine iJ fun hc => ?_ | refine vcq (k := ?_) | fail))); all_goals ((try conv => whnf); try with_reducible exact trivial)
theorem checkBlock59 (x : Cache) (hl : x.l.length ≤ 1000000) (b : Int) : PureC Try.prog 59 false [x.v, .int .i64 b] (fun r => x.chk ≠ 0 ∧ r = .int .i64 80 ∨ (x.chk = 0 ∧ ¬ (0 ≤ b ∧ b ≤ x.n - 1)) ∧ r = .int .i64 1 ∨ (x.chk = 0 ∧ 0 ≤ b ∧ b ≤ x.n - 1) ∧ r = .int .i64 0) := by
  refine pureC_of_exec Try.E_ok Try.func59 rfl (by kernel_rfl) ?_
  (repeat' ((conv => whnf); (first | (with_reducible first | apply spl | apply spl') <;> intro hc <;> try (exfalso; omega) | with_reducible refine iJ fun hc => ?_ | refine vcq (k := ?_) | fail))); all_goals ((try conv => whnf); try with_reducible exact trivial)
  refine callee_fo (Check37 x hl) rfl ?_
  rintro _ rfl
  by_cases hk : x.chk = 0
  rotate_left
  · (repeat' ((conv => whnf); (first | (with_reducible first | apply spl | apply spl') <;> intro hc <;> try (exfalso; omega) | with_reducible refine iJ fun hc => ?_ | refine vcq (k := ?_) | fail))); all_goals ((try conv => whnf); try with_reducible exact trivial)
    · refine ⟨_, .inl ⟨hk, rfl⟩, ?_⟩
      (repeat' ((conv => whnf); (first | (with_reducible first | apply spl | apply spl') <;> intro hc <;> try (exfalso; omega) | with_reducible refine iJ fun hc => ?_ | refine vcq (k := ?_) | fail))); all_goals ((try conv => whnf); try with_reducible exact trivial)
  · have hn := (Cache.chk_ok hk).n
    (repeat' ((conv => whnf); (first | (with_reducible first | apply spl | apply spl') <;> intro hc <;> try (exfalso; omega) | with_reducible refine iJ fun hc => ?_ | refine vcq (k := ?_) | fail))); all_goals ((try conv => whnf); try with_reducible exact trivial)
    refine callee_fo (within47 b 0 (x.n - 1)) rfl ?_
    rintro _ rfl
    (repeat' ((conv => whnf); (first | (with_reducible first | apply spl | apply spl') <;> intro hc <;> try (exfalso; omega) | with_reducible refine iJ fun hc => ?_ | refine vcq (k := ?_) | fail))); all_goals ((try conv => whnf); try with_reducible exact trivial)
    · refine ⟨_, .inr (.inl ⟨⟨hk, hc⟩, rfl⟩), ?_⟩
      (repeat' ((conv => whnf); (first | (with_reducible first | apply spl | apply spl') <;> intro hc <;> try (exfalso; omega) | with_reducible refine iJ fun hc => ?_ | refine vcq (k := ?_) | fail))); all_goals ((try conv => whnf); try with_reducible exact trivial)
    · refine ⟨_, .inr (.inr ⟨⟨hk, Classical.not_not.1 hc⟩, rfl⟩), ?_⟩
      (repeat' ((conv => whnf); (first | (with_reducible first | apply spl | apply spl') <;> intro hc <;> try (exfalso; omega) | with_reducible refine iJ fun hc => ?_ | refine vcq (k := ?_) | fail))); all_goals ((try conv => whnf); try with_reducible exact trivial)
theorem Can26 (x : Cache) (hl : x.l.length ≤ 1000000) (hs : x.chk = 0 → x.Small) (b : Int) : PureC Try.prog 26 false [x.v, .int .i64 b] (· = .tup (canV x b)) := by
  refine pureC_of_exec Try.E_ok Try.func26 rfl (by kernel_rfl) ?_
  unfold canV
  (repeat' ((conv => whnf); (first | (with_reducible first | apply spl | apply spl') <;> intro hc <;> try (exfalso; omega) | with_reducible refine iJ fun hc => ?_ | refine vcq (k := ?_) | fail))); all_goals ((try conv => whnf); try with_reducible exact trivial)
  refine callee_fo (checkBlock59 x hl b) rfl ?_
  rintro _ (⟨hk, rfl⟩ | ⟨⟨hk, hb⟩, rfl⟩ | ⟨⟨hk, hb⟩, rfl⟩)
  · rw [if_neg hk, chk80 hk]
    (repeat' ((conv => whnf); (first | (with_reducible first | apply spl | apply spl') <;> intro hc <;> try (exfalso; omega) | with_reducible refine iJ fun hc => ?_ | refine vcq (k := ?_) | fail))); all_goals ((try conv => whnf); try with_reducible exact trivial)
    refine ⟨_, rfl, ?_⟩
    (repeat' ((conv => whnf); (first | (with_reducible first | apply spl | apply spl') <;> intro hc <;> try (exfalso; omega) | with_reducible refine iJ fun hc => ?_ | refine vcq (k := ?_) | fail))); all_goals ((try conv => whnf); try with_reducible exact trivial)
  · rw [if_pos hk, if_neg hb]
    (repeat' ((conv => whnf); (first | (with_reducible first | apply spl | apply spl') <;> intro hc <;> try (exfalso; omega) | with_reducible refine iJ fun hc => ?_ | refine vcq (k := ?_) | fail))); all_goals ((try conv => whnf); try with_reducible exact trivial)
    refine ⟨_, rfl, ?_⟩
    (repeat' ((conv => whnf); (first | (with_reducible first | apply spl | apply spl') <;> intro hc <;> try (exfalso; omega) | with_reducible refine iJ fun hc => ?_ | refine vcq (k := ?_) | fail))); all_goals ((try conv => whnf); try with_reducible exact trivial)
  · rw [if_pos hk, if_pos hb]
    have hx := hs hk
    have hn := hx.ok.n
    have h3 := hx.n
    have h7 := hx.l
    obtain ⟨b, rfl⟩ : ∃ b' : Nat, b = b' := ⟨b.toNat, by omega⟩
    have htb : (b : Int).toNat = b := Int.toNat_natCast b
    rw [htb]
    have hnn : x.n = x.n.toNat := by omega
    have hbn : b < x.n.toNat := by omega
    (repeat' ((conv => whnf); (first | (with_reducible first | apply spl | apply spl') <;> intro hc <;> try (exfalso; omega) | with_reducible refine iJ fun hc => ?_ | refine vcq (k := ?_) | fail))); all_goals ((try conv => whnf); try with_reducible exact trivial)
    refine callee_new (Images60 x hx x.n.toNat hnn) rfl ?_
    rintro _ _ ⟨Ms, hM, rfl, rfl⟩
    have hml := hM.len
    (repeat' ((conv => whnf); (first | (with_reducible first | apply spl | apply spl') <;> intro hc <;> try (exfalso; omega) | with_reducible refine iJ fun hc => ?_ | refine vcq (k := ?_) | fail))); all_goals ((try conv => whnf); try with_reducible exact trivial)
    refine ⟨Nat × List Int, fun q => q.1 ≤ x.l.length + 2 ∧ q.2 = cansTo x b q.1, fun q => x.l.length + 2 - q.1, fun q => [(9, .int .i64 ((q.1 : Int) - 2)), (8, .osl 2 q.2.length)], fun _ => [], fun q => [.row 3 1 q.2.length (rowOf intC 0 q.2) true], (0, []), ⟨⟨by dsimp only; omega, rfl⟩, some [some 0, some 1, none], ?_⟩, ?_⟩
    · (repeat' ((conv => whnf); (first | (with_reducible first | apply spl | apply spl') <;> intro hc <;> try (exfalso; omega) | with_reducible refine iJ fun hc => ?_ | refine vcq (k := ?_) | fail))); all_goals ((try conv => whnf); try with_reducible exact trivial)
    · rintro ⟨j, l⟩ ⟨hj, hlq⟩
      dsimp only at hj hlq
      have hcl := cansTo_len x b j
      rw [← hlq] at hcl
      (repeat' ((conv => whnf); (first | (with_reducible first | apply spl | apply spl') <;> intro hc <;> try (exfalso; omega) | with_reducible refine iJ fun hc => ?_ | refine vcq (k := ?_) | fail))); all_goals ((try conv => whnf); try with_reducible exact trivial)
      · have hj1 : j < x.l.length + 2 := by dsimp only at hc; omega
        have hv := hM.val hbn ((j : Int) - 2)
        have hsu := cansTo_succ x b j
        refine ⟨Nat, fun i => i ≤ Ms.length, fun i => Ms.length - i, fun i => [(11, .int .i64 (i : Nat)), (10, .prop (∃ q, q < i ∧ Ms.getD q (fun _ => 0) b = (j : Int) - 2) (Classical.propDecidable _))], fun _ => [], fun _ => [], 0, ⟨by omega, none, ?_⟩, ?_⟩
        · (repeat' ((conv => whnf); (first | (with_reducible first | apply spl | apply spl') <;> intro hc <;> try (exfalso; omega) | with_reducible refine iJ fun hc => ?_ | refine vcq (k := ?_) | fail))); all_goals ((try conv => whnf); try with_reducible exact trivial)
        · intro i hi
          have hi : i ≤ Ms.length := hi
          have hti : (i : Int).toNat = i := Int.toNat_natCast i
          (repeat' ((conv => whnf); (first | (with_reducible first | apply spl | apply spl') <;> intro hc <;> try (exfalso; omega) | with_reducible refine iJ fun hc => ?_ | refine vcq (k := ?_) | fail))); all_goals ((try conv => whnf); try with_reducible exact trivial)
          · have hi1 : i < Ms.length := by omega
            refine ⟨i + 1, ⟨by omega, by dsimp only; omega⟩, none, ?_⟩
            (repeat' ((conv => whnf); (first | (with_reducible first | apply spl | apply spl') <;> intro hc <;> try (exfalso; omega) | with_reducible refine iJ fun hc => ?_ | refine vcq (k := ?_) | fail))); all_goals ((try conv => whnf); try with_reducible exact trivial)
            refine ⟨by rw [hti, htb]; exact exlt_succ.symm, ?_⟩
            (repeat' ((conv => whnf); (first | (with_reducible first | apply spl | apply spl') <;> intro hc <;> try (exfalso; omega) | with_reducible refine iJ fun hc => ?_ | refine vcq (k := ?_) | fail))); all_goals ((try conv => whnf); try with_reducible exact trivial)
          · have hie : i = Ms.length := by have := (show ¬ ((i : Int) < Ms.length) from by assumption); omega
            subst hie
            have hp : PosV x b ((j : Int) - 2) := hv.2 hc
            refine ⟨(j + 1, l ++ [(j : Int) - 2]), ⟨⟨by dsimp only; omega, by dsimp only; rw [hsu.1 hp, hlq]⟩, by dsimp only; omega⟩, some [some 0, some 1, some 4], ?_⟩
            (repeat' ((conv => whnf); (first | (with_reducible first | apply spl | apply spl') <;> intro hc <;> try (exfalso; omega) | with_reducible refine iJ fun hc => ?_ | refine vcq (k := ?_) | fail))); all_goals ((try conv => whnf); try with_reducible exact trivial)
            refine ⟨by simp, ?_⟩
            (repeat' ((conv => whnf); (first | (with_reducible first | apply spl | apply spl') <;> intro hc <;> try (exfalso; omega) | with_reducible refine iJ fun hc => ?_ | refine vcq (k := ?_) | fail))); all_goals ((try conv => whnf); try with_reducible exact trivial)
            refine ⟨by simp, rowOf_snoc (c := intC) (a := (j : Int) - 2) (l := l) rfl (fun _ _ => rfl), ?_⟩
            (repeat' ((conv => whnf); (first | (with_reducible first | apply spl | apply spl') <;> intro hc <;> try (exfalso; omega) | with_reducible refine iJ fun hc => ?_ | refine vcq (k := ?_) | fail))); all_goals ((try conv => whnf); try with_reducible exact trivial)
          · have hie : i = Ms.length := by have := (show ¬ ((i : Int) < Ms.length) from by assumption); omega
            subst hie
            have hp : ¬ PosV x b ((j : Int) - 2) := fun g => hc (hv.1 g)
            refine ⟨(j + 1, l), ⟨⟨by dsimp only; omega, by dsimp only; rw [hsu.2 hp, hlq]⟩, by dsimp only; omega⟩, some [some 0, some 1, some 2], ?_⟩
            (repeat' ((conv => whnf); (first | (with_reducible first | apply spl | apply spl') <;> intro hc <;> try (exfalso; omega) | with_reducible refine iJ fun hc => ?_ | refine vcq (k := ?_) | fail))); all_goals ((try conv => whnf); try with_reducible exact trivial)
      · have hje : j = x.l.length + 2 := by dsimp only at hc; omega
        subst hje
        rw [cansTo_all hx (by omega)] at hlq
        subst hlq
        refine ⟨_, rfl, ?_⟩
        (repeat' ((conv => whnf); (first | (with_reducible first | apply spl | apply spl') <;> intro hc <;> try (exfalso; omega) | with_reducible refine iJ fun hc => ?_ | refine vcq (k := ?_) | fail))); all_goals ((try conv => whnf); try with_reducible exact trivial)
theorem Sure29 (x : Cache) (hl : x.l.length ≤ 1000000) (hs : x.chk = 0 → x.Small) : PureC Try.prog 29 false [x.v] (fun r => (x.chk = 0 → r = .tup [.sl 1 (sureL x x.l.length).length (rowOf intC 0 (sureL x x.l.length)), .int .i64 0]) ∧ (x.chk ≠ 0 → r = .tup [.lit (.slice none 0 0), .int .i64 x.chk])) := by
  refine pureC_of_exec Try.E_ok Try.func29 rfl (by kernel_rfl) ?_
  (repeat' ((conv => whnf); (first | (with_reducible first | apply spl | apply spl') <;> intro hc <;> try (exfalso; omega) | with_reducible refine iJ fun hc => ?_ | refine vcq (k := ?_) | fail))); all_goals ((try conv => whnf); try with_reducible exact trivial); (repeat' ((first | (refine callee_fo (Check37 x hl) rfl ?_; rintro _ rfl) | (refine pcall_intro (Check37 x hl) rfl ?_) | (refine pcall_soft (fun _ => Check37 x hl) rfl ?_)); (repeat' ((conv => whnf); (first | (with_reducible first | apply spl | apply spl') <;> intro hc <;> try (exfalso; omega) | with_reducible refine iJ fun hc => ?_ | refine vcq (k := ?_) | fail))); all_goals ((try conv => whnf); try with_reducible exact trivial)))
  · have hk : x.chk ≠ 0 := hc
    refine ⟨_, ⟨fun h => absurd h hk, fun _ => rfl⟩, ?_⟩
    rw [chk80 hk]
    (repeat' ((conv => whnf); (first | (with_reducible first | apply spl | apply spl') <;> intro hc <;> try (exfalso; omega) | with_reducible refine iJ fun hc => ?_ | refine vcq (k := ?_) | fail))); all_goals ((try conv => whnf); try with_reducible exact trivial)
  · have hk := Classical.not_not.1 hc
    have hx := hs hk
    have hn := hx.ok.n
    have h3 := hx.n
    have h7 := hx.l
    have hnn : x.n = x.n.toNat := by omega
    clear hc
    refine callee_new (Images60 x hx x.n.toNat hnn) rfl ?_
    rintro _ _ ⟨Ms, hM, rfl, rfl⟩
    have hml := hM.len
    (repeat' ((conv => whnf); (first | (with_reducible first | apply spl | apply spl') <;> intro hc <;> try (exfalso; omega) | with_reducible refine iJ fun hc => ?_ | refine vcq (k := ?_) | fail))); all_goals ((try conv => whnf); try with_reducible exact trivial)
    refine ⟨Nat × List Int, fun q => q.1 ≤ x.l.length ∧ q.2 = sureL x q.1, fun q => x.l.length - q.1, fun q => [(6, .int .i64 (q.1 : Nat)), (5, .osl 2 q.2.length)], fun _ => [], fun q => [.row 3 1 q.2.length (rowOf intC 0 q.2) true], (0, []), ⟨⟨by dsimp only; omega, rfl⟩, some [some 0, some 1, none], ?_⟩, ?_⟩
    · (repeat' ((conv => whnf); (first | (with_reducible first | apply spl | apply spl') <;> intro hc <;> try (exfalso; omega) | with_reducible refine iJ fun hc => ?_ | refine vcq (k := ?_) | fail))); all_goals ((try conv => whnf); try with_reducible exact trivial)
    · rintro ⟨i, l⟩ ⟨hi, hlq⟩
      dsimp only at hi hlq
      have hsl := sureL_len x i
      rw [← hlq] at hsl
      have hti : (i : Int).toNat = i := Int.toNat_natCast i
      (repeat' ((conv => whnf); (first | (with_reducible first | apply spl | apply spl') <;> intro hc <;> try (exfalso; omega) | with_reducible refine iJ fun hc => ?_ | refine vcq (k := ?_) | fail))); all_goals ((try conv => whnf); try with_reducible exact trivial)
      · have hi1 : i < x.l.length := by dsimp only at hc; omega
        have hblk := hx.ok.blkn (n := x.n.toNat) hnn hi1
        have hsu := sureL_succ x i
        refine callee_fo (puts35 (x.l.getD (i : Int).toNat (0, 0))) rfl ?_
        rintro _ rfl
        rw [hti]
        (repeat' ((conv => whnf); (first | (with_reducible first | apply spl | apply spl') <;> intro hc <;> try (exfalso; omega) | with_reducible refine iJ fun hc => ?_ | refine vcq (k := ?_) | fail))); all_goals ((try conv => whnf); try with_reducible exact trivial)
        have hbl : (x.l.getD i (0, 0)).1 = 1 ∨ (x.l.getD i (0, 0)).1 = 2 → (x.l.getD i (0, 0)).2.toNat < x.n.toNat := fun g => by have := hblk g; omega
        have hsp : sureP x i ↔ ((x.l.getD i (0, 0)).1 = 1 ∨ (x.l.getD i (0, 0)).1 = 2) ∧ ∀ j, j < Ms.length → Ms.getD j (fun _ => 0) (x.l.getD i (0, 0)).2.toNat = -2 ∨ (i : Int) ≤ Ms.getD j (fun _ => 0) (x.l.getD i (0, 0)).2.toNat :=
          ⟨fun h => ⟨h.1, (hM.sure (hbl h.1)).1 h.2⟩, fun h => ⟨h.1, (hM.sure (hbl h.1)).2 h.2⟩⟩
        refine ⟨Nat × Bool, fun q => q.1 ≤ Ms.length ∧ (q.2 = true ↔ ((x.l.getD i (0, 0)).1 = 1 ∨ (x.l.getD i (0, 0)).1 = 2) ∧ ∀ j, j < q.1 → Ms.getD j (fun _ => 0) (x.l.getD i (0, 0)).2.toNat = -2 ∨ (i : Int) ≤ Ms.getD j (fun _ => 0) (x.l.getD i (0, 0)).2.toNat), fun q => Ms.length - q.1, fun q => [(8, .int .i64 (q.1 : Nat)), (7, .prop (q.2 = true) inferInstance), (39, .any), (44, .any), (45, .any), (47, .any)], fun _ => [], fun _ => [], (0, decide ((x.l.getD i (0, 0)).1 = 1 ∨ (x.l.getD i (0, 0)).1 = 2)), ⟨⟨by dsimp only; omega, by simp⟩, none, ?_⟩, ?_⟩
        · (repeat' ((conv => whnf); (first | (with_reducible first | apply spl | apply spl') <;> intro hc <;> try (exfalso; omega) | with_reducible refine iJ fun hc => ?_ | refine vcq (k := ?_) | fail))); all_goals ((try conv => whnf); try with_reducible exact trivial)
          refine ⟨by simp, ?_⟩
          (repeat' ((conv => whnf); (first | (with_reducible first | apply spl | apply spl') <;> intro hc <;> try (exfalso; omega) | with_reducible refine iJ fun hc => ?_ | refine vcq (k := ?_) | fail))); all_goals ((try conv => whnf); try with_reducible exact trivial)
        · rintro ⟨j, f⟩ ⟨hj, hf⟩
          dsimp only at hj hf
          have htj : (j : Int).toNat = j := Int.toNat_natCast j
          (repeat' ((conv => whnf); (first | (with_reducible first | apply spl | apply spl') <;> intro hc <;> try (exfalso; omega) | with_reducible refine iJ fun hc => ?_ | refine vcq (k := ?_) | refine dr 13 (k := ?_)))); all_goals ((try conv => whnf); try with_reducible exact trivial)
          · have hcc : (j : Int) < Ms.length ∧ f = true := hc
            obtain ⟨hp, hall⟩ := hf.1 hcc.2
            have hbk := hblk hp
            refine ⟨⟨hbk.1, by have := hbk.2; exact this⟩, ?_⟩
            (repeat' ((conv => whnf); (first | (with_reducible first | apply spl | apply spl') <;> intro hc <;> try (exfalso; omega) | with_reducible refine iJ fun hc => ?_ | refine vcq (k := ?_) | refine dr 13 (k := ?_)))); all_goals ((try conv => whnf); try with_reducible exact trivial)
            refine ⟨(j + 1, @decide (Ms.getD j (fun _ => 0) (x.l.getD i (0, 0)).2.toNat = -2 ∨ (i : Int) ≤ Ms.getD j (fun _ => 0) (x.l.getD i (0, 0)).2.toNat) inferInstance), ⟨⟨by dsimp only; omega, ?_⟩, by dsimp only; omega⟩, none, ?_⟩
            · dsimp only
              rw [decide_eq_true_iff]
              constructor
              · intro g
                refine ⟨hp, fun q hq => ?_⟩
                rcases Nat.lt_or_eq_of_le (show q ≤ j by omega) with h | rfl
                · exact hall q h
                · exact g
              · intro g
                exact g.2 j (by omega)
            · (repeat' ((conv => whnf); (first | (with_reducible first | apply spl | apply spl') <;> intro hc <;> try (exfalso; omega) | with_reducible refine iJ fun hc => ?_ | refine vcq (k := ?_) | fail))); all_goals ((try conv => whnf); try with_reducible exact trivial)
              refine ⟨by rw [decide_eq_true_iff, htj]; exact Iff.rfl, ?_⟩
              (repeat' ((conv => whnf); (first | (with_reducible first | apply spl | apply spl') <;> intro hc <;> try (exfalso; omega) | with_reducible refine iJ fun hc => ?_ | refine vcq (k := ?_) | fail))); all_goals ((try conv => whnf); try with_reducible exact trivial)
          · have hft : f = true := by assumption
            have hno := (show ¬ ((j : Int) < Ms.length ∧ f = true) from by assumption)
            have hge : ¬ ((j : Int) < Ms.length) := fun g => hno ⟨g, hft⟩
            have hje : j = Ms.length := by omega
            subst hje
            have hp : sureP x i := hsp.2 (hf.1 hft)
            refine ⟨(i + 1, l ++ [(i : Int)]), ⟨⟨by dsimp only; omega, by dsimp only; rw [hsu.1 hp, hlq]⟩, by dsimp only; omega⟩, some [some 0, some 1, some 4], ?_⟩
            (repeat' ((conv => whnf); (first | (with_reducible first | apply spl | apply spl') <;> intro hc <;> try (exfalso; omega) | with_reducible refine iJ fun hc => ?_ | refine vcq (k := ?_) | fail))); all_goals ((try conv => whnf); try with_reducible exact trivial)
            refine ⟨by simp, ?_⟩
            (repeat' ((conv => whnf); (first | (with_reducible first | apply spl | apply spl') <;> intro hc <;> try (exfalso; omega) | with_reducible refine iJ fun hc => ?_ | refine vcq (k := ?_) | fail))); all_goals ((try conv => whnf); try with_reducible exact trivial)
            refine ⟨by simp, rowOf_snoc (c := intC) (a := (i : Int)) (l := l) rfl (fun _ _ => rfl), ?_⟩
            (repeat' ((conv => whnf); (first | (with_reducible first | apply spl | apply spl') <;> intro hc <;> try (exfalso; omega) | with_reducible refine iJ fun hc => ?_ | refine vcq (k := ?_) | fail))); all_goals ((try conv => whnf); try with_reducible exact trivial)
          · have hft : ¬ f = true := by assumption
            have hp : ¬ sureP x i := fun g => hft (hf.2 ⟨(hsp.1 g).1, fun q hq => (hsp.1 g).2 q (by omega)⟩)
            refine ⟨(i + 1, l), ⟨⟨by dsimp only; omega, by dsimp only; rw [hsu.2 hp, hlq]⟩, by dsimp only; omega⟩, some [some 0, some 1, some 2], ?_⟩
            (repeat' ((conv => whnf); (first | (with_reducible first | apply spl | apply spl') <;> intro hc <;> try (exfalso; omega) | with_reducible refine iJ fun hc => ?_ | refine vcq (k := ?_) | fail))); all_goals ((try conv => whnf); try with_reducible exact trivial)
      · have hie : i = x.l.length := by dsimp only at hc; omega
        subst hie
        rw [← hlq]
        refine ⟨_, ⟨fun _ => rfl, fun h => absurd hk h⟩, ?_⟩
        (repeat' ((conv => whnf); (first | (with_reducible first | apply spl | apply spl') <;> intro hc <;> try (exfalso; omega) | with_reducible refine iJ fun hc => ?_ | refine vcq (k := ?_) | fail))); all_goals ((try conv => whnf); try with_reducible exact trivial)
end Go.Proofs


namespace Go.Proofs
open Go Go.Sx
set_option maxRecDepth 100000
set_option maxHeartbeats 40000000
theorem pureWk {P : Program} {g : FuncId} {keep : Bool} {args : List V} {R R' : V → Prop} (h : PureC P g keep args R) (hr : ∀ r, R r → ∃ r', R' r' ∧ ∀ I w v, Den I [] w r v → Den I [] w r' v) : PureC P g keep args R' :=
  ⟨h.1, fun I w vals hI hd => (h.2 I w vals hI hd).mono fun _ _ ⟨_, v, h1, h2, h3, h4⟩ => let ⟨r', g1, g2⟩ := hr _ h2; ⟨r', v, h1, g1, g2 _ _ _ h3, h4⟩⟩
theorem den_nil {I : Nat → Prop} {w : World} {v : Value} {sz : Nat} {f : Nat → List V} {e : Int} (h : Den I [] w (.tup [.lit (.slice none 0 0), .int .i64 e]) v) : Den I [] w (.tup [.sl sz 0 f, .int .i64 e]) v := by
  obtain ⟨vs, rfl, v1, r1, rfl, h1, h2⟩ := h
  have h1 : v1 = .slice none 0 0 := h1
  exact ⟨_, rfl, v1, r1, rfl, .inl ⟨rfl, none, 0, h1⟩, h2⟩
theorem can_w (x : Cache) (b : Int) : ∃ (L : List Int) (e : Int), L.length ≤ 9 ∧ ∀ g args, PureC Try.prog g false args (· = .tup (canV x b)) → PureC Try.prog g false args (· = .tup [.sl 1 L.length (rowOf intC 0 L), .int .i64 e]) := by
  unfold canV
  split
  · split
    · exact ⟨_, 0, canL_len x _, fun _ _ h => h⟩
    · exact ⟨[], 1, by simp, fun _ _ h => pureWk h fun r hr => ⟨_, rfl, fun _ _ _ hd => by subst hr; exact den_nil hd⟩⟩
  · exact ⟨[], x.chk, by simp, fun _ _ h => pureWk h fun r hr => ⟨_, rfl, fun _ _ _ hd => by subst hr; exact den_nil hd⟩⟩
theorem sure_w (x : Cache) : ∃ (L : List Int) (e : Int), L.length ≤ x.l.length ∧ ∀ g args, PureC Try.prog g false args (fun r => (x.chk = 0 → r = .tup [.sl 1 (sureL x x.l.length).length (rowOf intC 0 (sureL x x.l.length)), .int .i64 0]) ∧ (x.chk ≠ 0 → r = .tup [.lit (.slice none 0 0), .int .i64 x.chk])) → PureC Try.prog g false args (· = .tup [.sl 1 L.length (rowOf intC 0 L), .int .i64 e]) := by
  by_cases hk : x.chk = 0
  · exact ⟨_, 0, sureL_len x _, fun _ _ h => h.mono fun r hr => hr.1 hk⟩
  · exact ⟨[], x.chk, by simp, fun _ _ h => pureWk h fun r hr => ⟨_, rfl, fun _ _ _ hd => by rw [hr.2 hk] at hd; exact den_nil hd⟩⟩
theorem pos_w (x : Cache) (l : List Int) : ∃ (p : Prop) (e : Int), ∀ g args, PureC Try.prog g false args (PosR x l) → PureC Try.prog g false args (· = .tup [.prop p (Classical.propDecidable p), .int .i64 e]) := by
  have hF : ∀ e, Sx.V.tup [.prop False inferInstance, .int .i64 e] = .tup [.prop False (Classical.propDecidable False), .int .i64 e] := fun e => by
    rw [show (inferInstance : Decidable False) = Classical.propDecidable False from Subsingleton.elim _ _]
  by_cases hk : x.chk = 0
  · by_cases hi : IsImg x l
    · refine ⟨IsPos x l, 0, fun g a h => h.mono fun r hr => ?_⟩
      cases hr with
      | chk h => exact absurd hk h
      | img _ h => exact absurd hi h
      | pos => rfl
    · refine ⟨False, 81, fun g a h => h.mono fun r hr => ?_⟩
      cases hr with
      | chk h => exact absurd hk h
      | img => exact hF _
      | pos _ h => exact absurd h hi
  · refine ⟨False, x.chk, fun g a h => h.mono fun r hr => ?_⟩
    cases hr with
    | chk => exact hF _
    | img h => exact absurd h hk
    | pos h => exact absurd h hk
theorem sameSelf (L : List Int) (h : L.length ≤ 1000000) : PureC Try.prog 30 false [.sl 1 L.length (rowOf intC 0 L), .sl 1 L.length (rowOf intC 0 L)] (· = .prop True inferInstance) := by
  have h1 := sameInts30 L.length L.length h h (fun b => L.getD b 0) (fun b => L.getD b 0)
  have e : (L.length = L.length ∧ ∀ b, b < L.length → L.getD b 0 = L.getD b 0) = True := eq_true ⟨rfl, fun _ _ => rfl⟩
  rw [e] at h1
  rw [show (inferInstance : Decidable True) = Classical.propDecidable True from Subsingleton.elim _ _]
  exact h1
theorem Cans5 (x : Cache) (hl : x.l.length ≤ 9223372036854775807) (b : Int) (l : List Int) (hll : l.length ≤ 9223372036854775807) : PureC Try.prog 5 false [x.v, .int .i64 b, .sl 1 l.length (rowOf intC 0 l)] (· = .prop True inferInstance) := by
  refine pureC_of_exec Try.E_ok Try.func5 rfl (by kernel_rfl) ?_
  (repeat' ((conv => whnf); (first | (with_reducible first | apply spl | apply spl') <;> intro hc <;> try (exfalso; omega) | with_reducible refine iJ fun hc => ?_ | refine vcq (k := ?_) | refine dr 80807072003 (k := ?_)))); all_goals ((try conv => whnf); try with_reducible exact trivial); (repeat' ((first | (refine callee_fo (Far23 x hl) rfl ?_; rintro _ rfl) | (refine pcall_intro (Far23 x hl) rfl ?_) | (refine pcall_soft (fun _ => Far23 x hl) rfl ?_) | (refine callee_fo (works13) rfl ?_; rintro _ rfl) | (refine pcall_intro (works13) rfl ?_) | (refine pcall_soft (fun _ => works13) rfl ?_)); (repeat' ((conv => whnf); (first | (with_reducible first | apply spl | apply spl') <;> intro hc <;> try (exfalso; omega) | with_reducible refine iJ fun hc => ?_ | refine vcq (k := ?_) | refine dr 80807072003 (k := ?_)))); all_goals ((try conv => whnf); try with_reducible exact trivial)))
  · refine ⟨_, rfl, ?_⟩
    (repeat' ((conv => whnf); (first | (with_reducible first | apply spl | apply spl') <;> intro hc <;> try (exfalso; omega) | with_reducible refine iJ fun hc => ?_ | refine vcq (k := ?_) | refine dr 80807072003 (k := ?_)))); all_goals ((try conv => whnf); try with_reducible exact trivial)
  · have h40 : x.l.length ≤ 40 := Classical.byContradiction fun g => hc (.inl (.inl (by omega)))
    have hl40 : l.length ≤ 40 := Classical.byContradiction fun g => hc (.inr (by omega))
    have hfar : ¬ x.far := fun g => hc (.inl g)
    have hs : x.chk = 0 → x.Small := fun h => Cache.valid ⟨hfar, h⟩
    clear hc
    obtain ⟨L, e, hL, hcan⟩ := can_w x b
    obtain ⟨p, e2, hpos⟩ := pos_w x l
    obtain ⟨L2, e3, hL2, hsure⟩ := sure_w x
    refine callee_fo (Copy24p x (by omega)) rfl ?_
    rintro _ rfl
    (repeat' ((conv => whnf); (first | (with_reducible first | apply spl | apply spl') <;> intro hc <;> try (exfalso; omega) | with_reducible refine iJ fun hc => ?_ | refine vcq (k := ?_) | refine dr 80807072003 (k := ?_)))); all_goals ((try conv => whnf); try with_reducible exact trivial)
    refine callee_fo (hcan _ _ (Can25 x (by omega) hs b)) rfl ?_
    rintro _ rfl
    (repeat' ((conv => whnf); (first | (with_reducible first | apply spl | apply spl') <;> intro hc <;> try (exfalso; omega) | with_reducible refine iJ fun hc => ?_ | refine vcq (k := ?_) | refine dr 80807072003 (k := ?_)))); all_goals ((try conv => whnf); try with_reducible exact trivial)
    refine callee_fo (hcan _ _ (Can26 x (by omega) hs b)) rfl ?_
    rintro _ rfl
    (repeat' ((conv => whnf); (first | (with_reducible first | apply spl | apply spl') <;> intro hc <;> try (exfalso; omega) | with_reducible refine iJ fun hc => ?_ | refine vcq (k := ?_) | refine dr 80807072003 (k := ?_)))); all_goals ((try conv => whnf); try with_reducible exact trivial)
    refine callee_view (hpos _ _ (Possible21 x (by omega) hs l (by omega))) ?_
    (repeat' ((conv => whnf); (first | (with_reducible first | apply spl | apply spl') <;> intro hc <;> try (exfalso; omega) | with_reducible refine iJ fun hc => ?_ | refine vcq (k := ?_) | refine dr 80807072003 (k := ?_)))); all_goals ((try conv => whnf); try with_reducible exact trivial)
    rintro _ rfl
    (repeat' ((conv => whnf); (first | (with_reducible first | apply spl | apply spl') <;> intro hc <;> try (exfalso; omega) | with_reducible refine iJ fun hc => ?_ | refine vcq (k := ?_) | refine dr 80807072003 (k := ?_)))); all_goals ((try conv => whnf); try with_reducible exact trivial)
    refine callee_fo (hpos _ _ (Possible27 x (by omega) hs l (by omega))) rfl ?_
    rintro _ rfl
    (repeat' ((conv => whnf); (first | (with_reducible first | apply spl | apply spl') <;> intro hc <;> try (exfalso; omega) | with_reducible refine iJ fun hc => ?_ | refine vcq (k := ?_) | refine dr 80807072003 (k := ?_)))); all_goals ((try conv => whnf); try with_reducible exact trivial)
    refine callee_fo (hsure _ _ (Sure28 x (by omega) hs)) rfl ?_
    rintro _ rfl
    (repeat' ((conv => whnf); (first | (with_reducible first | apply spl | apply spl') <;> intro hc <;> try (exfalso; omega) | with_reducible refine iJ fun hc => ?_ | refine vcq (k := ?_) | refine dr 80807072003 (k := ?_)))); all_goals ((try conv => whnf); try with_reducible exact trivial)
    refine callee_fo (hsure _ _ (Sure29 x (by omega) hs)) rfl ?_
    rintro _ rfl
    (repeat' ((conv => whnf); (first | (with_reducible first | apply spl | apply spl') <;> intro hc <;> try (exfalso; omega) | with_reducible refine iJ fun hc => ?_ | refine vcq (k := ?_) | refine dr 80807072003 (k := ?_)))); all_goals ((try conv => whnf); try with_reducible exact trivial)
    refine callee_fo (sameSelf L (by omega)) rfl ?_
    rintro _ rfl
    (repeat' ((conv => whnf); (first | (with_reducible first | apply spl | apply spl') <;> intro hc <;> try (exfalso; omega) | with_reducible refine iJ fun hc => ?_ | refine vcq (k := ?_) | refine dr 80807072003 (k := ?_)))); all_goals ((try conv => whnf); try with_reducible exact trivial)
    · refine callee_fo (sameSelf L2 (by omega)) rfl ?_
      rintro _ rfl
      (repeat' ((conv => whnf); (first | (with_reducible first | apply spl | apply spl') <;> intro hc <;> try (exfalso; omega) | with_reducible refine iJ fun hc => ?_ | refine vcq (k := ?_) | refine dr 80807072003 (k := ?_)))); all_goals ((try conv => whnf); try with_reducible exact trivial)
      · refine callee_fo works13 rfl ?_
        rintro _ rfl
        (repeat' ((conv => whnf); (first | (with_reducible first | apply spl | apply spl') <;> intro hc <;> try (exfalso; omega) | with_reducible refine iJ fun hc => ?_ | refine vcq (k := ?_) | refine dr 80807072003 (k := ?_)))); all_goals ((try conv => whnf); try with_reducible exact trivial)
        refine ⟨_, rfl, ?_⟩
        (repeat' ((conv => whnf); (first | (with_reducible first | apply spl | apply spl') <;> intro hc <;> try (exfalso; omega) | with_reducible refine iJ fun hc => ?_ | refine vcq (k := ?_) | refine dr 80807072003 (k := ?_)))); all_goals ((try conv => whnf); try with_reducible exact trivial)
      · exact absurd ⟨trivial, rfl⟩ hc
    · exact absurd ⟨⟨⟨trivial, rfl⟩, Iff.rfl⟩, rfl⟩ hc
end Go.Proofs


namespace Go.Proofs
open Go Go.Sx
set_option maxRecDepth 100000
set_option maxHeartbeats 40000000
end Go.Proofs

