/- Own work: texts of the proof of a law (CaC13). No condition. -/
import Derived.Test.YtmjaflgakiembaaGround16
namespace Go.Proofs
open Go Go.Sx
set_option maxRecDepth 100000
set_option maxHeartbeats 4000000
namespace PS
theorem from_size (l : List (Int × Int)) (s : PS) (i : Nat) (h : 0 < s.E.length ∧ s.E.length ≤ i + 1 ∧ 0 ≤ s.W) : ∀ m, i + m ≤ 16 → 0 < (PS.from l s i m).E.length ∧ (PS.from l s i m).E.length ≤ i + m + 1 ∧ s.W ≤ (PS.from l s i m).W ∧ (PS.from l s i m).W ≤ s.W + 103 * m
  | 0, _ => by simp only [PS.from]; omega
  | m + 1, hm => by
    have h1 := from_size l s i h m (by omega)
    have h2 := order_size (PS.from l s i m) h1.1 (i + m : Nat) (l.getD (i + m) (0, 0))
    simp only [PS.from]
    omega
theorem drain_size (s : PS) (h : 0 < s.E.length) (b : Nat) : 0 < (s.drain b).E.length ∧ (s.drain b).E.length ≤ s.E.length ∧ s.W ≤ (s.drain b).W ∧ (s.drain b).W ≤ s.W + 1 := by
  unfold drain
  have h5 := wr_len s (idxC isS s.E).toNat b
  have h6 := wr_W s (idxC isS s.E).toNat b
  generalize s.wr (idxC isS s.E).toNat b = s3 at *
  have h1 := tidy_len s3
  exact ⟨h1.2, by omega, show s.W ≤ s3.W by omega, show s3.W ≤ _ by omega⟩
theorem playD_size (x : Cache) (hl : x.l.length ≤ 16) (D : List (Int × Int)) : ∀ (j : Nat) (s : PS) (k : Nat), PS.playD x D j = some (s, k) → k ≤ x.l.length ∧ 0 < s.E.length ∧ s.E.length ≤ k + 1 ∧ 0 ≤ s.W ∧ s.W ≤ 103 * k + j
  | 0, s, k, h => by
    simp only [PS.playD, Option.some.injEq, Prod.mk.injEq] at h
    obtain ⟨rfl, rfl⟩ := h
    simp [begin]
  | j + 1, s, k, h => by
    simp only [PS.playD] at h
    split at h
    · cases h
    · rename_i s0 k0 h0
      have h1 := playD_size x hl D j s0 k0 h0
      split at h
      · rename_i hc
        simp only [Option.some.injEq, Prod.mk.injEq] at h
        obtain ⟨rfl, rfl⟩ := h
        have h2 := from_size x.l s0 k0 ⟨h1.2.1, h1.2.2.1, h1.2.2.2.1⟩ ((D.getD j (0, 0)).1.toNat - k0) (by omega)
        generalize PS.from x.l s0 k0 ((D.getD j (0, 0)).1.toNat - k0) = s1 at *
        have h3 := drain_size s1 h2.1 (D.getD j (0, 0)).2.toNat
        omega
      · cases h
end PS
theorem PS.playD_dead (x : Cache) (D : List (Int × Int)) {j : Nat} (h : PS.playD x D j = none) : ∀ m, PS.playD x D (j + m) = none
  | 0 => h
  | m + 1 => by
    show PS.playD x D (j + m + 1) = none
    simp only [PS.playD, PS.playD_dead x D h m]
theorem PS.playD_stop {x : Cache} {D : List (Int × Int)} {j k : Nat} {s : PS} (hp : PS.playD x D j = some (s, k)) (hj : j < D.length)
    (hn : ¬ (((k : Int) ≤ (D.getD j (0, 0)).1 ∧ (D.getD j (0, 0)).1 ≤ x.l.length) ∧ (0 ≤ (D.getD j (0, 0)).2 ∧ (D.getD j (0, 0)).2 ≤ x.n - 1) ∧
        (PS.from x.l s k ((D.getD j (0, 0)).1.toNat - k)).can (D.getD j (0, 0)).2.toNat)) : PS.playD x D D.length = none := by
  have h1 : PS.playD x D (j + 1) = none := by simp only [PS.playD, hp]; rw [if_neg hn]
  have h2 := PS.playD_dead x D h1 (D.length - (j + 1))
  rwa [show j + 1 + (D.length - (j + 1)) = D.length by omega] at h2
theorem PS.playD_blk {x : Cache} {D : List (Int × Int)} {k : Nat} {s : PS} (hp : PS.playD x D D.length = some (s, k)) (h0 : 0 < D.length) : 0 ≤ (D.getD (D.length - 1) (0, 0)).2 ∧ (D.getD (D.length - 1) (0, 0)).2 ≤ x.n - 1 := by
  obtain ⟨j, hj⟩ : ∃ j, D.length = j + 1 := ⟨D.length - 1, by omega⟩
  rw [hj] at hp ⊢
  rw [show j + 1 - 1 = j by omega]
  simp only [PS.playD] at hp
  split at hp
  · cases hp
  · split at hp
    · rename_i h
      exact h.2.1
    · cases hp
theorem can52' (s : PS) (hl : s.E.length ≤ 1000000) (z : Int) (hz : 0 ≤ z ∧ z < 6) : PureC Try.prog 52 false [stI s, .int .i64 z] (· = .prop (s.can z.toNat) inferInstance) := by
  obtain ⟨b, rfl⟩ : ∃ b : Nat, z = b := ⟨z.toNat, by omega⟩
  exact can52 s hl b (by omega)
theorem drain53' (s : PS) (hs : s.Sm) (hW : s.W ≤ 100000) (z : Int) (hz : 0 ≤ z ∧ z < 6) (hf : 0 ≤ idxC isS s.E) : Sx.Callee Try.prog 53 [.ptr 0 0, .int .i64 z] (stH s) (fun v H => v = .tup [] ∧ H = stH2 (s.drain z.toNat)) := by
  obtain ⟨b, rfl⟩ : ∃ b : Nat, z = b := ⟨z.toNat, by omega⟩
  exact drain53 s hs hW b (by omega) hf
def badPl (x : Cache) (D : List (Int × Int)) (torn : Bool) : Prop := 16 < D.length ∨ torn = true ∧ (D.length = 0 ∨ (D.getD (D.length - 1) (0, 0)).1 ≠ x.l.length)
def PS.endP (x : Cache) (D : List (Int × Int)) (torn : Bool) (s : PS) (k : Nat) : C6 :=
  if torn = true then (PS.from x.l s k (x.l.length - k)).M.set (D.getD (D.length - 1) (0, 0)).2.toNat (-2) else (PS.from x.l s k (x.l.length - k)).M
open Classical in
noncomputable def playV (x : Cache) (D : List (Int × Int)) (torn : Bool) : List V :=
  if x.chk = 0 then if badPl x D torn then [.lit (.slice none 0 0), .int .i64 1] else match PS.playD x D D.length with
    | none => [.lit (.slice none 0 0), .int .i64 1]
    | some (s, k) => [.sl 1 x.n.toNat (fun b => [.int .i64 ((PS.endP x D torn s k).get b)]), .int .i64 0]
  else [.lit (.slice none 0 0), .int .i64 x.chk]
theorem badPl_iff (x : Cache) (D : List (Int × Int)) (torn : Bool) : (16 < (D.length : Int) ∨ torn = true ∧ ((D.length : Int) = 0 ∨ (D.getD ((D.length : Int) - 1).toNat (0, 0)).fst ≠ (x.l.length : Int))) ↔ badPl x D torn := by
  unfold badPl
  rw [show ((D.length : Int) - 1).toNat = D.length - 1 by omega]
  constructor
  · rintro (h | ⟨h1, h2⟩)
    · exact .inl (by omega)
    · exact .inr ⟨h1, h2.imp (by omega) id⟩
  · rintro (h | ⟨h1, h2⟩)
    · exact .inl (by omega)
    · exact .inr ⟨h1, h2.imp (by omega) id⟩
theorem Play20 (x : Cache) (hl : x.l.length ≤ 1000000) (D : List (Int × Int)) (hD : D.length ≤ 1000000) (torn : Bool) : PureC Try.prog 20 false [x.v, .sl 2 D.length (rowOf oC (0, 0) D), .prop (torn = true) inferInstance] (· = .tup (playV x D torn)) := by
  refine pureC_of_exec Try.E_ok Try.func20 rfl (by kernel_rfl) ?_
  unfold playV
  (repeat' ((conv => whnf); (first | (with_reducible first | apply spl | apply spl') <;> intro hc <;> try (exfalso; omega) | with_reducible refine iJ fun hc => ?_ | refine vcq (k := ?_) | refine dr 24 (k := ?_) | refine dr 11 (k := ?_) | refine dr 9 (k := ?_)))); all_goals ((try conv => whnf); try with_reducible exact trivial); (repeat' ((first | (refine callee_fo (check36 x hl) rfl ?_; rintro _ rfl) | (refine pcall_intro (check36 x hl) rfl ?_) | (refine pcall_soft (fun _ => check36 x hl) rfl ?_)); (repeat' ((conv => whnf); (first | (with_reducible first | apply spl | apply spl') <;> intro hc <;> try (exfalso; omega) | with_reducible refine iJ fun hc => ?_ | refine vcq (k := ?_) | refine dr 24 (k := ?_) | refine dr 11 (k := ?_) | refine dr 9 (k := ?_)))); all_goals ((try conv => whnf); try with_reducible exact trivial))); (all_goals (try (refine ⟨_, rfl, ?_⟩; (repeat' ((conv => whnf); (first | (with_reducible first | apply spl | apply spl') <;> intro hc <;> try (exfalso; omega) | with_reducible refine iJ fun hc => ?_ | refine vcq (k := ?_) | refine dr 24 (k := ?_) | refine dr 11 (k := ?_) | refine dr 9 (k := ?_)))); all_goals ((try conv => whnf); try with_reducible exact trivial))))
  · rw [if_neg hc]
    (repeat' ((conv => whnf); (first | (with_reducible first | apply spl | apply spl') <;> intro hc <;> try (exfalso; omega) | with_reducible refine iJ fun hc => ?_ | refine vcq (k := ?_) | refine dr 6 (k := ?_) | refine dr 24 (k := ?_) | refine dr 11 (k := ?_)))); all_goals ((try conv => whnf); try with_reducible exact trivial)
  · rename_i hk
    rw [if_pos (Classical.not_not.1 hk), if_pos ((badPl_iff x D torn).1 hc)]
    (repeat' ((conv => whnf); (first | (with_reducible first | apply spl | apply spl') <;> intro hc <;> try (exfalso; omega) | with_reducible refine iJ fun hc => ?_ | refine vcq (k := ?_) | refine dr 6 (k := ?_) | refine dr 24 (k := ?_) | refine dr 11 (k := ?_)))); all_goals ((try conv => whnf); try with_reducible exact trivial)
  · rename_i hk
    have hk := Classical.not_not.1 hk
    have hx := Cache.chk_ok hk
    have hl16 := hx.len
    have hn6 := hx.n
    rw [if_pos hk, if_neg (fun h => hc ((badPl_iff x D torn).2 h))]
    have hD16 : D.length ≤ 16 := by omega
    have hnb : ¬ badPl x D torn := fun h => hc ((badPl_iff x D torn).2 h)
    refine callee_new begin42 rfl ?_
    rintro _ _ ⟨rfl, rfl⟩
    (repeat' ((conv => whnf); (first | (with_reducible first | apply spl | apply spl') <;> intro hc <;> try (exfalso; omega) | with_reducible refine iJ fun hc => ?_ | refine vcq (k := ?_) | refine dr 24 (k := ?_) | refine dr 11 (k := ?_) | refine dr 9 (k := ?_)))); all_goals ((try conv => whnf); try with_reducible exact trivial)
    refine ⟨Nat × PS × Nat, fun q => q.1 ≤ D.length ∧ PS.playD x D q.1 = some q.2, fun q => D.length - q.1, fun q => [(45, .int .i64 (q.1 : Nat)), (10, .int .i64 (q.2.2 : Nat)), (35, .any)], fun q => [(1, .cells 71 (stCs q.2.1 2)), (2, .row 68 6 q.2.1.E.length (eR q.2.1.E) false)], fun _ => [], (0, PS.begin, 0), ⟨⟨by dsimp only; omega, rfl⟩, none, ?_⟩, ?_⟩
    · (repeat' ((conv => whnf); (first | (with_reducible first | apply spl | apply spl') <;> intro hc <;> try (exfalso; omega) | with_reducible refine iJ fun hc => ?_ | refine vcq (k := ?_) | refine dr 24 (k := ?_) | refine dr 11 (k := ?_) | refine dr 9 (k := ?_)))); all_goals ((try conv => whnf); try with_reducible exact trivial)
      rfl
    · rintro ⟨j, s, k⟩ ⟨hj, hp⟩
      have hj : j ≤ D.length := hj
      have hp : PS.playD x D j = some (s, k) := hp
      have hsz := PS.playD_size x hl16 D j s k hp
      have hsm : s.Sm := ⟨hsz.2.1, by omega, by omega⟩
      (repeat' ((conv => whnf); (first | (with_reducible first | apply spl | apply spl') <;> intro hc <;> try (exfalso; omega) | with_reducible refine iJ fun hc => ?_ | refine vcq (k := ?_) | refine dr 24 (k := ?_) | refine dr 11 (k := ?_) | refine dr 9 (k := ?_)))); all_goals ((try conv => whnf); try with_reducible exact trivial); (repeat' ((first | (refine callee_fo (within51 _ _ _) rfl ?_; rintro _ rfl) | (refine pcall_intro (within51 _ _ _) rfl ?_) | (refine pcall_soft (fun _ => within51 _ _ _) rfl ?_)); (repeat' ((conv => whnf); (first | (with_reducible first | apply spl | apply spl') <;> intro hc <;> try (exfalso; omega) | with_reducible refine iJ fun hc => ?_ | refine vcq (k := ?_) | refine dr 24 (k := ?_) | refine dr 11 (k := ?_) | refine dr 9 (k := ?_)))); all_goals ((try conv => whnf); try with_reducible exact trivial)))
      · have hj1 : j < D.length := by omega
        rw [PS.playD_stop hp hj1 (fun h => hc h.2.1)]
        refine ⟨_, rfl, ?_⟩
        (repeat' ((conv => whnf); (first | (with_reducible first | apply spl | apply spl') <;> intro hc <;> try (exfalso; omega) | with_reducible refine iJ fun hc => ?_ | refine vcq (k := ?_) | refine dr 6 (k := ?_) | refine dr 24 (k := ?_) | refine dr 11 (k := ?_)))); all_goals ((try conv => whnf); try with_reducible exact trivial)
      · have hj1 : j < D.length := by omega
        rename_i hw
        have hw : (k : Int) ≤ (D.getD j (0, 0)).1 ∧ (D.getD j (0, 0)).1 ≤ x.l.length := Classical.not_not.1 hw
        have hz : 0 ≤ (D.getD j (0, 0)).2 ∧ (D.getD j (0, 0)).2 ≤ x.n - 1 := Classical.not_not.1 hc
        refine ⟨Nat, fun m => m ≤ (D.getD j (0, 0)).1.toNat - k, fun m => (D.getD j (0, 0)).1.toNat - k - m, fun m => [(10, .int .i64 (k + m : Nat)), (58, .any), (60, .any)], fun m => [(1, .cells 71 (stCs (PS.from x.l s k m) 2)), (2, .row 68 6 (PS.from x.l s k m).E.length (eR (PS.from x.l s k m).E) false)], fun _ => [], 0, ⟨by omega, none, ?_⟩, ?_⟩
        · (repeat' ((conv => whnf); (first | (with_reducible first | apply spl | apply spl') <;> intro hc <;> try (exfalso; omega) | with_reducible refine iJ fun hc => ?_ | refine vcq (k := ?_) | refine dr 24 (k := ?_) | refine dr 11 (k := ?_) | refine dr 9 (k := ?_)))); all_goals ((try conv => whnf); try with_reducible exact trivial)
          rfl
        · intro m hm
          have hm : m ≤ (D.getD j (0, 0)).1.toNat - k := hm
          have hsz2 := PS.from_size x.l s k ⟨hsz.2.1, hsz.2.2.1, hsz.2.2.2.1⟩ m (by omega)
          have hsm2 : (PS.from x.l s k m).Sm := ⟨hsz2.1, by omega, by omega⟩
          (repeat' ((conv => whnf); (first | (with_reducible first | apply spl | apply spl') <;> intro hc <;> try (exfalso; omega) | with_reducible refine iJ fun hc => ?_ | refine vcq (k := ?_) | refine dr 24 (k := ?_) | refine dr 11 (k := ?_) | refine dr 9 (k := ?_)))); all_goals ((try conv => whnf); try with_reducible exact trivial)
          · have hc : ((k + m : Nat) : Int) < (D.getD j (0, 0)).1 := hc
            have hkm : k + m < x.l.length := by omega
            refine callee_frame [1, 2] (order43 (PS.from x.l s k m) hsm2 (by omega) (by omega) (k + m : Nat) (x.l.getD (k + m) (0, 0)) (hx.blk hkm)) rfl ?_ ?_
            · (repeat' ((conv => whnf); (first | (with_reducible first | apply spl | apply spl') <;> intro hc <;> try (exfalso; omega) | with_reducible refine iJ fun hc => ?_ | refine vcq (k := ?_) | refine dr 6 (k := ?_) | refine dr 24 (k := ?_) | refine dr 11 (k := ?_)))); all_goals ((try conv => whnf); try with_reducible exact trivial)
            · rintro _ _ ⟨rfl, rfl⟩
              (repeat' ((conv => whnf); (first | (with_reducible first | apply spl | apply spl') <;> intro hc <;> try (exfalso; omega) | with_reducible refine iJ fun hc => ?_ | refine vcq (k := ?_) | refine dr 24 (k := ?_) | refine dr 11 (k := ?_) | refine dr 9 (k := ?_)))); all_goals ((try conv => whnf); try with_reducible exact trivial)
              refine ⟨m + 1, ⟨by omega, by dsimp only; omega⟩, some [some 0, some 1, some 4, some 3], ?_⟩
              (repeat' ((conv => whnf); (first | (with_reducible first | apply spl | apply spl') <;> intro hc <;> try (exfalso; omega) | with_reducible refine iJ fun hc => ?_ | refine vcq (k := ?_) | refine dr 24 (k := ?_) | refine dr 11 (k := ?_) | refine dr 9 (k := ?_)))); all_goals ((try conv => whnf); try with_reducible exact trivial)
          · have hc : ¬ ((k + m : Nat) : Int) < (D.getD j (0, 0)).1 := hc
            obtain rfl : m = (D.getD j (0, 0)).1.toNat - k := by omega
            refine callee_view (can52' (PS.from x.l s k ((D.getD j (0, 0)).1.toNat - k)) (by omega) (D.getD j (0, 0)).2 (by omega)) ?_
            (repeat' ((conv => whnf); (first | (with_reducible first | apply spl | apply spl') <;> intro hc <;> try (exfalso; omega) | with_reducible refine iJ fun hc => ?_ | refine vcq (k := ?_) | refine dr 24 (k := ?_) | refine dr 11 (k := ?_) | refine dr 9 (k := ?_)))); all_goals ((try conv => whnf); try with_reducible exact trivial)
            rintro _ rfl
            (repeat' ((conv => whnf); (first | (with_reducible first | apply spl | apply spl') <;> intro hc <;> try (exfalso; omega) | with_reducible refine iJ fun hc => ?_ | refine vcq (k := ?_) | refine dr 24 (k := ?_) | refine dr 11 (k := ?_) | refine dr 9 (k := ?_)))); all_goals ((try conv => whnf); try with_reducible exact trivial)
            · rw [PS.playD_stop hp hj1 (fun h => hc h.2.2)]
              refine ⟨_, rfl, ?_⟩
              (repeat' ((conv => whnf); (first | (with_reducible first | apply spl | apply spl') <;> intro hc <;> try (exfalso; omega) | with_reducible refine iJ fun hc => ?_ | refine vcq (k := ?_) | refine dr 6 (k := ?_) | refine dr 24 (k := ?_) | refine dr 11 (k := ?_)))); all_goals ((try conv => whnf); try with_reducible exact trivial)
            · have hcan := Classical.not_not.1 hc
              refine callee_frame [1, 2] (drain53' (PS.from x.l s k ((D.getD j (0, 0)).1.toNat - k)) hsm2 (by omega) (D.getD j (0, 0)).2 (by omega) hcan.1) rfl ?_ ?_
              · (repeat' ((conv => whnf); (first | (with_reducible first | apply spl | apply spl') <;> intro hc <;> try (exfalso; omega) | with_reducible refine iJ fun hc => ?_ | refine vcq (k := ?_) | refine dr 6 (k := ?_) | refine dr 24 (k := ?_) | refine dr 11 (k := ?_)))); all_goals ((try conv => whnf); try with_reducible exact trivial)
              · rintro _ _ ⟨rfl, rfl⟩
                (repeat' ((conv => whnf); (first | (with_reducible first | apply spl | apply spl') <;> intro hc <;> try (exfalso; omega) | with_reducible refine iJ fun hc => ?_ | refine vcq (k := ?_) | refine dr 24 (k := ?_) | refine dr 11 (k := ?_) | refine dr 9 (k := ?_)))); all_goals ((try conv => whnf); try with_reducible exact trivial)
                refine ⟨(j + 1, (PS.from x.l s k ((D.getD j (0, 0)).1.toNat - k)).drain (D.getD j (0, 0)).2.toNat, (D.getD j (0, 0)).1.toNat), ⟨⟨by dsimp only; omega, ?_⟩, by dsimp only; omega⟩, some [some 0, some 1, some 4], ?_⟩
                · simp only [PS.playD, hp]
                  rw [if_pos ⟨hw, hz, hcan⟩]
                · (repeat' ((conv => whnf); (first | (with_reducible first | apply spl | apply spl') <;> intro hc <;> try (exfalso; omega) | with_reducible refine iJ fun hc => ?_ | refine vcq (k := ?_) | refine dr 24 (k := ?_) | refine dr 11 (k := ?_) | refine dr 9 (k := ?_)))); all_goals ((try conv => whnf); try with_reducible exact trivial)
      · have hj1 : j < D.length := by omega
        rw [PS.playD_stop hp hj1 (fun h => hc h.1)]
        refine ⟨_, rfl, ?_⟩
        (repeat' ((conv => whnf); (first | (with_reducible first | apply spl | apply spl') <;> intro hc <;> try (exfalso; omega) | with_reducible refine iJ fun hc => ?_ | refine vcq (k := ?_) | refine dr 6 (k := ?_) | refine dr 24 (k := ?_) | refine dr 11 (k := ?_)))); all_goals ((try conv => whnf); try with_reducible exact trivial)
      · obtain rfl : j = D.length := by omega
        rw [hp]
        refine ⟨Nat, fun m => m ≤ x.l.length - k, fun m => x.l.length - k - m, fun m => [(10, .int .i64 (k + m : Nat)), (58, .any), (60, .any)], fun m => [(1, .cells 71 (stCs (PS.from x.l s k m) 2)), (2, .row 68 6 (PS.from x.l s k m).E.length (eR (PS.from x.l s k m).E) false)], fun _ => [], 0, ⟨by omega, none, ?_⟩, ?_⟩
        · (repeat' ((conv => whnf); (first | (with_reducible first | apply spl | apply spl') <;> intro hc <;> try (exfalso; omega) | with_reducible refine iJ fun hc => ?_ | refine vcq (k := ?_) | refine dr 24 (k := ?_) | refine dr 11 (k := ?_) | refine dr 9 (k := ?_)))); all_goals ((try conv => whnf); try with_reducible exact trivial)
          rfl
        · intro m hm
          have hm : m ≤ x.l.length - k := hm
          have hsz2 := PS.from_size x.l s k ⟨hsz.2.1, hsz.2.2.1, hsz.2.2.2.1⟩ m (by omega)
          have hsm2 : (PS.from x.l s k m).Sm := ⟨hsz2.1, by omega, by omega⟩
          (repeat' ((conv => whnf); (first | (with_reducible first | apply spl | apply spl') <;> intro hc <;> try (exfalso; omega) | with_reducible refine iJ fun hc => ?_ | refine vcq (k := ?_) | refine dr 24 (k := ?_) | refine dr 11 (k := ?_) | refine dr 6 (k := ?_)))); all_goals ((try conv => whnf); try with_reducible exact trivial)
          · have hkm : k + m < x.l.length := by omega
            refine callee_frame [1, 2] (order43 (PS.from x.l s k m) hsm2 (by omega) (by omega) (k + m : Nat) (x.l.getD (k + m) (0, 0)) (hx.blk hkm)) rfl ?_ ?_
            · (repeat' ((conv => whnf); (first | (with_reducible first | apply spl | apply spl') <;> intro hc <;> try (exfalso; omega) | with_reducible refine iJ fun hc => ?_ | refine vcq (k := ?_) | refine dr 6 (k := ?_) | refine dr 24 (k := ?_) | refine dr 11 (k := ?_)))); all_goals ((try conv => whnf); try with_reducible exact trivial)
            · rintro _ _ ⟨rfl, rfl⟩
              (repeat' ((conv => whnf); (first | (with_reducible first | apply spl | apply spl') <;> intro hc <;> try (exfalso; omega) | with_reducible refine iJ fun hc => ?_ | refine vcq (k := ?_) | refine dr 24 (k := ?_) | refine dr 11 (k := ?_) | refine dr 6 (k := ?_)))); all_goals ((try conv => whnf); try with_reducible exact trivial)
              refine ⟨m + 1, ⟨by omega, by dsimp only; omega⟩, some [some 0, some 1, some 3], ?_⟩
              (repeat' ((conv => whnf); (first | (with_reducible first | apply spl | apply spl') <;> intro hc <;> try (exfalso; omega) | with_reducible refine iJ fun hc => ?_ | refine vcq (k := ?_) | refine dr 24 (k := ?_) | refine dr 11 (k := ?_) | refine dr 6 (k := ?_)))); all_goals ((try conv => whnf); try with_reducible exact trivial)
          · have htorn : torn = true := by assumption
            have hpos : 0 < D.length := Nat.pos_of_ne_zero (fun h => hnb (.inr ⟨htorn, .inl h⟩))
            have hb := PS.playD_blk hp hpos
            have hmk : k + m = x.l.length := by omega
            obtain rfl : m = x.l.length - k := by omega
            obtain ⟨b, hb6, hbe⟩ : ∃ b : Nat, b < 6 ∧ (D.getD ((D.length : Int) - 1).toNat (0, 0)).2 = b := ⟨(D.getD (D.length - 1) (0, 0)).2.toNat, by omega, by rw [show ((D.length : Int) - 1).toNat = D.length - 1 by omega]; omega⟩
            refine And.intro ⟨by omega, by omega⟩ ?_
            have hbe' : (D.getD (D.length - 1) (0, 0)).2 = b := by rw [← hbe]; congr 3; omega
            have he : PS.endP x D torn s k = (PS.from x.l s k (x.l.length - k)).M.set b (-2) := by
              unfold PS.endP
              rw [if_pos htorn, hbe']
              rfl
            simp only [he]
            have hcl := clone54 ⟨(PS.from x.l s k (x.l.length - k)).M.set b (-2), (PS.from x.l s k (x.l.length - k)).E, (PS.from x.l s k (x.l.length - k)).W⟩ ⟨hsm2.ne, hsm2.len, hsm2.W⟩ x.n.toNat (by omega)
            have hrow : rowOf oC (0, 0) D ((D.length : Int) - 1).toNat = [.int .i64 (D.getD ((D.length : Int) - 1).toNat (0, 0)).1, .int .i64 b] := by
              rw [← hbe]
              rfl
            rw [hrow]
            rcases six hb6 with rfl | rfl | rfl | rfl | rfl | rfl
            all_goals
              (repeat' ((conv => whnf); (first | (with_reducible first | apply spl | apply spl') <;> intro hc <;> try (exfalso; omega) | with_reducible refine iJ fun hc => ?_ | refine vcq (k := ?_) | refine dr 24 (k := ?_) | refine dr 11 (k := ?_) | refine dr 6 (k := ?_)))); all_goals ((try conv => whnf); try with_reducible exact trivial)
              refine callee_frame [1, 2] hcl rfl ?_ ?_
              · (repeat' ((conv => whnf); (first | (with_reducible first | apply spl | apply spl') <;> intro hc <;> try (exfalso; omega) | with_reducible refine iJ fun hc => ?_ | refine vcq (k := ?_) | refine dr 6 (k := ?_) | refine dr 24 (k := ?_) | refine dr 11 (k := ?_)))); all_goals ((try conv => whnf); try with_reducible exact trivial)
              · rintro _ _ ⟨rfl, rfl⟩
                (repeat' ((conv => whnf); (first | (with_reducible first | apply spl | apply spl') <;> intro hc <;> try (exfalso; omega) | with_reducible refine iJ fun hc => ?_ | refine vcq (k := ?_) | refine dr 24 (k := ?_) | refine dr 11 (k := ?_) | refine dr 6 (k := ?_)))); all_goals ((try conv => whnf); try with_reducible exact trivial)
                refine ⟨_, rfl, ?_⟩
                (repeat' ((conv => whnf); (first | (with_reducible first | apply spl | apply spl') <;> intro hc <;> try (exfalso; omega) | with_reducible refine iJ fun hc => ?_ | refine vcq (k := ?_) | refine dr 6 (k := ?_) | refine dr 24 (k := ?_) | refine dr 11 (k := ?_)))); all_goals ((try conv => whnf); try with_reducible exact trivial)
          · have hmk : k + m = x.l.length := by omega
            obtain rfl : m = x.l.length - k := by omega
            refine callee_frame [1, 2] (clone54 (PS.from x.l s k (x.l.length - k)) hsm2 x.n.toNat (by omega)) rfl ?_ ?_
            · (repeat' ((conv => whnf); (first | (with_reducible first | apply spl | apply spl') <;> intro hc <;> try (exfalso; omega) | with_reducible refine iJ fun hc => ?_ | refine vcq (k := ?_) | refine dr 6 (k := ?_) | refine dr 24 (k := ?_) | refine dr 11 (k := ?_)))); all_goals ((try conv => whnf); try with_reducible exact trivial)
            · rintro _ _ ⟨rfl, rfl⟩
              (repeat' ((conv => whnf); (first | (with_reducible first | apply spl | apply spl') <;> intro hc <;> try (exfalso; omega) | with_reducible refine iJ fun hc => ?_ | refine vcq (k := ?_) | refine dr 24 (k := ?_) | refine dr 11 (k := ?_) | refine dr 6 (k := ?_)))); all_goals ((try conv => whnf); try with_reducible exact trivial)
              refine ⟨_, rfl, ?_⟩
              have he : PS.endP x D torn s k = (PS.from x.l s k (x.l.length - k)).M := if_neg (show ¬ torn = true by assumption)
              simp only [he]
              (repeat' ((conv => whnf); (first | (with_reducible first | apply spl | apply spl') <;> intro hc <;> try (exfalso; omega) | with_reducible refine iJ fun hc => ?_ | refine vcq (k := ?_) | refine dr 6 (k := ?_) | refine dr 24 (k := ?_) | refine dr 11 (k := ?_)))); all_goals ((try conv => whnf); try with_reducible exact trivial)
end Go.Proofs

