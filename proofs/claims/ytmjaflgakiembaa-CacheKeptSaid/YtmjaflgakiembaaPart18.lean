/- Own work: texts of the proof of a law (CaU5, CaC21, CaL2, CaL3, CaL4). No condition. -/
import Derived.Test.YtmjaflgakiembaaPart17
namespace Go.Proofs
open Go Go.Sx
set_option maxRecDepth 100000
set_option maxHeartbeats 1000000

/-- what is known of an image -/
theorem PosI.u {x : Cache} (hx : x.Ok) {h : C6} (hp : PosI x h) : ∃ u D, RchU x x.l.length u D ∧ (h = u.M ∨ ∃ b : Nat, (b : Int) < x.n ∧ u.can b ∧ h = u.M.set b (-2)) := by
  obtain ⟨im, h1, rfl⟩ := hp
  rcases h1 with ⟨_, h2, h3⟩ | ⟨_, s, D, b, h2, h3, h4, h5, _⟩
  · obtain ⟨u, g1, g2⟩ := rch_u hx h2
    exact ⟨u, _, g1, .inl (by rw [h3, g2]; rfl)⟩
  · obtain ⟨u, g1, g2⟩ := rch_u hx h2
    subst g2
    have hl : 0 < u.E.length := by rw [(g1.inv hx).len]; omega
    exact ⟨u, D, g1, .inr ⟨b, h3, (PS.can_tidy u hl b).1 h4, h5⟩⟩

theorem PosI.barrier {x : Cache} (hx : x.Ok) {h : C6} (hp : PosI x h) {i : Nat} (hi : i < x.l.length)
    (hb : (x.l.getD i (0, 0)).1 = 3 ∧ (∃ b, b < 6 ∧ (i : Int) < h.get b) ∨ (x.l.getD i (0, 0)).1 = 4) {q : Nat} (hq : q < i) {b : Nat} (hb6 : b < 6) (hpq : putQ x q b) : h.get b = -2 ∨ (q : Int) ≤ h.get b := by
  obtain ⟨u, D, h1, rfl | ⟨b0, h2, h3, rfl⟩⟩ := hp.u hx
  · exact .inr (h1.barrier hx hi hb hq hb6 hpq)
  · have hb0 : b0 < 6 := by have := hx.n; omega
    rw [C6.get_set hb0 hb6]
    split
    · exact .inl rfl
    · refine .inr (h1.barrier hx hi (hb.imp (fun g => ⟨g.1, ?_⟩) id) hq hb6 hpq)
      obtain ⟨_, b1, g1, g2⟩ := g
      rw [C6.get_set hb0 g1] at g2
      refine ⟨b1, g1, ?_⟩
      split at g2 <;> omega

theorem PosI.force {x : Cache} (hx : x.Ok) {h : C6} (hp : PosI x h) {i : Nat} (hi : i < x.l.length) (h2 : (x.l.getD i (0, 0)).1 = 2) {b : Nat} (hb : b < 6) (hpq : putQ x i b) : h.get b = -2 ∨ (i : Int) ≤ h.get b := by
  obtain ⟨u, D, h1, rfl | ⟨b0, h2, h3, rfl⟩⟩ := hp.u hx
  · exact .inr ((h1.invB hx).fo i hi h2 b hb hpq)
  · have hb0 : b0 < 6 := by have := hx.n; omega
    rw [C6.get_set hb0 hb]
    split
    · exact .inl rfl
    · exact .inr ((h1.invB hx).fo i hi (by assumption) b hb hpq)

theorem PosI.holds {x : Cache} (hx : x.Ok) {h : C6} (hp : PosI x h) {b : Nat} (hb : b < 6) : h.get b = -2 ∨ MP x x.l.length b (h.get b) := by
  obtain ⟨u, D, h1, rfl | ⟨b0, h2, h3, rfl⟩⟩ := hp.u hx
  · exact .inr ((h1.inv hx).inv.med b hb)
  · have hb0 : b0 < 6 := by have := hx.n; omega
    rw [C6.get_set hb0 hb]
    split
    · exact .inl rfl
    · exact .inr ((h1.inv hx).inv.med b hb)

theorem MP.ge {x : Cache} {K b : Nat} {v : Int} (h : MP x K b v) : -1 ≤ v := by rcases h with h | ⟨q, _, h, _⟩ <;> omega

/-- at most one block is torn -/
theorem PosI.torn {x : Cache} (hx : x.Ok) {h : C6} (hp : PosI x h) : (∀ b, b < 6 → h.get b ≠ -2) ∨ ∃ b0 : Nat, (b0 : Int) < x.n ∧ ∀ b, b < 6 → (h.get b = -2 ↔ b = b0) := by
  obtain ⟨u, D, h1, rfl | ⟨b0, h2, h3, rfl⟩⟩ := hp.u hx
  · exact .inl fun b hb => by have := ((h1.inv hx).inv.med b hb).ge; omega
  · have hb0 : b0 < 6 := by have := hx.n; omega
    refine .inr ⟨b0, h2, fun b hb => ?_⟩
    rw [C6.get_set hb0 hb]
    split
    · rename_i g; exact ⟨fun _ => g, fun _ => rfl⟩
    · rename_i g
      have := ((h1.inv hx).inv.med b hb).ge
      exact ⟨fun g2 => by omega, fun g2 => absurd g2 g⟩

/-! ### plays -/
theorem from_rch {x : Cache} {s : PS} {k : Nat} {D : List (Int × Int)} (h : Rch x k s D) : ∀ m, k + m ≤ x.l.length → Rch x (k + m) (PS.from x.l s k m) D
  | 0, _ => h
  | m + 1, hm => by
    have h1 := from_rch h m (by omega)
    exact h1.order (by omega)

theorem take_snoc {D : List (Int × Int)} {j : Nat} (hj : j < D.length) : D.take (j + 1) = D.take j ++ [D.getD j (0, 0)] := by
  rw [List.take_succ_eq_append_getElem hj]
  congr 2
  simp [List.getD_eq_getElem?_getD, hj]

theorem playD_rch {x : Cache} {D : List (Int × Int)} : ∀ (j : Nat) (s : PS) (k : Nat), j ≤ D.length → PS.playD x D j = some (s, k) → Rch x k s (D.take j)
  | 0, s, k, _, h => by
    simp only [PS.playD, Option.some.injEq, Prod.mk.injEq] at h
    obtain ⟨rfl, rfl⟩ := h
    exact .begin
  | j + 1, s, k, hj, h => by
    simp only [PS.playD] at h
    split at h
    · cases h
    · rename_i s0 k0 h0
      have h1 := playD_rch j s0 k0 (by omega) h0
      split at h
      · rename_i hc
        simp only [Option.some.injEq, Prod.mk.injEq] at h
        obtain ⟨rfl, rfl⟩ := h
        obtain ⟨⟨c1, c2⟩, ⟨c3, c4⟩, c5⟩ := hc
        have h2 := from_rch h1 ((D.getD j (0, 0)).1.toNat - k0) (by omega)
        rw [show k0 + ((D.getD j (0, 0)).1.toNat - k0) = (D.getD j (0, 0)).1.toNat by omega] at h2
        have h3 := h2.drain (b := (D.getD j (0, 0)).2.toNat) (by omega) c5
        rw [take_snoc (by omega)]
        have e : D.getD j (0, 0) = (((D.getD j (0, 0)).1.toNat : Int), ((D.getD j (0, 0)).2.toNat : Int)) := by
          refine Prod.ext ?_ ?_
          · show _ = ((D.getD j (0, 0)).1.toNat : Int); omega
          · show _ = ((D.getD j (0, 0)).2.toNat : Int); omega
        rw [← e] at h3
        exact h3
      · cases h

theorem C6.set_set (c : C6) {b : Nat} (hb : b < 6) (n m : Int) : (c.set b n).set b m = c.set b m := by
  refine C6.ext' fun j hj => ?_
  rw [C6.get_set hb hj, C6.get_set hb hj, C6.get_set hb hj]
  split <;> rfl

theorem drain_M {s : PS} {b : Nat} (h : s.can b) : ∃ n, (s.drain b).M = s.M.set b n := by
  unfold PS.drain
  rw [PS.wr_pos h.2]
  exact ⟨_, rfl⟩

/-- the image of a play is possible -/
theorem play_pos {x : Cache} (hx : x.Ok) {D : List (Int × Int)} {torn : Bool} {s : PS} {k : Nat} (hb : ¬ badPl x D torn) (h : PS.playD x D D.length = some (s, k)) : PosI x (PS.endP x D torn s k) := by
  have h1 := playD_rch D.length s k (Nat.le_refl _) h
  have hk := (PS.playD_size x hx.len D D.length s k h).1
  unfold PS.endP
  by_cases ht : torn = true
  · rw [if_pos ht]
    have h2 : D.length ≠ 0 ∧ (D.getD (D.length - 1) (0, 0)).1 = x.l.length := by
      constructor
      · intro g; exact hb (.inr ⟨ht, .inl g⟩)
      · exact Classical.byContradiction fun g => hb (.inr ⟨ht, .inr g⟩)
    obtain ⟨j, hj⟩ : ∃ j, D.length = j + 1 := ⟨D.length - 1, by omega⟩
    rw [hj] at h
    simp only [PS.playD] at h
    split at h
    · cases h
    · rename_i s0 k0 h0
      split at h
      · rename_i hc
        simp only [Option.some.injEq, Prod.mk.injEq] at h
        obtain ⟨rfl, rfl⟩ := h
        obtain ⟨⟨c1, c2⟩, ⟨c3, c4⟩, c5⟩ := hc
        have hjj : D.length - 1 = j := by omega
        rw [hjj] at h2 ⊢
        have h3 := from_rch (playD_rch j s0 k0 (by omega) h0) ((D.getD j (0, 0)).1.toNat - k0) (by omega)
        have e1 : k0 + ((D.getD j (0, 0)).1.toNat - k0) = x.l.length := by omega
        rw [e1] at h3
        rw [show x.l.length - (D.getD j (0, 0)).1.toNat = 0 by omega]
        show PosI x (((PS.from x.l s0 k0 _).drain _).M.set _ _)
        generalize PS.from x.l s0 k0 ((D.getD j (0, 0)).1.toNat - k0) = s1 at *
        obtain ⟨n, hn⟩ := drain_M c5
        rw [hn, C6.set_set _ (by have := hx.n; omega)]
        exact ⟨⟨⟨s1.drain (D.getD j (0, 0)).2.toNat, D.take j ++ [((x.l.length : Int), ((D.getD j (0, 0)).2.toNat : Int))]⟩, s1.M.set (D.getD j (0, 0)).2.toNat (-2), true⟩, .inr ⟨rfl, s1, D.take j, (D.getD j (0, 0)).2.toNat, h3, by omega, c5, rfl, rfl⟩, rfl⟩
      · cases h
  · rw [if_neg ht]
    have h3 := from_rch h1 (x.l.length - k) (by omega)
    rw [show k + (x.l.length - k) = x.l.length by omega] at h3
    exact ⟨⟨⟨PS.from x.l s k (x.l.length - k), _⟩, _, false⟩, .inl ⟨rfl, h3, rfl⟩, rfl⟩

theorem endP_torn {x : Cache} (hx : x.Ok) {D : List (Int × Int)} {torn : Bool} {s : PS} {k : Nat} (hb : ¬ badPl x D torn) (h : PS.playD x D D.length = some (s, k)) : (∃ b, b < 6 ∧ (PS.endP x D torn s k).get b = -2) ↔ torn = true := by
  constructor
  · rintro ⟨b, hb6, h2⟩
    refine Classical.byContradiction fun ht => ?_
    unfold PS.endP at h2
    rw [if_neg ht] at h2
    have h1 := playD_rch D.length s k (Nat.le_refl _) h
    have hk := (PS.playD_size x hx.len D D.length s k h).1
    have h3 := from_rch h1 (x.l.length - k) (by omega)
    obtain ⟨u, g1, g2⟩ := rch_u hx h3
    rw [g2, tidy_M] at h2
    have := ((g1.inv hx).inv.med b hb6).ge
    omega
  · intro ht
    have hp : D.length ≠ 0 := fun g => hb (.inr ⟨ht, .inl g⟩)
    obtain ⟨h1, h2⟩ := PS.playD_blk h (by omega)
    have hn := hx.n
    refine ⟨(D.getD (D.length - 1) (0, 0)).2.toNat, by omega, ?_⟩
    unfold PS.endP
    rw [if_pos ht, C6.get_set (by omega) (by omega), if_pos rfl]

/-! ### and back -/
theorem playD_pre (x : Cache) (D D' : List (Int × Int)) : ∀ j, j ≤ D.length → PS.playD x (D ++ D') j = PS.playD x D j
  | 0, _ => rfl
  | j + 1, hj => by
    have e : (D ++ D').getD j (0, 0) = D.getD j (0, 0) := by simp [List.getD_eq_getElem?_getD, List.getElem?_append_left (show j < D.length by omega)]
    simp only [PS.playD]
    rw [playD_pre x D D' j (by omega), e]

theorem from_from (l : List (Int × Int)) (s : PS) (k m : Nat) : PS.from l s k (m + 1) = (PS.from l s k m).order ((k + m : Nat) : Int) (l.getD (k + m) (0, 0)) := rfl

theorem rch_play {x : Cache} {k : Nat} {s : PS} {D : List (Int × Int)} (h : Rch x k s D) : k ≤ x.l.length ∧ ∃ s' k', PS.playD x D D.length = some (s', k') ∧ k' ≤ k ∧ PS.from x.l s' k' (k - k') = s := by
  induction h with
  | begin => exact ⟨by omega, _, _, rfl, Nat.le_refl _, rfl⟩
  | @drain k s D b hr hb hcan ih =>
    obtain ⟨h0, s', k', h1, h2, h3⟩ := ih
    refine ⟨h0, s.drain b, k, ?_, Nat.le_refl _, by rw [Nat.sub_self]; rfl⟩
    rw [List.length_append, List.length_singleton]
    have e : (D ++ [((k : Int), (b : Int))]).getD D.length (0, 0) = ((k : Int), (b : Int)) := by simp [List.getD_eq_getElem?_getD]
    simp only [PS.playD]
    rw [playD_pre x D _ D.length (Nat.le_refl _), h1, e]
    dsimp only
    rw [show (k : Int).toNat = k from Int.toNat_natCast k, show (b : Int).toNat = b from Int.toNat_natCast b, h3]
    rw [if_pos ⟨⟨by omega, by omega⟩, ⟨by omega, by omega⟩, hcan⟩]
  | @order k s D hr hk ih =>
    obtain ⟨h0, s', k', h1, h2, h3⟩ := ih
    refine ⟨hk, s', k', h1, by omega, ?_⟩
    rw [show k + 1 - k' = (k - k') + 1 by omega, from_from, h3, show k' + (k - k') = k by omega]

/-- an image's drains make it -/
theorem img_play {x : Cache} (hx : x.Ok) {im : Img} (h : ImgOk x im) : ¬ badPl x im.t.D im.torn ∧ ∃ s k, PS.playD x im.t.D im.t.D.length = some (s, k) ∧ PS.endP x im.t.D im.torn s k = im.h := by
  rcases h with ⟨h1, h2, h3⟩ | ⟨h1, s0, D, b, h2, h3, h4, h5, h6⟩
  · obtain ⟨_, s', k', g1, g2, g3⟩ := rch_play h2
    have hD := (rch_good hx _ _ _ h2)
    obtain ⟨u, q1, q2⟩ := rch_u hx h2
    have hi := q1.inv hx
    have hc := cntL_nonneg u.E
    have := hi.tot
    have := hi.D
    have := hx.len
    unfold PS.tot at *
    refine ⟨fun g => ?_, s', k', g1, ?_⟩
    · rcases g with g | ⟨g, _⟩
      · omega
      · rw [h1] at g; cases g
    · unfold PS.endP
      rw [h1, if_neg (by simp), g3, h3]
  · have h7 := Rch.drain h2 h3 h4
    obtain ⟨_, s', k', g1, g2, g3⟩ := rch_play h7
    obtain ⟨u, q1, q2⟩ := rch_u hx h7
    have hi := q1.inv hx
    have hc := cntL_nonneg u.E
    have := hi.tot
    have hDl := hi.D
    have := hx.len
    unfold PS.tot at *
    have e : im.t.D = D ++ [((x.l.length : Int), (b : Int))] := by rw [h6]
    have e2 : (D ++ [((x.l.length : Int), (b : Int))]).getD ((D ++ [((x.l.length : Int), (b : Int))]).length - 1) (0, 0) = ((x.l.length : Int), (b : Int)) := by simp [List.getD_eq_getElem?_getD]
    rw [e]
    refine ⟨fun g => ?_, s', k', g1, ?_⟩
    · rcases g with g | ⟨_, g | g⟩
      · omega
      · simp at g
      · rw [e2] at g; exact g rfl
    · unfold PS.endP
      rw [if_pos h1, g3, h5, e2]
      obtain ⟨n, hn⟩ := drain_M h4
      rw [hn]
      show (s0.M.set b n).set (b : Int).toNat (-2) = _
      rw [Int.toNat_natCast, C6.set_set _ (by have := hx.n; omega)]
end Go.Proofs

namespace Go.Proofs
open Go Go.Sx
set_option maxRecDepth 100000
set_option maxHeartbeats 40000000
-- SxAid2

/-- what no image loses -/
def sureP (x : Cache) (i : Nat) : Prop := ((x.l.getD i (0, 0)).1 = 1 ∨ (x.l.getD i (0, 0)).1 = 2) ∧ ∀ h, PosI x h → h.get (x.l.getD i (0, 0)).2.toNat = -2 ∨ (i : Int) ≤ h.get (x.l.getD i (0, 0)).2.toNat

open Classical in
noncomputable def sureL (x : Cache) (k : Nat) : List Int := ((List.range k).filter fun i => decide (sureP x i)).map fun (i : Nat) => (i : Int)

theorem sureL_succ (x : Cache) (k : Nat) : (sureP x k → sureL x (k + 1) = sureL x k ++ [(k : Int)]) ∧ (¬ sureP x k → sureL x (k + 1) = sureL x k) := by
  unfold sureL
  rw [List.range_succ, List.filter_append, List.map_append]
  constructor
  · intro h; simp [h]
  · intro h; simp [h]

theorem sureL_len (x : Cache) (k : Nat) : (sureL x k).length ≤ k := by
  unfold sureL
  have := List.length_filter_le (fun i => @decide (sureP x i) (Classical.propDecidable _)) (List.range k)
  simpa using this

open Classical in
noncomputable def sureV (x : Cache) : List V :=
  if x.chk = 0 then [if sureL x x.l.length = [] then .lit (.slice none 0 0) else .sl 1 (sureL x x.l.length).length (rowOf intC 0 (sureL x x.l.length)), .int .i64 0] else [.lit (.slice none 0 0), .int .i64 x.chk]

theorem Sure28 (x : Cache) (hl : x.l.length ≤ 1000000) (hs : x.chk = 0 → x.Small) : PureC Try.prog 28 false [x.v] (fun r => (x.chk = 0 → r = .tup [.sl 1 (sureL x x.l.length).length (rowOf intC 0 (sureL x x.l.length)), .int .i64 0]) ∧ (x.chk ≠ 0 → r = .tup [.lit (.slice none 0 0), .int .i64 x.chk])) := by
  refine pureC_of_exec Try.E_ok Try.func28 rfl (by kernel_rfl) ?_
  (repeat' ((conv => whnf); (first | ((first | with_reducible refine spl (fun hc => ?_) (fun hc => ?_) | with_reducible refine spl' (fun hc => ?_) (fun hc => ?_)) <;> try (exfalso; omega)) | with_reducible refine imp_intro (fun hc => ?_) | refine vcq (k := ?_) | refine dr 1 (k := ?_)))); all_goals (try conv => whnf); all_goals (try with_reducible exact trivial); (repeat' ((first | (refine callee_fo (check36 x hl) rfl ?_; rintro _ rfl) | (refine pcall_intro (check36 x hl) rfl ?_) | (refine pcall_soft (fun _ => check36 x hl) rfl ?_)); (repeat' ((conv => whnf); (first | ((first | with_reducible refine spl (fun hc => ?_) (fun hc => ?_) | with_reducible refine spl' (fun hc => ?_) (fun hc => ?_)) <;> try (exfalso; omega)) | with_reducible refine imp_intro (fun hc => ?_) | refine vcq (k := ?_) | refine dr 1 (k := ?_)))); all_goals (try conv => whnf); all_goals (try with_reducible exact trivial)))
  · have hk : x.chk ≠ 0 := hc
    refine ⟨_, ⟨fun h => absurd h hk, fun _ => rfl⟩, ?_⟩
    (repeat' ((conv => whnf); (first | ((first | with_reducible refine spl (fun hc => ?_) (fun hc => ?_) | with_reducible refine spl' (fun hc => ?_) (fun hc => ?_)) <;> try (exfalso; omega)) | with_reducible refine imp_intro (fun hc => ?_) | refine vcq (k := ?_) | refine dr 1 (k := ?_)))); all_goals (try conv => whnf); all_goals (try with_reducible exact trivial)
  · have hk := Classical.not_not.1 hc
    have hx := hs hk
    have hn := hx.ok.n
    have hx16 := hx.ok.len
    refine callee_fo (images56s x hx) rfl ?_
    rintro _ ⟨L, hL, rfl⟩
    have hLl := hL.len
    (repeat' ((conv => whnf); (first | ((first | with_reducible refine spl (fun hc => ?_) (fun hc => ?_) | with_reducible refine spl' (fun hc => ?_) (fun hc => ?_)) <;> try (exfalso; omega)) | with_reducible refine imp_intro (fun hc => ?_) | refine vcq (k := ?_) | refine dr 1 (k := ?_)))); all_goals (try conv => whnf); all_goals (try with_reducible exact trivial)
    refine ⟨Nat × List Int, fun q => q.1 ≤ x.l.length ∧ q.2 = sureL x q.1, fun q => x.l.length - q.1, fun q => [(22, .int .i64 (q.1 : Nat)), (6, .osl 1 q.2.length)], fun _ => [], fun q => [.row 3 1 q.2.length (rowOf intC 0 q.2) true], (0, []), ⟨⟨by dsimp only; omega, rfl⟩, some [some 0, none], ?_⟩, ?_⟩
    · (repeat' ((conv => whnf); (first | ((first | with_reducible refine spl (fun hc => ?_) (fun hc => ?_) | with_reducible refine spl' (fun hc => ?_) (fun hc => ?_)) <;> try (exfalso; omega)) | with_reducible refine imp_intro (fun hc => ?_) | refine vcq (k := ?_) | refine dr 1 (k := ?_)))); all_goals (try conv => whnf); all_goals (try with_reducible exact trivial)
    · rintro ⟨i, l⟩ ⟨hi, hlq⟩
      dsimp only at hi hlq
      have hsl := sureL_len x i
      rw [← hlq] at hsl
      (repeat' ((conv => whnf); (first | ((first | with_reducible refine spl (fun hc => ?_) (fun hc => ?_) | with_reducible refine spl' (fun hc => ?_) (fun hc => ?_)) <;> try (exfalso; omega)) | with_reducible refine imp_intro (fun hc => ?_) | refine vcq (k := ?_) | refine dr 1 (k := ?_)))); all_goals (try conv => whnf); all_goals (try with_reducible exact trivial)
      · have hi1 : i < x.l.length := by dsimp only at hc; omega
        have hblk := hx.ok.blk hi1
        refine callee_fo (puts62 (x.l.getD (i : Int).toNat (0, 0))) rfl ?_
        rintro _ rfl
        have hti : (i : Int).toNat = i := Int.toNat_natCast i
        have hsu := sureL_succ x i
        (repeat' ((conv => whnf); (first | ((first | with_reducible refine spl (fun hc => ?_) (fun hc => ?_) | with_reducible refine spl' (fun hc => ?_) (fun hc => ?_)) <;> try (exfalso; omega)) | with_reducible refine imp_intro (fun hc => ?_) | refine vcq (k := ?_) | refine dr 1 (k := ?_)))); all_goals (try conv => whnf); all_goals (try with_reducible exact trivial)
        · have hno : ¬ sureP x i := fun h => hc h.1
          refine ⟨(i + 1, l), ⟨⟨by dsimp only; omega, by dsimp only; rw [hsu.2 hno]; exact hlq⟩, by dsimp only; omega⟩, some [some 0, some 1], ?_⟩
          (repeat' ((conv => whnf); (first | ((first | with_reducible refine spl (fun hc => ?_) (fun hc => ?_) | with_reducible refine spl' (fun hc => ?_) (fun hc => ?_)) <;> try (exfalso; omega)) | with_reducible refine imp_intro (fun hc => ?_) | refine vcq (k := ?_) | refine dr 1 (k := ?_)))); all_goals (try conv => whnf); all_goals (try with_reducible exact trivial)
        · have hp : (x.l.getD i (0, 0)).1 = 1 ∨ (x.l.getD i (0, 0)).1 = 2 := Classical.not_not.1 hc
          have hok : ∀ im ∈ L, PosI x im.h := fun im h => (hL.pos hx.ok _).1 ⟨im, h, rfl⟩
          have hsp : sureP x i ↔ ∀ q, q < L.length → (L.getD q Img.none).h.get (x.l.getD i (0, 0)).2.toNat = -2 ∨ (i : Int) ≤ (L.getD q Img.none).h.get (x.l.getD i (0, 0)).2.toNat := by
            constructor
            · intro h q hq
              have e : L.getD q Img.none = L[q] := by simp [List.getD_eq_getElem?_getD, hq]
              rw [e]
              exact h.2 _ (hok _ (List.getElem_mem hq))
            · intro h
              refine ⟨hp, fun c hc => ?_⟩
              obtain ⟨im, h1, rfl⟩ := (hL.pos hx.ok _).2 hc
              obtain ⟨q, hq, rfl⟩ := List.getElem_of_mem h1
              have e : L.getD q Img.none = L[q] := by simp [List.getD_eq_getElem?_getD, hq]
              rw [← e]
              exact h q hq
          have hb3 : (x.l.getD i (0, 0)).2 = 0 ∨ (x.l.getD i (0, 0)).2 = 1 ∨ (x.l.getD i (0, 0)).2 = 2 := by
            have := hblk hp
            have h3 := hx.n
            have := hx.ok.ord (x.l.getD i (0, 0)) (by rw [show x.l.getD i (0, 0) = x.l[i] by simp [List.getD_eq_getElem?_getD, hi1]]; exact List.getElem_mem hi1)
            unfold Cache.OkO at this
            omega
          rcases hb3 with hb | hb | hb
          · rw [hb] at hsp
            refine ⟨Nat, fun j => j ≤ L.length ∧ ∀ q, q < j → (L.getD q Img.none).h.get (0 : Int).toNat = -2 ∨ (i : Int) ≤ (L.getD q Img.none).h.get (0 : Int).toNat, fun j => L.length - j, fun j => [(32, .int .i64 (j : Nat))], fun j => [(2, .cells 42 [.int .i64 (x.l.getD i (0, 0)).1, .int .i64 0])], fun _ => [], 0, ⟨⟨by omega, fun q hq => by omega⟩, some [some 0, some 1, some 2], ?_⟩, ?_⟩
            · (repeat' ((conv => whnf); (first | ((first | with_reducible refine spl (fun hc => ?_) (fun hc => ?_) | with_reducible refine spl' (fun hc => ?_) (fun hc => ?_)) <;> try (exfalso; omega)) | with_reducible refine imp_intro (fun hc => ?_) | refine vcq (k := ?_) | refine dr 1 (k := ?_)))); all_goals (try conv => whnf); all_goals (try with_reducible exact trivial)
              refine ⟨by rw [hti]; exact hb, ?_⟩
              (repeat' ((conv => whnf); (first | ((first | with_reducible refine spl (fun hc => ?_) (fun hc => ?_) | with_reducible refine spl' (fun hc => ?_) (fun hc => ?_)) <;> try (exfalso; omega)) | with_reducible refine imp_intro (fun hc => ?_) | refine vcq (k := ?_) | refine dr 1 (k := ?_)))); all_goals (try conv => whnf); all_goals (try with_reducible exact trivial)
            · rintro j ⟨h1, h2⟩
              have h1 : j ≤ L.length := h1
              have htj : (j : Int).toNat = j := Int.toNat_natCast j
              (repeat' ((conv => whnf); (first | ((first | with_reducible refine spl (fun hc => ?_) (fun hc => ?_) | with_reducible refine spl' (fun hc => ?_) (fun hc => ?_)) <;> try (exfalso; omega)) | with_reducible refine imp_intro (fun hc => ?_) | refine vcq (k := ?_) | refine dr 1 (k := ?_)))); all_goals (try conv => whnf); all_goals (try with_reducible exact trivial)
              · have hj : j < L.length := by omega
                rw [htj] at hc
                have hno : ¬ sureP x i := fun h => by
                  rcases hsp.1 h j hj with g | g
                  · exact hc.1 g
                  · exact absurd (show (L.getD j Img.none).h.get (0 : Int).toNat < i from hc.2) (by omega)
                refine ⟨(i + 1, l), ⟨⟨by dsimp only; omega, by dsimp only; rw [hsu.2 hno]; exact hlq⟩, by dsimp only; omega⟩, some [some 0, some 1], ?_⟩
                (repeat' ((conv => whnf); (first | ((first | with_reducible refine spl (fun hc => ?_) (fun hc => ?_) | with_reducible refine spl' (fun hc => ?_) (fun hc => ?_)) <;> try (exfalso; omega)) | with_reducible refine imp_intro (fun hc => ?_) | refine vcq (k := ?_) | refine dr 1 (k := ?_)))); all_goals (try conv => whnf); all_goals (try with_reducible exact trivial)
              · have hj : j < L.length := by omega
                rw [htj] at hc
                refine ⟨j + 1, ⟨⟨by omega, fun q hq => ?_⟩, by dsimp only; omega⟩, some [some 0, some 1, some 2], ?_⟩
                · rcases Nat.lt_or_eq_of_le (show q ≤ j by omega) with g | rfl
                  · exact h2 q g
                  · have e : (L.getD q Img.none).h.get (0 : Int).toNat = (L.getD q Img.none).h.a0 := rfl
                    rw [e]
                    omega
                · (repeat' ((conv => whnf); (first | ((first | with_reducible refine spl (fun hc => ?_) (fun hc => ?_) | with_reducible refine spl' (fun hc => ?_) (fun hc => ?_)) <;> try (exfalso; omega)) | with_reducible refine imp_intro (fun hc => ?_) | refine vcq (k := ?_) | refine dr 1 (k := ?_)))); all_goals (try conv => whnf); all_goals (try with_reducible exact trivial)
              · obtain rfl : j = L.length := by omega
                have hyes : sureP x i := hsp.2 h2
                refine ⟨(i + 1, l ++ [(i : Int)]), ⟨⟨by dsimp only; omega, by dsimp only; rw [hsu.1 hyes, hlq]⟩, by dsimp only; omega⟩, some [some 0, some 4], ?_⟩
                (repeat' ((conv => whnf); (first | ((first | with_reducible refine spl (fun hc => ?_) (fun hc => ?_) | with_reducible refine spl' (fun hc => ?_) (fun hc => ?_)) <;> try (exfalso; omega)) | with_reducible refine imp_intro (fun hc => ?_) | refine vcq (k := ?_) | refine dr 1 (k := ?_)))); all_goals (try conv => whnf); all_goals (try with_reducible exact trivial)
                refine ⟨by simp, ?_⟩
                (repeat' ((conv => whnf); (first | ((first | with_reducible refine spl (fun hc => ?_) (fun hc => ?_) | with_reducible refine spl' (fun hc => ?_) (fun hc => ?_)) <;> try (exfalso; omega)) | with_reducible refine imp_intro (fun hc => ?_) | refine vcq (k := ?_) | refine dr 1 (k := ?_)))); all_goals (try conv => whnf); all_goals (try with_reducible exact trivial)
                refine ⟨by simp, rowOf_snoc (c := intC) (a := (i : Int)) (l := l) rfl (fun _ _ => rfl), ?_⟩
                (repeat' ((conv => whnf); (first | ((first | with_reducible refine spl (fun hc => ?_) (fun hc => ?_) | with_reducible refine spl' (fun hc => ?_) (fun hc => ?_)) <;> try (exfalso; omega)) | with_reducible refine imp_intro (fun hc => ?_) | refine vcq (k := ?_) | refine dr 1 (k := ?_)))); all_goals (try conv => whnf); all_goals (try with_reducible exact trivial)
          · rw [hb] at hsp
            refine ⟨Nat, fun j => j ≤ L.length ∧ ∀ q, q < j → (L.getD q Img.none).h.get (1 : Int).toNat = -2 ∨ (i : Int) ≤ (L.getD q Img.none).h.get (1 : Int).toNat, fun j => L.length - j, fun j => [(32, .int .i64 (j : Nat))], fun j => [(2, .cells 42 [.int .i64 (x.l.getD i (0, 0)).1, .int .i64 1])], fun _ => [], 0, ⟨⟨by omega, fun q hq => by omega⟩, some [some 0, some 1, some 2], ?_⟩, ?_⟩
            · (repeat' ((conv => whnf); (first | ((first | with_reducible refine spl (fun hc => ?_) (fun hc => ?_) | with_reducible refine spl' (fun hc => ?_) (fun hc => ?_)) <;> try (exfalso; omega)) | with_reducible refine imp_intro (fun hc => ?_) | refine vcq (k := ?_) | refine dr 1 (k := ?_)))); all_goals (try conv => whnf); all_goals (try with_reducible exact trivial)
              refine ⟨by rw [hti]; exact hb, ?_⟩
              (repeat' ((conv => whnf); (first | ((first | with_reducible refine spl (fun hc => ?_) (fun hc => ?_) | with_reducible refine spl' (fun hc => ?_) (fun hc => ?_)) <;> try (exfalso; omega)) | with_reducible refine imp_intro (fun hc => ?_) | refine vcq (k := ?_) | refine dr 1 (k := ?_)))); all_goals (try conv => whnf); all_goals (try with_reducible exact trivial)
            · rintro j ⟨h1, h2⟩
              have h1 : j ≤ L.length := h1
              have htj : (j : Int).toNat = j := Int.toNat_natCast j
              (repeat' ((conv => whnf); (first | ((first | with_reducible refine spl (fun hc => ?_) (fun hc => ?_) | with_reducible refine spl' (fun hc => ?_) (fun hc => ?_)) <;> try (exfalso; omega)) | with_reducible refine imp_intro (fun hc => ?_) | refine vcq (k := ?_) | refine dr 1 (k := ?_)))); all_goals (try conv => whnf); all_goals (try with_reducible exact trivial)
              · have hj : j < L.length := by omega
                rw [htj] at hc
                have hno : ¬ sureP x i := fun h => by
                  rcases hsp.1 h j hj with g | g
                  · exact hc.1 g
                  · exact absurd (show (L.getD j Img.none).h.get (1 : Int).toNat < i from hc.2) (by omega)
                refine ⟨(i + 1, l), ⟨⟨by dsimp only; omega, by dsimp only; rw [hsu.2 hno]; exact hlq⟩, by dsimp only; omega⟩, some [some 0, some 1], ?_⟩
                (repeat' ((conv => whnf); (first | ((first | with_reducible refine spl (fun hc => ?_) (fun hc => ?_) | with_reducible refine spl' (fun hc => ?_) (fun hc => ?_)) <;> try (exfalso; omega)) | with_reducible refine imp_intro (fun hc => ?_) | refine vcq (k := ?_) | refine dr 1 (k := ?_)))); all_goals (try conv => whnf); all_goals (try with_reducible exact trivial)
              · have hj : j < L.length := by omega
                rw [htj] at hc
                refine ⟨j + 1, ⟨⟨by omega, fun q hq => ?_⟩, by dsimp only; omega⟩, some [some 0, some 1, some 2], ?_⟩
                · rcases Nat.lt_or_eq_of_le (show q ≤ j by omega) with g | rfl
                  · exact h2 q g
                  · have e : (L.getD q Img.none).h.get (1 : Int).toNat = (L.getD q Img.none).h.a1 := rfl
                    rw [e]
                    omega
                · (repeat' ((conv => whnf); (first | ((first | with_reducible refine spl (fun hc => ?_) (fun hc => ?_) | with_reducible refine spl' (fun hc => ?_) (fun hc => ?_)) <;> try (exfalso; omega)) | with_reducible refine imp_intro (fun hc => ?_) | refine vcq (k := ?_) | refine dr 1 (k := ?_)))); all_goals (try conv => whnf); all_goals (try with_reducible exact trivial)
              · obtain rfl : j = L.length := by omega
                have hyes : sureP x i := hsp.2 h2
                refine ⟨(i + 1, l ++ [(i : Int)]), ⟨⟨by dsimp only; omega, by dsimp only; rw [hsu.1 hyes, hlq]⟩, by dsimp only; omega⟩, some [some 0, some 4], ?_⟩
                (repeat' ((conv => whnf); (first | ((first | with_reducible refine spl (fun hc => ?_) (fun hc => ?_) | with_reducible refine spl' (fun hc => ?_) (fun hc => ?_)) <;> try (exfalso; omega)) | with_reducible refine imp_intro (fun hc => ?_) | refine vcq (k := ?_) | refine dr 1 (k := ?_)))); all_goals (try conv => whnf); all_goals (try with_reducible exact trivial)
                refine ⟨by simp, ?_⟩
                (repeat' ((conv => whnf); (first | ((first | with_reducible refine spl (fun hc => ?_) (fun hc => ?_) | with_reducible refine spl' (fun hc => ?_) (fun hc => ?_)) <;> try (exfalso; omega)) | with_reducible refine imp_intro (fun hc => ?_) | refine vcq (k := ?_) | refine dr 1 (k := ?_)))); all_goals (try conv => whnf); all_goals (try with_reducible exact trivial)
                refine ⟨by simp, rowOf_snoc (c := intC) (a := (i : Int)) (l := l) rfl (fun _ _ => rfl), ?_⟩
                (repeat' ((conv => whnf); (first | ((first | with_reducible refine spl (fun hc => ?_) (fun hc => ?_) | with_reducible refine spl' (fun hc => ?_) (fun hc => ?_)) <;> try (exfalso; omega)) | with_reducible refine imp_intro (fun hc => ?_) | refine vcq (k := ?_) | refine dr 1 (k := ?_)))); all_goals (try conv => whnf); all_goals (try with_reducible exact trivial)
          · rw [hb] at hsp
            refine ⟨Nat, fun j => j ≤ L.length ∧ ∀ q, q < j → (L.getD q Img.none).h.get (2 : Int).toNat = -2 ∨ (i : Int) ≤ (L.getD q Img.none).h.get (2 : Int).toNat, fun j => L.length - j, fun j => [(32, .int .i64 (j : Nat))], fun j => [(2, .cells 42 [.int .i64 (x.l.getD i (0, 0)).1, .int .i64 2])], fun _ => [], 0, ⟨⟨by omega, fun q hq => by omega⟩, some [some 0, some 1, some 2], ?_⟩, ?_⟩
            · (repeat' ((conv => whnf); (first | ((first | with_reducible refine spl (fun hc => ?_) (fun hc => ?_) | with_reducible refine spl' (fun hc => ?_) (fun hc => ?_)) <;> try (exfalso; omega)) | with_reducible refine imp_intro (fun hc => ?_) | refine vcq (k := ?_) | refine dr 1 (k := ?_)))); all_goals (try conv => whnf); all_goals (try with_reducible exact trivial)
              refine ⟨by rw [hti]; exact hb, ?_⟩
              (repeat' ((conv => whnf); (first | ((first | with_reducible refine spl (fun hc => ?_) (fun hc => ?_) | with_reducible refine spl' (fun hc => ?_) (fun hc => ?_)) <;> try (exfalso; omega)) | with_reducible refine imp_intro (fun hc => ?_) | refine vcq (k := ?_) | refine dr 1 (k := ?_)))); all_goals (try conv => whnf); all_goals (try with_reducible exact trivial)
            · rintro j ⟨h1, h2⟩
              have h1 : j ≤ L.length := h1
              have htj : (j : Int).toNat = j := Int.toNat_natCast j
              (repeat' ((conv => whnf); (first | ((first | with_reducible refine spl (fun hc => ?_) (fun hc => ?_) | with_reducible refine spl' (fun hc => ?_) (fun hc => ?_)) <;> try (exfalso; omega)) | with_reducible refine imp_intro (fun hc => ?_) | refine vcq (k := ?_) | refine dr 1 (k := ?_)))); all_goals (try conv => whnf); all_goals (try with_reducible exact trivial)
              · have hj : j < L.length := by omega
                rw [htj] at hc
                have hno : ¬ sureP x i := fun h => by
                  rcases hsp.1 h j hj with g | g
                  · exact hc.1 g
                  · exact absurd (show (L.getD j Img.none).h.get (2 : Int).toNat < i from hc.2) (by omega)
                refine ⟨(i + 1, l), ⟨⟨by dsimp only; omega, by dsimp only; rw [hsu.2 hno]; exact hlq⟩, by dsimp only; omega⟩, some [some 0, some 1], ?_⟩
                (repeat' ((conv => whnf); (first | ((first | with_reducible refine spl (fun hc => ?_) (fun hc => ?_) | with_reducible refine spl' (fun hc => ?_) (fun hc => ?_)) <;> try (exfalso; omega)) | with_reducible refine imp_intro (fun hc => ?_) | refine vcq (k := ?_) | refine dr 1 (k := ?_)))); all_goals (try conv => whnf); all_goals (try with_reducible exact trivial)
              · have hj : j < L.length := by omega
                rw [htj] at hc
                refine ⟨j + 1, ⟨⟨by omega, fun q hq => ?_⟩, by dsimp only; omega⟩, some [some 0, some 1, some 2], ?_⟩
                · rcases Nat.lt_or_eq_of_le (show q ≤ j by omega) with g | rfl
                  · exact h2 q g
                  · have e : (L.getD q Img.none).h.get (2 : Int).toNat = (L.getD q Img.none).h.a2 := rfl
                    rw [e]
                    omega
                · (repeat' ((conv => whnf); (first | ((first | with_reducible refine spl (fun hc => ?_) (fun hc => ?_) | with_reducible refine spl' (fun hc => ?_) (fun hc => ?_)) <;> try (exfalso; omega)) | with_reducible refine imp_intro (fun hc => ?_) | refine vcq (k := ?_) | refine dr 1 (k := ?_)))); all_goals (try conv => whnf); all_goals (try with_reducible exact trivial)
              · obtain rfl : j = L.length := by omega
                have hyes : sureP x i := hsp.2 h2
                refine ⟨(i + 1, l ++ [(i : Int)]), ⟨⟨by dsimp only; omega, by dsimp only; rw [hsu.1 hyes, hlq]⟩, by dsimp only; omega⟩, some [some 0, some 4], ?_⟩
                (repeat' ((conv => whnf); (first | ((first | with_reducible refine spl (fun hc => ?_) (fun hc => ?_) | with_reducible refine spl' (fun hc => ?_) (fun hc => ?_)) <;> try (exfalso; omega)) | with_reducible refine imp_intro (fun hc => ?_) | refine vcq (k := ?_) | refine dr 1 (k := ?_)))); all_goals (try conv => whnf); all_goals (try with_reducible exact trivial)
                refine ⟨by simp, ?_⟩
                (repeat' ((conv => whnf); (first | ((first | with_reducible refine spl (fun hc => ?_) (fun hc => ?_) | with_reducible refine spl' (fun hc => ?_) (fun hc => ?_)) <;> try (exfalso; omega)) | with_reducible refine imp_intro (fun hc => ?_) | refine vcq (k := ?_) | refine dr 1 (k := ?_)))); all_goals (try conv => whnf); all_goals (try with_reducible exact trivial)
                refine ⟨by simp, rowOf_snoc (c := intC) (a := (i : Int)) (l := l) rfl (fun _ _ => rfl), ?_⟩
                (repeat' ((conv => whnf); (first | ((first | with_reducible refine spl (fun hc => ?_) (fun hc => ?_) | with_reducible refine spl' (fun hc => ?_) (fun hc => ?_)) <;> try (exfalso; omega)) | with_reducible refine imp_intro (fun hc => ?_) | refine vcq (k := ?_) | refine dr 1 (k := ?_)))); all_goals (try conv => whnf); all_goals (try with_reducible exact trivial)
      · obtain rfl : i = x.l.length := by dsimp only at hc; omega
        rw [← hlq]
        refine ⟨_, ⟨fun _ => rfl, fun h => absurd hk h⟩, ?_⟩
        (repeat' ((conv => whnf); (first | ((first | with_reducible refine spl (fun hc => ?_) (fun hc => ?_) | with_reducible refine spl' (fun hc => ?_) (fun hc => ?_)) <;> try (exfalso; omega)) | with_reducible refine imp_intro (fun hc => ?_) | refine vcq (k := ?_) | refine dr 1 (k := ?_)))); all_goals (try conv => whnf); all_goals (try with_reducible exact trivial)
end Go.Proofs

namespace Go.Proofs
open Go Go.Sx
set_option maxRecDepth 100000
set_option maxHeartbeats 40000000
-- SxAid2

def iF (F : Nat → Int) (b : Nat) : List V := [.int .i64 (F b)]

theorem sameInts30 (n m : Nat) (hn : n ≤ 1000000) (_hm : m ≤ 1000000) (F G : Nat → Int) : PureC Try.prog 30 false [.sl 1 n (iF F), .sl 1 m (iF G)] (· = .prop (n = m ∧ ∀ b, b < n → F b = G b) (Classical.propDecidable _)) := by
  refine pureC_of_exec Try.E_ok Try.func30 rfl (by kernel_rfl) ?_
  (repeat' ((conv => whnf); (first | ((first | with_reducible refine spl (fun hc => ?_) (fun hc => ?_) | with_reducible refine spl' (fun hc => ?_) (fun hc => ?_)) <;> try (exfalso; omega)) | with_reducible refine imp_intro (fun hc => ?_) | refine vcq (k := ?_) | refine dr 9 (k := ?_)))); all_goals (try conv => whnf); all_goals (try with_reducible exact trivial)
  · refine ⟨_, rfl, ?_⟩
    (repeat' ((conv => whnf); (first | ((first | with_reducible refine spl (fun hc => ?_) (fun hc => ?_) | with_reducible refine spl' (fun hc => ?_) (fun hc => ?_)) <;> try (exfalso; omega)) | with_reducible refine imp_intro (fun hc => ?_) | refine vcq (k := ?_) | refine dr 9 (k := ?_)))); all_goals (try conv => whnf); all_goals (try with_reducible exact trivial)
  · have hnl : n = m := by omega
    refine ⟨Nat, fun i => i ≤ n ∧ ∀ b, b < i → F b = G b, fun i => n - i, fun i => [(5, .int .i64 (i : Nat))], fun _ => [], fun _ => [], 0, ⟨⟨by omega, fun b hb => by omega⟩, none, ?_⟩, ?_⟩
    · (repeat' ((conv => whnf); (first | ((first | with_reducible refine spl (fun hc => ?_) (fun hc => ?_) | with_reducible refine spl' (fun hc => ?_) (fun hc => ?_)) <;> try (exfalso; omega)) | with_reducible refine imp_intro (fun hc => ?_) | refine vcq (k := ?_) | refine dr 9 (k := ?_)))); all_goals (try conv => whnf); all_goals (try with_reducible exact trivial)
    · rintro i ⟨h1, h2⟩
      have hti : (i : Int).toNat = i := Int.toNat_natCast i
      (repeat' ((conv => whnf); (first | ((first | with_reducible refine spl (fun hc => ?_) (fun hc => ?_) | with_reducible refine spl' (fun hc => ?_) (fun hc => ?_)) <;> try (exfalso; omega)) | with_reducible refine imp_intro (fun hc => ?_) | refine vcq (k := ?_) | refine dr 9 (k := ?_)))); all_goals (try conv => whnf); all_goals (try with_reducible exact trivial)
      · refine ⟨_, rfl, ?_⟩
        (repeat' ((conv => whnf); (first | ((first | with_reducible refine spl (fun hc => ?_) (fun hc => ?_) | with_reducible refine spl' (fun hc => ?_) (fun hc => ?_)) <;> try (exfalso; omega)) | with_reducible refine imp_intro (fun hc => ?_) | refine vcq (k := ?_) | refine dr 9 (k := ?_)))); all_goals (try conv => whnf); all_goals (try with_reducible exact trivial)
        refine ⟨fun h => ?_, trivial⟩
        rw [hti] at hc
        exact hc (h.2 i (by omega))
      · rw [hti] at hc
        refine ⟨i + 1, ⟨⟨by omega, fun b hb => ?_⟩, by dsimp only; omega⟩, none, ?_⟩
        · rcases Nat.lt_or_eq_of_le (show b ≤ i by omega) with h | rfl
          · exact h2 b h
          · exact Classical.not_not.1 hc
        · (repeat' ((conv => whnf); (first | ((first | with_reducible refine spl (fun hc => ?_) (fun hc => ?_) | with_reducible refine spl' (fun hc => ?_) (fun hc => ?_)) <;> try (exfalso; omega)) | with_reducible refine imp_intro (fun hc => ?_) | refine vcq (k := ?_) | refine dr 9 (k := ?_)))); all_goals (try conv => whnf); all_goals (try with_reducible exact trivial)
      · refine ⟨_, rfl, ?_⟩
        (repeat' ((conv => whnf); (first | ((first | with_reducible refine spl (fun hc => ?_) (fun hc => ?_) | with_reducible refine spl' (fun hc => ?_) (fun hc => ?_)) <;> try (exfalso; omega)) | with_reducible refine imp_intro (fun hc => ?_) | refine vcq (k := ?_) | refine dr 9 (k := ?_)))); all_goals (try conv => whnf); all_goals (try with_reducible exact trivial)
        exact ⟨⟨hnl, fun b hb => h2 b (by omega)⟩, trivial⟩

/-- the example -/
def ex : Cache := ⟨3, [(1, 0), (1, 1), (3, 0), (1, 0), (2, 2), (1, 1)]⟩

theorem ex_ok : ex.Ok := by
  refine ⟨by decide, by decide, fun o ho => ?_⟩
  simp only [ex, List.mem_cons, List.not_mem_nil, or_false] at ho
  unfold Cache.OkO
  rcases ho with rfl | rfl | rfl | rfl | rfl | rfl <;> decide

theorem ex_chk : ex.chk = 0 := if_pos ex_ok
theorem ex_small : ex.Small := ⟨ex_ok, by decide, by decide⟩

theorem Example41 : PureC Try.prog 41 false [] (· = ex.v) := by
  refine pureC_of_exec Try.E_ok Try.func41 rfl (by kernel_rfl) ?_
  (repeat' ((conv => whnf); (first | ((first | with_reducible refine spl (fun hc => ?_) (fun hc => ?_) | with_reducible refine spl' (fun hc => ?_) (fun hc => ?_)) <;> try (exfalso; omega)) | with_reducible refine imp_intro (fun hc => ?_) | refine vcq (k := ?_) | refine dr 9 (k := ?_)))); all_goals (try conv => whnf); all_goals (try with_reducible exact trivial)
  refine ⟨_, rfl, ?_⟩
  (repeat' ((conv => whnf); (first | ((first | with_reducible refine spl (fun hc => ?_) (fun hc => ?_) | with_reducible refine spl' (fun hc => ?_) (fun hc => ?_)) <;> try (exfalso; omega)) | with_reducible refine imp_intro (fun hc => ?_) | refine vcq (k := ?_) | refine dr 9 (k := ?_)))); all_goals (try conv => whnf); all_goals (try with_reducible exact trivial)
  refine ⟨fun i hi => ?_, .inr fun i hi => ?_, trivial⟩
  · have : i = 0 ∨ i = 1 ∨ i = 2 ∨ i = 3 ∨ i = 4 ∨ i = 5 := by omega
    rcases this with rfl | rfl | rfl | rfl | rfl | rfl <;> rfl
  · rfl

theorem run_rch (x : Cache) : ∀ k, k ≤ x.l.length → Rch x k (PS.run x.l k) []
  | 0, _ => .begin
  | k + 1, h => (run_rch x k (by omega)).order (by omega)

theorem ex_run : (PS.run ex.l 6).M = ⟨0, 1, 4, -1, -1, -1⟩ ∧ (PS.run ex.l 6).E = [⟨3, 5, -3, -3, -3, -3⟩] ∧ (PS.run ex.l 6).W + (PS.run ex.l 6).waits = 5 := by
  decide +kernel

theorem ex_can : (PS.run ex.l 6).can 0 := by
  unfold PS.can PS.ep
  rw [ex_run.2.1]
  decide

theorem ex_rch : Rch ex ex.l.length (PS.run ex.l 6) [] := run_rch ex 6 (by decide)

theorem ex_w1 : PosI ex ⟨0, 1, 4, -1, -1, -1⟩ := ⟨⟨⟨_, _⟩, _, false⟩, .inl ⟨rfl, ex_rch, rfl⟩, ex_run.1⟩

theorem ex_w2 : PosI ex (((PS.run ex.l 6).drain 0).M) := ⟨⟨⟨_, _⟩, _, false⟩, .inl ⟨rfl, ex_rch.drain (b := 0) (by decide) ex_can, rfl⟩, rfl⟩

theorem ex_w3 : PosI ex ((PS.run ex.l 6).M.set 0 (-2)) := ⟨⟨⟨_, _⟩, _, true⟩, .inr ⟨rfl, _, _, 0, ex_rch, by decide, ex_can, rfl, rfl⟩, rfl⟩

theorem ex_drain : ((PS.run ex.l 6).drain 0).M.get 0 = 3 := by decide +kernel

theorem ex_all {h : C6} (hp : PosI ex h) : (h.get 0 = -2 ∨ h.get 0 = 0 ∨ h.get 0 = 3) ∧ (h.get 1 = -2 ∨ 1 ≤ h.get 1) ∧ (h.get 2 = -2 ∨ 4 ≤ h.get 2) := by
  have hput : ∀ q b, putQ ex q b → q < 6 → b = 0 → q = 0 ∨ q = 3 := by
    rintro q b ⟨h1, h2⟩ hq rfl
    have : q = 0 ∨ q = 1 ∨ q = 2 ∨ q = 3 ∨ q = 4 ∨ q = 5 := by omega
    rcases this with rfl | rfl | rfl | rfl | rfl | rfl
    · exact .inl rfl
    · exact absurd h2 (by decide)
    · exact absurd h1 (by decide)
    · exact .inr rfl
    · exact absurd h2 (by decide)
    · exact absurd h2 (by decide)
  obtain ⟨u, D, h1, h2⟩ := hp.u ex_ok
  have hB := h1.invB ex_ok
  have m2 : (4 : Int) ≤ u.M.get 2 := hB.fo 4 (by decide) rfl 2 (by omega) ⟨.inr rfl, rfl⟩
  have bar := fun q hq b hb hp => h1.barrier ex_ok (i := 2) (by decide) (.inl ⟨rfl, 2, by omega, by omega⟩) (q := q) hq (b := b) hb hp
  have m0 : (0 : Int) ≤ u.M.get 0 := bar 0 (by omega) 0 (by omega) ⟨.inl rfl, rfl⟩
  have m1 : (1 : Int) ≤ u.M.get 1 := bar 1 (by omega) 1 (by omega) ⟨.inl rfl, rfl⟩
  have m0' : u.M.get 0 = 0 ∨ u.M.get 0 = 3 := by
    rcases (h1.inv ex_ok).inv.med 0 (by omega) with g | ⟨q, g1, g2, g3⟩
    · omega
    · have := hput q 0 g3 g1 rfl
      omega
  have key : ∀ b, b < 6 → h.get b = -2 ∨ h.get b = u.M.get b := by
    intro b hb
    rcases h2 with rfl | ⟨b0, g1, g2, rfl⟩
    · exact .inr rfl
    · have : (ex.n : Int) = 3 := rfl
      rw [C6.get_set (by omega) hb]
      split
      · exact .inl rfl
      · exact .inr rfl
  have k0 := key 0 (by omega)
  have k1 := key 1 (by omega)
  have k2 := key 2 (by omega)
  omega

theorem ex_canL : canL ex 0 = [-2, 0, 3] := by
  have h : ∀ n ∈ vals9, (@decide (PosV ex 0 n) (Classical.propDecidable _)) = decide (n = -2 ∨ n = 0 ∨ n = 3) := by
    intro n _
    rw [decide_eq_decide]
    constructor
    · rintro ⟨c, h1, rfl⟩
      exact (ex_all h1).1
    · rintro (rfl | rfl | rfl)
      · exact ⟨_, ex_w3, by rw [C6.get_set (by omega) (by omega), if_pos rfl]⟩
      · exact ⟨_, ex_w1, rfl⟩
      · exact ⟨_, ex_w2, ex_drain⟩
  unfold canL
  rw [List.filter_congr h]
  decide

theorem ex_sureL : sureL ex 6 = [0, 1, 4] := by
  have h : ∀ i ∈ List.range 6, (@decide (sureP ex i) (Classical.propDecidable _)) = decide (i = 0 ∨ i = 1 ∨ i = 4) := by
    intro i hi
    rw [decide_eq_decide]
    have : i = 0 ∨ i = 1 ∨ i = 2 ∨ i = 3 ∨ i = 4 ∨ i = 5 := by have := List.mem_range.1 hi; omega
    rcases this with rfl | rfl | rfl | rfl | rfl | rfl
    · refine ⟨fun _ => by decide, fun _ => ⟨.inl rfl, fun h hp => ?_⟩⟩
      show h.get 0 = -2 ∨ _ ≤ h.get 0
      have := (ex_all hp).1
      omega
    · refine ⟨fun _ => by decide, fun _ => ⟨.inl rfl, fun h hp => ?_⟩⟩
      exact (ex_all hp).2.1
    · refine ⟨fun g => absurd g.1 (by decide), fun g => absurd g (by decide)⟩
    · refine ⟨fun g => absurd (g.2 _ ex_w1) (by decide), fun g => absurd g (by decide)⟩
    · refine ⟨fun _ => by decide, fun _ => ⟨.inr rfl, fun h hp => ?_⟩⟩
      exact (ex_all hp).2.2
    · refine ⟨fun g => absurd (g.2 _ ex_w1) (by decide), fun g => absurd g (by decide)⟩
  unfold sureL
  rw [List.filter_congr h]
  decide

theorem can_ex : PureC Try.prog 25 false [ex.v, .int .i64 0] (· = .tup [.sl 1 3 (rowOf intC 0 [-2, 0, 3]), .int .i64 0]) := by
  have h := Can25 ex (by decide) (fun _ => ex_small) 0
  have e : canV ex 0 = [.sl 1 3 (rowOf intC 0 [-2, 0, 3]), .int .i64 0] := by
    unfold canV
    rw [if_pos ex_chk, if_pos (by decide)]
    rw [show (0 : Int).toNat = 0 from rfl, ex_canL]
    rfl
  rw [e] at h
  exact h

theorem sure_ex : PureC Try.prog 28 false [ex.v] (· = .tup [.sl 1 3 (rowOf intC 0 [0, 1, 4]), .int .i64 0]) := by
  refine (Sure28 ex (by decide) (fun _ => ex_small)).mono fun r hr => ?_
  have := hr.1 ex_chk
  rw [show ex.l.length = 6 from rfl, ex_sureL] at this
  exact this

theorem writes_ex : PureC Try.prog 14 false [ex.v] (· = .tup [.int .i64 5, .int .i64 0]) := by
  have h := Writes14 ex (by decide)
  rw [if_pos ex_chk, show ex.l.length = 6 from rfl, ex_run.2.2] at h
  exact h

theorem play_ex : PureC Try.prog 20 false [ex.v, .sl 2 1 (rowOf oC (0, 0) [(6, 0)]), .prop (true = true) inferInstance] (· = .tup [.sl 1 3 (fun b => [.int .i64 ((⟨-2, 1, 4, -1, -1, -1⟩ : C6).get b)]), .int .i64 0]) := by
  have h := Play20 ex (by decide) [(6, 0)] (by decide) true
  have e : playV ex [(6, 0)] true = [.sl 1 3 (fun b => [.int .i64 ((⟨-2, 1, 4, -1, -1, -1⟩ : C6).get b)]), .int .i64 0] := by
    unfold playV
    have hc : (((0 : Nat) : Int) ≤ (([(6, 0)] : List (Int × Int)).getD 0 (0, 0)).1 ∧ (([(6, 0)] : List (Int × Int)).getD 0 (0, 0)).1 ≤ ex.l.length) ∧ (0 ≤ (([(6, 0)] : List (Int × Int)).getD 0 (0, 0)).2 ∧ (([(6, 0)] : List (Int × Int)).getD 0 (0, 0)).2 ≤ ex.n - 1) ∧
        (PS.from ex.l PS.begin 0 ((([(6, 0)] : List (Int × Int)).getD 0 (0, 0)).1.toNat - 0)).can (([(6, 0)] : List (Int × Int)).getD 0 (0, 0)).2.toNat := ⟨by decide, by decide, ex_can⟩
    have hp : PS.playD ex [(6, 0)] 1 = some ((PS.run ex.l 6).drain 0, 6) := by
      simp only [PS.playD]
      rw [if_pos hc]
      rfl
    have he : PS.endP ex [(6, 0)] true ((PS.run ex.l 6).drain 0) 6 = ⟨-2, 1, 4, -1, -1, -1⟩ := by decide +kernel
    rw [if_pos ex_chk, if_neg (by unfold badPl; decide), show ([(6, 0)] : List (Int × Int)).length = 1 from rfl, hp]
    dsimp only
    rw [he]
    rfl
  rw [e] at h
  exact h

theorem works13 : PureC Try.prog 13 false [] (· = .prop True inferInstance) := by
  refine pureC_of_exec Try.E_ok Try.func13 rfl (by kernel_rfl) ?_
  (repeat' ((conv => whnf); (first | ((first | with_reducible refine spl (fun hc => ?_) (fun hc => ?_) | with_reducible refine spl' (fun hc => ?_) (fun hc => ?_)) <;> try (exfalso; omega)) | with_reducible refine imp_intro (fun hc => ?_) | refine vcq (k := ?_) | refine dr 9 (k := ?_)))); all_goals (try conv => whnf); all_goals (try with_reducible exact trivial); (repeat' ((first | (refine callee_fo (Example41) rfl ?_; rintro _ rfl) | (refine pcall_intro (Example41) rfl ?_) | (refine pcall_soft (fun _ => Example41) rfl ?_) | (refine callee_fo (can_ex) rfl ?_; rintro _ rfl) | (refine pcall_intro (can_ex) rfl ?_) | (refine pcall_soft (fun _ => can_ex) rfl ?_) | (refine callee_fo (sure_ex) rfl ?_; rintro _ rfl) | (refine pcall_intro (sure_ex) rfl ?_) | (refine pcall_soft (fun _ => sure_ex) rfl ?_) | (refine callee_fo (writes_ex) rfl ?_; rintro _ rfl) | (refine pcall_intro (writes_ex) rfl ?_) | (refine pcall_soft (fun _ => writes_ex) rfl ?_) | (refine callee_fo (play_ex) rfl ?_; rintro _ rfl) | (refine pcall_intro (play_ex) rfl ?_) | (refine pcall_soft (fun _ => play_ex) rfl ?_)); (repeat' ((conv => whnf); (first | ((first | with_reducible refine spl (fun hc => ?_) (fun hc => ?_) | with_reducible refine spl' (fun hc => ?_) (fun hc => ?_)) <;> try (exfalso; omega)) | with_reducible refine imp_intro (fun hc => ?_) | refine vcq (k := ?_) | refine dr 9 (k := ?_)))); all_goals (try conv => whnf); all_goals (try with_reducible exact trivial)))
  refine callee_view play_ex ?_
  (repeat' ((conv => whnf); (first | ((first | with_reducible refine spl (fun hc => ?_) (fun hc => ?_) | with_reducible refine spl' (fun hc => ?_) (fun hc => ?_)) <;> try (exfalso; omega)) | with_reducible refine imp_intro (fun hc => ?_) | refine vcq (k := ?_) | refine dr 9 (k := ?_)))); all_goals (try conv => whnf); all_goals (try with_reducible exact trivial)
  refine ⟨fun i hi => by have : i = 0 := by omega
                         subst this
                         rfl, .inl rfl, ?_⟩
  (repeat' ((conv => whnf); (first | ((first | with_reducible refine spl (fun hc => ?_) (fun hc => ?_) | with_reducible refine spl' (fun hc => ?_) (fun hc => ?_)) <;> try (exfalso; omega)) | with_reducible refine imp_intro (fun hc => ?_) | refine vcq (k := ?_) | refine dr 9 (k := ?_)))); all_goals (try conv => whnf); all_goals (try with_reducible exact trivial)
  rintro _ rfl
  (repeat' ((conv => whnf); (first | ((first | with_reducible refine spl (fun hc => ?_) (fun hc => ?_) | with_reducible refine spl' (fun hc => ?_) (fun hc => ?_)) <;> try (exfalso; omega)) | with_reducible refine imp_intro (fun hc => ?_) | refine vcq (k := ?_) | refine dr 9 (k := ?_)))); all_goals (try conv => whnf); all_goals (try with_reducible exact trivial)
  have th : ∀ {p : Nat → Prop}, p 0 → p 1 → p 2 → ∀ i, i < 3 → p i := by
    intro p h0 h1 h2 i hi
    have : i = 0 ∨ i = 1 ∨ i = 2 := by omega
    rcases this with rfl | rfl | rfl <;> assumption
  refine callee_view (sameInts30 3 3 (by omega) (by omega) (fun b => ([-2, 0, 3] : List Int).getD b 0) (fun b => ([-2, 0, 3] : List Int).getD b 0)) ?_
  (repeat' ((conv => whnf); (first | ((first | with_reducible refine spl (fun hc => ?_) (fun hc => ?_) | with_reducible refine spl' (fun hc => ?_) (fun hc => ?_)) <;> try (exfalso; omega)) | with_reducible refine imp_intro (fun hc => ?_) | refine vcq (k := ?_) | refine dr 9 (k := ?_)))); all_goals (try conv => whnf); all_goals (try with_reducible exact trivial)
  refine ⟨th rfl rfl rfl, .inl rfl, ?_⟩
  (repeat' ((conv => whnf); (first | ((first | with_reducible refine spl (fun hc => ?_) (fun hc => ?_) | with_reducible refine spl' (fun hc => ?_) (fun hc => ?_)) <;> try (exfalso; omega)) | with_reducible refine imp_intro (fun hc => ?_) | refine vcq (k := ?_) | refine dr 9 (k := ?_)))); all_goals (try conv => whnf); all_goals (try with_reducible exact trivial)
  rintro _ rfl
  (repeat' ((conv => whnf); (first | ((first | with_reducible refine spl (fun hc => ?_) (fun hc => ?_) | with_reducible refine spl' (fun hc => ?_) (fun hc => ?_)) <;> try (exfalso; omega)) | with_reducible refine imp_intro (fun hc => ?_) | refine vcq (k := ?_) | refine dr 9 (k := ?_)))); all_goals (try conv => whnf); all_goals (try with_reducible exact trivial)
  · refine callee_view (sameInts30 3 3 (by omega) (by omega) (fun b => ([0, 1, 4] : List Int).getD b 0) (fun b => ([0, 1, 4] : List Int).getD b 0)) ?_
    (repeat' ((conv => whnf); (first | ((first | with_reducible refine spl (fun hc => ?_) (fun hc => ?_) | with_reducible refine spl' (fun hc => ?_) (fun hc => ?_)) <;> try (exfalso; omega)) | with_reducible refine imp_intro (fun hc => ?_) | refine vcq (k := ?_) | refine dr 9 (k := ?_)))); all_goals (try conv => whnf); all_goals (try with_reducible exact trivial)
    refine ⟨th rfl rfl rfl, .inl rfl, ?_⟩
    (repeat' ((conv => whnf); (first | ((first | with_reducible refine spl (fun hc => ?_) (fun hc => ?_) | with_reducible refine spl' (fun hc => ?_) (fun hc => ?_)) <;> try (exfalso; omega)) | with_reducible refine imp_intro (fun hc => ?_) | refine vcq (k := ?_) | refine dr 9 (k := ?_)))); all_goals (try conv => whnf); all_goals (try with_reducible exact trivial)
    rintro _ rfl
    (repeat' ((conv => whnf); (first | ((first | with_reducible refine spl (fun hc => ?_) (fun hc => ?_) | with_reducible refine spl' (fun hc => ?_) (fun hc => ?_)) <;> try (exfalso; omega)) | with_reducible refine imp_intro (fun hc => ?_) | refine vcq (k := ?_) | refine dr 9 (k := ?_)))); all_goals (try conv => whnf); all_goals (try with_reducible exact trivial)
    · refine callee_view (sameInts30 3 3 (by omega) (by omega) (fun b => ((⟨-2, 1, 4, -1, -1, -1⟩ : C6).get b)) (fun b => ([-2, 1, 4] : List Int).getD b 0)) ?_
      (repeat' ((conv => whnf); (first | ((first | with_reducible refine spl (fun hc => ?_) (fun hc => ?_) | with_reducible refine spl' (fun hc => ?_) (fun hc => ?_)) <;> try (exfalso; omega)) | with_reducible refine imp_intro (fun hc => ?_) | refine vcq (k := ?_) | refine dr 9 (k := ?_)))); all_goals (try conv => whnf); all_goals (try with_reducible exact trivial)
      refine ⟨th rfl rfl rfl, .inl rfl, ?_⟩
      (repeat' ((conv => whnf); (first | ((first | with_reducible refine spl (fun hc => ?_) (fun hc => ?_) | with_reducible refine spl' (fun hc => ?_) (fun hc => ?_)) <;> try (exfalso; omega)) | with_reducible refine imp_intro (fun hc => ?_) | refine vcq (k := ?_) | refine dr 9 (k := ?_)))); all_goals (try conv => whnf); all_goals (try with_reducible exact trivial)
      rintro _ rfl
      (repeat' ((conv => whnf); (first | ((first | with_reducible refine spl (fun hc => ?_) (fun hc => ?_) | with_reducible refine spl' (fun hc => ?_) (fun hc => ?_)) <;> try (exfalso; omega)) | with_reducible refine imp_intro (fun hc => ?_) | refine vcq (k := ?_) | refine dr 9 (k := ?_)))); all_goals (try conv => whnf); all_goals (try with_reducible exact trivial)
      refine ⟨_, rfl, ?_⟩
      (repeat' ((conv => whnf); (first | ((first | with_reducible refine spl (fun hc => ?_) (fun hc => ?_) | with_reducible refine spl' (fun hc => ?_) (fun hc => ?_)) <;> try (exfalso; omega)) | with_reducible refine imp_intro (fun hc => ?_) | refine vcq (k := ?_) | refine dr 9 (k := ?_)))); all_goals (try conv => whnf); all_goals (try with_reducible exact trivial)
      exact ⟨⟨fun _ => trivial, fun _ => ⟨rfl, th rfl rfl rfl⟩⟩, trivial⟩
    · exact absurd ⟨rfl, fun _ _ => rfl⟩ hc
  · exact absurd ⟨rfl, fun _ _ => rfl⟩ hc
end Go.Proofs

namespace Go.Proofs
open Go Go.Sx
set_option maxRecDepth 100000
set_option maxHeartbeats 40000000
-- SxAid2

def nwO (l : List (Int × Int)) (k b : Nat) (j : Nat) : Int := if j < b then newP l k j else 0
def nwI (l : List (Int × Int)) (k b i : Nat) (j : Nat) : Int := if j = b then newP l i j else nwO l k b j

theorem newest22 (x : Cache) (hx : x.Ok) (k : Nat) (hk : k ≤ x.l.length) : PureC Try.prog 22 false [x.v, .int .i64 k] (· = .sl 1 x.n.toNat (iF (newP x.l k))) := by
  have hn := hx.n
  have h16 := hx.len
  refine pureC_of_exec Try.E_ok Try.func22 rfl (by kernel_rfl) ?_
  (repeat' ((conv => whnf); (first | ((first | with_reducible refine spl (fun hc => ?_) (fun hc => ?_) | with_reducible refine spl' (fun hc => ?_) (fun hc => ?_)) <;> try (exfalso; omega)) | with_reducible refine imp_intro (fun hc => ?_) | refine vcq (k := ?_) | refine dr 1 (k := ?_)))); all_goals (try conv => whnf); all_goals (try with_reducible exact trivial)
  refine ⟨Nat, fun b => b ≤ x.n.toNat, fun b => x.n.toNat - b, fun b => [(6, .int .i64 (b : Nat))], fun b => [(1, .row 3 1 x.n.toNat (iF (nwO x.l k b)) false)], fun _ => [], 0, ⟨by omega, some [some 0, some 1], ?_⟩, ?_⟩
  · (repeat' ((conv => whnf); (first | ((first | with_reducible refine spl (fun hc => ?_) (fun hc => ?_) | with_reducible refine spl' (fun hc => ?_) (fun hc => ?_)) <;> try (exfalso; omega)) | with_reducible refine imp_intro (fun hc => ?_) | refine vcq (k := ?_) | refine dr 1 (k := ?_)))); all_goals (try conv => whnf); all_goals (try with_reducible exact trivial)
  · intro b hb
    have hb : b ≤ x.n.toNat := hb
    have htb : (b : Int).toNat = b := Int.toNat_natCast b
    (repeat' ((conv => whnf); (first | ((first | with_reducible refine spl (fun hc => ?_) (fun hc => ?_) | with_reducible refine spl' (fun hc => ?_) (fun hc => ?_)) <;> try (exfalso; omega)) | with_reducible refine imp_intro (fun hc => ?_) | refine vcq (k := ?_) | refine dr 1 (k := ?_)))); all_goals (try conv => whnf); all_goals (try with_reducible exact trivial)
    · have hb1 : b < x.n.toNat := by omega
      refine ⟨Nat, fun i => i ≤ k, fun i => k - i, fun i => [(7, .int .i64 (i : Nat)), (19, .any)], fun i => [(1, .row 3 1 x.n.toNat (iF (nwI x.l k b i)) false)], fun _ => [], 0, ⟨by omega, some [some 0, some 1], ?_⟩, ?_⟩
      · (repeat' ((conv => whnf); (first | ((first | with_reducible refine spl (fun hc => ?_) (fun hc => ?_) | with_reducible refine spl' (fun hc => ?_) (fun hc => ?_)) <;> try (exfalso; omega)) | with_reducible refine imp_intro (fun hc => ?_) | refine vcq (k := ?_) | refine dr 1 (k := ?_)))); all_goals (try conv => whnf); all_goals (try with_reducible exact trivial)
        refine ⟨fun j hj => ?_, ?_⟩
        · show spliceP (j = (b : Int).toNat) [.int .i64 (nwO x.l k b j)] 0 [.int .i64 (-1)] = [.int .i64 (nwI x.l k b 0 j)]
          rw [htb]
          unfold nwI
          by_cases h : j = b
          · rw [spliceP_pos h, if_pos h]; rfl
          · rw [spliceP_neg h, if_neg h]
        · (repeat' ((conv => whnf); (first | ((first | with_reducible refine spl (fun hc => ?_) (fun hc => ?_) | with_reducible refine spl' (fun hc => ?_) (fun hc => ?_)) <;> try (exfalso; omega)) | with_reducible refine imp_intro (fun hc => ?_) | refine vcq (k := ?_) | refine dr 1 (k := ?_)))); all_goals (try conv => whnf); all_goals (try with_reducible exact trivial)
      · intro i hi
        have hi : i ≤ k := hi
        have hti : (i : Int).toNat = i := Int.toNat_natCast i
        have hst : ∀ j, (((x.l.getD i (0, 0)).1 = 1 ∨ (x.l.getD i (0, 0)).1 = 2) ∧ (x.l.getD i (0, 0)).2 = b → spliceP (j = b) [.int .i64 (nwI x.l k b i j)] 0 [.int .i64 i] = [.int .i64 (nwI x.l k b (i + 1) j)]) ∧
            (¬ (((x.l.getD i (0, 0)).1 = 1 ∨ (x.l.getD i (0, 0)).1 = 2) ∧ (x.l.getD i (0, 0)).2 = b) → 0 ≤ (x.l.getD i (0, 0)).2 → nwI x.l k b i j = nwI x.l k b (i + 1) j) := by
          intro j
          unfold nwI
          rw [newP_succ]
          constructor
          · intro h
            by_cases hj : j = b
            · rw [spliceP_pos hj, if_pos hj, if_pos hj, if_pos ⟨h.1, by omega⟩]; rfl
            · rw [spliceP_neg hj, if_neg hj, if_neg hj]
          · intro h h0
            by_cases hj : j = b
            · rw [if_pos hj, if_pos hj, if_neg (fun g => h ⟨g.1, by omega⟩)]
            · rw [if_neg hj, if_neg hj]
        (repeat' ((conv => whnf); (first | ((first | with_reducible refine spl (fun hc => ?_) (fun hc => ?_) | with_reducible refine spl' (fun hc => ?_) (fun hc => ?_)) <;> try (exfalso; omega)) | with_reducible refine imp_intro (fun hc => ?_) | refine vcq (k := ?_) | refine dr 1 (k := ?_)))); all_goals (try conv => whnf); all_goals (try with_reducible exact trivial); (repeat' ((first | (refine callee_fo (puts35 _) rfl ?_; rintro _ rfl) | (refine pcall_intro (puts35 _) rfl ?_) | (refine pcall_soft (fun _ => puts35 _) rfl ?_)); (repeat' ((conv => whnf); (first | ((first | with_reducible refine spl (fun hc => ?_) (fun hc => ?_) | with_reducible refine spl' (fun hc => ?_) (fun hc => ?_)) <;> try (exfalso; omega)) | with_reducible refine imp_intro (fun hc => ?_) | refine vcq (k := ?_) | refine dr 1 (k := ?_)))); all_goals (try conv => whnf); all_goals (try with_reducible exact trivial)))
        · rw [hti] at hc
          refine ⟨i + 1, ⟨by omega, by dsimp only; omega⟩, some [some 0, some 1], ?_⟩
          (repeat' ((conv => whnf); (first | ((first | with_reducible refine spl (fun hc => ?_) (fun hc => ?_) | with_reducible refine spl' (fun hc => ?_) (fun hc => ?_)) <;> try (exfalso; omega)) | with_reducible refine imp_intro (fun hc => ?_) | refine vcq (k := ?_) | refine dr 1 (k := ?_)))); all_goals (try conv => whnf); all_goals (try with_reducible exact trivial)
          refine ⟨fun j hj => ?_, ?_⟩
          · have := (hst j).1 hc
            show spliceP (j = (b : Int).toNat) [V.int .i64 (nwI x.l k b i j)] 0 [V.int .i64 i] = [V.int .i64 (nwI x.l k b (i + 1) j)]
            rw [← this, htb]
          · (repeat' ((conv => whnf); (first | ((first | with_reducible refine spl (fun hc => ?_) (fun hc => ?_) | with_reducible refine spl' (fun hc => ?_) (fun hc => ?_)) <;> try (exfalso; omega)) | with_reducible refine imp_intro (fun hc => ?_) | refine vcq (k := ?_) | refine dr 1 (k := ?_)))); all_goals (try conv => whnf); all_goals (try with_reducible exact trivial)
        · rw [hti] at hc
          have h0 : 0 ≤ (x.l.getD i (0, 0)).2 := by
            have := hx.ord _ (Cache.at (show i < x.l.length by omega))
            unfold Cache.OkO at this
            omega
          refine ⟨i + 1, ⟨by omega, by dsimp only; omega⟩, some [some 0, some 1], ?_⟩
          (repeat' ((conv => whnf); (first | ((first | with_reducible refine spl (fun hc => ?_) (fun hc => ?_) | with_reducible refine spl' (fun hc => ?_) (fun hc => ?_)) <;> try (exfalso; omega)) | with_reducible refine imp_intro (fun hc => ?_) | refine vcq (k := ?_) | refine dr 1 (k := ?_)))); all_goals (try conv => whnf); all_goals (try with_reducible exact trivial)
          refine ⟨fun j hj => ?_, ?_⟩
          · show [V.int .i64 (nwI x.l k b i j)] = [V.int .i64 (nwI x.l k b (i + 1) j)]
            rw [(hst j).2 hc h0]
          · (repeat' ((conv => whnf); (first | ((first | with_reducible refine spl (fun hc => ?_) (fun hc => ?_) | with_reducible refine spl' (fun hc => ?_) (fun hc => ?_)) <;> try (exfalso; omega)) | with_reducible refine imp_intro (fun hc => ?_) | refine vcq (k := ?_) | refine dr 1 (k := ?_)))); all_goals (try conv => whnf); all_goals (try with_reducible exact trivial)
        · have hik : i = k := by omega
          subst hik
          refine ⟨b + 1, ⟨by omega, by dsimp only; omega⟩, some [some 0, some 1], ?_⟩
          (repeat' ((conv => whnf); (first | ((first | with_reducible refine spl (fun hc => ?_) (fun hc => ?_) | with_reducible refine spl' (fun hc => ?_) (fun hc => ?_)) <;> try (exfalso; omega)) | with_reducible refine imp_intro (fun hc => ?_) | refine vcq (k := ?_) | refine dr 1 (k := ?_)))); all_goals (try conv => whnf); all_goals (try with_reducible exact trivial)
          refine ⟨fun j hj => ?_, ?_⟩
          · show [V.int .i64 (nwI x.l i b i j)] = [V.int .i64 (nwO x.l i (b + 1) j)]
            unfold nwI nwO
            by_cases h : j = b
            · rw [if_pos h, if_pos (by omega)]
            · rw [if_neg h]
              by_cases h2 : j < b
              · rw [if_pos h2, if_pos (by omega)]
              · rw [if_neg h2, if_neg (by omega)]
          · (repeat' ((conv => whnf); (first | ((first | with_reducible refine spl (fun hc => ?_) (fun hc => ?_) | with_reducible refine spl' (fun hc => ?_) (fun hc => ?_)) <;> try (exfalso; omega)) | with_reducible refine imp_intro (fun hc => ?_) | refine vcq (k := ?_) | refine dr 1 (k := ?_)))); all_goals (try conv => whnf); all_goals (try with_reducible exact trivial)
    · have hbn : b = x.n.toNat := by omega
      subst hbn
      refine ⟨_, rfl, ?_⟩
      (repeat' ((conv => whnf); (first | ((first | with_reducible refine spl (fun hc => ?_) (fun hc => ?_) | with_reducible refine spl' (fun hc => ?_) (fun hc => ?_)) <;> try (exfalso; omega)) | with_reducible refine imp_intro (fun hc => ?_) | refine vcq (k := ?_) | refine dr 1 (k := ?_)))); all_goals (try conv => whnf); all_goals (try with_reducible exact trivial)
      refine ⟨fun j hj => ?_, .inr fun _ _ => rfl, trivial⟩
      show [V.int .i64 (nwO x.l k x.n.toNat j)] = [.int .i64 (newP x.l k j)]
      unfold nwO
      rw [if_pos hj]
end Go.Proofs

namespace Go.Proofs
open Go Go.Sx
set_option maxRecDepth 100000
set_option maxHeartbeats 40000000
-- SxAid2

theorem play_cases {x : Cache} (hk : x.chk = 0) (D : List (Int × Int)) (torn : Bool) : playV x D torn = [.lit (.slice none 0 0), .int .i64 1] ∨
    ∃ h, PosI x h ∧ ((∃ b, b < 6 ∧ h.get b = -2) ↔ torn = true) ∧ playV x D torn = [.sl 1 x.n.toNat (iF h.get), .int .i64 0] := by
  have hx := Cache.chk_ok hk
  unfold playV
  rw [if_pos hk]
  by_cases hb : badPl x D torn
  · rw [if_pos hb]; exact .inl rfl
  · rw [if_neg hb]
    split
    · exact .inl rfl
    · rename_i s k h
      exact .inr ⟨_, play_pos hx hb h, endP_torn hx hb h, rfl⟩

theorem newest_ok {x : Cache} (hk : x.chk = 0) (hl : x.l.length ≤ 1000000) : PureC Try.prog 34 false [x.v] (· = .tup [.sl 1 x.n.toNat (iF (newP x.l x.l.length)), .int .i64 0]) := by
  have h := Newest34 x hl
  rw [if_pos hk] at h
  exact h

theorem newP_ge {x : Cache} {q b : Nat} : ∀ {k}, q < k → putQ x q b → (q : Int) ≤ newP x.l k b
  | k + 1, hq, hp => by
    rw [newP_succ]
    split
    · omega
    · rename_i h
      rcases Nat.lt_or_eq_of_le (show q ≤ k by omega) with g | rfl
      · exact newP_ge g hp
      · exact absurd ⟨hp.1, by have := hp.2; omega⟩ h

theorem newP_put {x : Cache} (hx : x.Ok) {b : Nat} : ∀ {k}, k ≤ x.l.length → newP x.l k b = -1 ∨ ∃ q, q < k ∧ newP x.l k b = (q : Nat) ∧ putQ x q b
  | 0, _ => .inl rfl
  | k + 1, hk => by
    rw [newP_succ]
    split
    · rename_i h
      have := hx.blk (show k < x.l.length by omega) h.1
      exact .inr ⟨k, by omega, rfl, h.1, by omega⟩
    · rcases newP_put hx (show k ≤ x.l.length by omega) (b := b) with g | ⟨q, g1, g2, g3⟩
      · exact .inl g
      · exact .inr ⟨q, by omega, g2, g3⟩

theorem PosI.newest {x : Cache} (hx : x.Ok) {h : C6} (hp : PosI x h) {b : Nat} (hb : b < 6) : h.get b ≤ newP x.l x.l.length b := by
  have h1 : -1 ≤ newP x.l x.l.length b := by rcases newP_put hx (Nat.le_refl _) (b := b) with g | ⟨q, _, g, _⟩ <;> omega
  rcases hp.holds hx hb with g | g | ⟨q, g1, g2, g3⟩
  · omega
  · omega
  · have := newP_ge g1 g3
    omega

/-- an image -/
theorem PosI.img {x : Cache} (hx : x.Ok) {h : C6} (hp : PosI x h) {l : List Int} (hl : l.length = x.n.toNat) (he : ∀ b, b < l.length → l.getD b 0 = h.get b) : IsImg x l := by
  have hn := hx.n
  refine ⟨by omega, fun b hb => ?_⟩
  rw [he b hb]
  unfold okAt
  rcases hp.holds hx (show b < 6 by omega) with g | g | ⟨q, g1, g2, g3, g4⟩
  · exact .inr (.inl g)
  · exact .inl g
  · right; right
    rw [g2, Int.toNat_natCast]
    exact ⟨by omega, g3, g4⟩

def c6L (n : Nat) (h : C6) : List Int := (List.range n).map h.get
theorem c6L_len (n : Nat) (h : C6) : (c6L n h).length = n := by simp [c6L]
theorem c6L_get {n : Nat} {h : C6} {b : Nat} (hb : b < n) : (c6L n h).getD b 0 = h.get b := by
  simp [c6L, List.getD_eq_getElem?_getD, hb]

/-- is the barrier behind? -/
def Beh (x : Cache) (h : C6) (i j : Nat) : Prop := (x.l.getD i (0, 0)).1 = 4 ∨ ∃ b, b < j ∧ (i : Int) < h.get b

theorem beh_ok {x : Cache} (hx : x.Ok) {h : C6} (hp : PosI x h) {i : Nat} (hi : i < x.l.length) (hk : (x.l.getD i (0, 0)).1 = 3 ∨ (x.l.getD i (0, 0)).1 = 4) {n : Nat} (hn : n ≤ 6) (hb : Beh x h i n) {j : Nat} (hj : j < 6) :
    h.get j = -2 ∨ newP x.l i j ≤ h.get j := by
  rcases newP_put hx (show i ≤ x.l.length by omega) (b := j) with g | ⟨q, g1, g2, g3⟩
  · rcases hp.holds hx hj with k | k
    · exact .inl k
    · have := k.ge
      exact .inr (by omega)
  · rw [g2]
    refine hp.barrier hx hi ?_ g1 hj g3
    rcases hk with k | k
    · refine .inl ⟨k, ?_⟩
      rcases hb with b | ⟨b, b1, b2⟩
      · omega
      · exact ⟨b, by omega, b2⟩
    · exact .inr k

theorem Beh.succ {x : Cache} {h : C6} {i j : Nat} : Beh x h i (j + 1) ↔ Beh x h i j ∨ (i : Int) < h.get j := by
  unfold Beh
  constructor
  · rintro (g | ⟨b, g1, g2⟩)
    · exact .inl (.inl g)
    · rcases Nat.lt_or_eq_of_le (show b ≤ j by omega) with k | rfl
      · exact .inl (.inr ⟨b, k, g2⟩)
      · exact .inr g2
  · rintro ((g | ⟨b, g1, g2⟩) | g)
    · exact .inl g
    · exact .inr ⟨b, by omega, g2⟩
    · exact .inr ⟨j, by omega, g⟩

theorem Barrier8 (x : Cache) (hl : x.l.length ≤ 9223372036854775807) (D : List (Int × Int)) (hD : D.length ≤ 9223372036854775807) (torn : Bool) : PureC Try.prog 8 false [x.v, .agg [.sl 2 D.length (rowOf oC (0, 0) D), .prop (torn = true) inferInstance]] (· = .prop True inferInstance) := by
  refine pureC_of_exec Try.E_ok Try.func8 rfl (by kernel_rfl) ?_
  (repeat' ((conv => whnf); (first | ((first | with_reducible refine spl (fun hc => ?_) (fun hc => ?_) | with_reducible refine spl' (fun hc => ?_) (fun hc => ?_)) <;> try (exfalso; omega)) | with_reducible refine imp_intro (fun hc => ?_) | refine vcq (k := ?_) | refine dr 9 (k := ?_) | refine dr 16 (k := ?_)))); all_goals (try conv => whnf); all_goals (try with_reducible exact trivial); (repeat' ((first | (refine callee_fo (valid12 x hl) rfl ?_; rintro _ rfl) | (refine pcall_intro (valid12 x hl) rfl ?_) | (refine pcall_soft (fun _ => valid12 x hl) rfl ?_) | (refine callee_fo (works13) rfl ?_; rintro _ rfl) | (refine pcall_intro (works13) rfl ?_) | (refine pcall_soft (fun _ => works13) rfl ?_)); (repeat' ((conv => whnf); (first | ((first | with_reducible refine spl (fun hc => ?_) (fun hc => ?_) | with_reducible refine spl' (fun hc => ?_) (fun hc => ?_)) <;> try (exfalso; omega)) | with_reducible refine imp_intro (fun hc => ?_) | refine vcq (k := ?_) | refine dr 9 (k := ?_) | refine dr 16 (k := ?_)))); all_goals (try conv => whnf); all_goals (try with_reducible exact trivial)))
  · refine ⟨_, rfl, ?_⟩
    (repeat' ((conv => whnf); (first | ((first | with_reducible refine spl (fun hc => ?_) (fun hc => ?_) | with_reducible refine spl' (fun hc => ?_) (fun hc => ?_)) <;> try (exfalso; omega)) | with_reducible refine imp_intro (fun hc => ?_) | refine vcq (k := ?_) | refine dr 9 (k := ?_) | refine dr 16 (k := ?_)))); all_goals (try conv => whnf); all_goals (try with_reducible exact trivial)
  · have hv : ¬ x.far ∧ x.chk = 0 := Classical.not_not.1 (fun g => hc (.inl g))
    have hD40 : D.length ≤ 40 := by omega
    have hx := Cache.valid hv
    have hk := hv.2
    have hn := hx.ok.n
    have h3 := hx.n
    have h7 := hx.l
    clear hc hv
    refine callee_fo (Play20 x (by omega) D (by omega) torn) rfl ?_
    rintro _ rfl
    rcases play_cases hk D torn with e | ⟨h, hp, ht, e⟩
    · rw [e]
      (repeat' ((conv => whnf); (first | ((first | with_reducible refine spl (fun hc => ?_) (fun hc => ?_) | with_reducible refine spl' (fun hc => ?_) (fun hc => ?_)) <;> try (exfalso; omega)) | with_reducible refine imp_intro (fun hc => ?_) | refine vcq (k := ?_) | refine dr 9 (k := ?_) | refine dr 16 (k := ?_)))); all_goals (try conv => whnf); all_goals (try with_reducible exact trivial); (repeat' ((first | (refine callee_fo (newest_ok hk (by omega)) rfl ?_; rintro _ rfl) | (refine pcall_intro (newest_ok hk (by omega)) rfl ?_) | (refine pcall_soft (fun _ => newest_ok hk (by omega)) rfl ?_) | (refine callee_fo (works13) rfl ?_; rintro _ rfl) | (refine pcall_intro (works13) rfl ?_) | (refine pcall_soft (fun _ => works13) rfl ?_)); (repeat' ((conv => whnf); (first | ((first | with_reducible refine spl (fun hc => ?_) (fun hc => ?_) | with_reducible refine spl' (fun hc => ?_) (fun hc => ?_)) <;> try (exfalso; omega)) | with_reducible refine imp_intro (fun hc => ?_) | refine vcq (k := ?_) | refine dr 9 (k := ?_) | refine dr 16 (k := ?_)))); all_goals (try conv => whnf); all_goals (try with_reducible exact trivial)))
      refine ⟨_, rfl, ?_⟩
      (repeat' ((conv => whnf); (first | ((first | with_reducible refine spl (fun hc => ?_) (fun hc => ?_) | with_reducible refine spl' (fun hc => ?_) (fun hc => ?_)) <;> try (exfalso; omega)) | with_reducible refine imp_intro (fun hc => ?_) | refine vcq (k := ?_) | refine dr 9 (k := ?_) | refine dr 16 (k := ?_)))); all_goals (try conv => whnf); all_goals (try with_reducible exact trivial)
    · rw [e]
      have him := IsImage33 x (by omega) (c6L x.n.toNat h) (by rw [c6L_len]; omega)
      rw [c6L_len] at him
      have himg : IsImg x (c6L x.n.toNat h) := hp.img hx.ok (c6L_len _ _) (fun b hb => c6L_get (by rw [c6L_len] at hb; exact hb))
      (repeat' ((conv => whnf); (first | ((first | with_reducible refine spl (fun hc => ?_) (fun hc => ?_) | with_reducible refine spl' (fun hc => ?_) (fun hc => ?_)) <;> try (exfalso; omega)) | with_reducible refine imp_intro (fun hc => ?_) | refine vcq (k := ?_) | refine dr 9 (k := ?_) | refine dr 16 (k := ?_)))); all_goals (try conv => whnf); all_goals (try with_reducible exact trivial); (repeat' ((first | (refine callee_fo (newest_ok hk (by omega)) rfl ?_; rintro _ rfl) | (refine pcall_intro (newest_ok hk (by omega)) rfl ?_) | (refine pcall_soft (fun _ => newest_ok hk (by omega)) rfl ?_)); (repeat' ((conv => whnf); (first | ((first | with_reducible refine spl (fun hc => ?_) (fun hc => ?_) | with_reducible refine spl' (fun hc => ?_) (fun hc => ?_)) <;> try (exfalso; omega)) | with_reducible refine imp_intro (fun hc => ?_) | refine vcq (k := ?_) | refine dr 9 (k := ?_) | refine dr 16 (k := ?_)))); all_goals (try conv => whnf); all_goals (try with_reducible exact trivial)))
      refine callee_view him ?_
      (repeat' ((conv => whnf); (first | ((first | with_reducible refine spl (fun hc => ?_) (fun hc => ?_) | with_reducible refine spl' (fun hc => ?_) (fun hc => ?_)) <;> try (exfalso; omega)) | with_reducible refine imp_intro (fun hc => ?_) | refine vcq (k := ?_) | refine dr 9 (k := ?_) | refine dr 16 (k := ?_)))); all_goals (try conv => whnf); all_goals (try with_reducible exact trivial)
      refine ⟨fun b hb => ?_, ?_⟩
      · show [V.int .i64 (h.get b)] = [V.int .i64 ((c6L x.n.toNat h).getD b 0)]
        rw [c6L_get hb]
      (repeat' ((conv => whnf); (first | ((first | with_reducible refine spl (fun hc => ?_) (fun hc => ?_) | with_reducible refine spl' (fun hc => ?_) (fun hc => ?_)) <;> try (exfalso; omega)) | with_reducible refine imp_intro (fun hc => ?_) | refine vcq (k := ?_) | refine dr 9 (k := ?_) | refine dr 16 (k := ?_)))); all_goals (try conv => whnf); all_goals (try with_reducible exact trivial)
      rintro _ rfl
      (repeat' ((conv => whnf); (first | ((first | with_reducible refine spl (fun hc => ?_) (fun hc => ?_) | with_reducible refine spl' (fun hc => ?_) (fun hc => ?_)) <;> try (exfalso; omega)) | with_reducible refine imp_intro (fun hc => ?_) | refine vcq (k := ?_) | refine dr 9 (k := ?_) | refine dr 16 (k := ?_)))); all_goals (try conv => whnf); all_goals (try with_reducible exact trivial)
      · exact absurd himg (by omega)
      · clear him e
        refine ⟨Nat, fun b => b ≤ x.n.toNat, fun b => x.n.toNat - b, fun b => [(9, .int .i64 (b : Nat)), (19, .any), (55, .any)], fun _ => [], fun _ => [], 0, ⟨by omega, none, ?_⟩, ?_⟩
        · (repeat' ((conv => whnf); (first | ((first | with_reducible refine spl (fun hc => ?_) (fun hc => ?_) | with_reducible refine spl' (fun hc => ?_) (fun hc => ?_)) <;> try (exfalso; omega)) | with_reducible refine imp_intro (fun hc => ?_) | refine vcq (k := ?_) | refine dr 9 (k := ?_) | refine dr 16 (k := ?_)))); all_goals (try conv => whnf); all_goals (try with_reducible exact trivial)
        · intro b hb
          have hb : b ≤ x.n.toNat := hb
          have htb : (b : Int).toNat = b := Int.toNat_natCast b
          (repeat' ((conv => whnf); (first | ((first | with_reducible refine spl (fun hc => ?_) (fun hc => ?_) | with_reducible refine spl' (fun hc => ?_) (fun hc => ?_)) <;> try (exfalso; omega)) | with_reducible refine imp_intro (fun hc => ?_) | refine vcq (k := ?_) | refine dr 9 (k := ?_) | refine dr 16 (k := ?_)))); all_goals (try conv => whnf); all_goals (try with_reducible exact trivial)
          · rw [htb] at hc
            have := hp.newest hx.ok (show b < 6 by omega)
            omega
          · refine ⟨b + 1, ⟨by omega, by dsimp only; omega⟩, none, ?_⟩
            (repeat' ((conv => whnf); (first | ((first | with_reducible refine spl (fun hc => ?_) (fun hc => ?_) | with_reducible refine spl' (fun hc => ?_) (fun hc => ?_)) <;> try (exfalso; omega)) | with_reducible refine imp_intro (fun hc => ?_) | refine vcq (k := ?_) | refine dr 9 (k := ?_) | refine dr 16 (k := ?_)))); all_goals (try conv => whnf); all_goals (try with_reducible exact trivial)
          · refine ⟨Nat, fun i => i ≤ x.l.length, fun i => x.l.length - i, fun i => [(10, .int .i64 (i : Nat))], fun _ => [], fun _ => [], 0, ⟨by omega, none, ?_⟩, ?_⟩
            · (repeat' ((conv => whnf); (first | ((first | with_reducible refine spl (fun hc => ?_) (fun hc => ?_) | with_reducible refine spl' (fun hc => ?_) (fun hc => ?_)) <;> try (exfalso; omega)) | with_reducible refine imp_intro (fun hc => ?_) | refine vcq (k := ?_) | refine dr 9 (k := ?_) | refine dr 16 (k := ?_)))); all_goals (try conv => whnf); all_goals (try with_reducible exact trivial)
            · intro i hi
              have hi : i ≤ x.l.length := hi
              have hti : (i : Int).toNat = i := Int.toNat_natCast i
              (repeat' ((conv => whnf); (first | ((first | with_reducible refine spl (fun hc => ?_) (fun hc => ?_) | with_reducible refine spl' (fun hc => ?_) (fun hc => ?_)) <;> try (exfalso; omega)) | with_reducible refine imp_intro (fun hc => ?_) | refine vcq (k := ?_) | refine dr 9 (k := ?_) | refine dr 16 (k := ?_)))); all_goals (try conv => whnf); all_goals (try with_reducible exact trivial)
              · refine ⟨i + 1, ⟨by omega, by dsimp only; omega⟩, none, ?_⟩
                (repeat' ((conv => whnf); (first | ((first | with_reducible refine spl (fun hc => ?_) (fun hc => ?_) | with_reducible refine spl' (fun hc => ?_) (fun hc => ?_)) <;> try (exfalso; omega)) | with_reducible refine imp_intro (fun hc => ?_) | refine vcq (k := ?_) | refine dr 9 (k := ?_) | refine dr 16 (k := ?_)))); all_goals (try conv => whnf); all_goals (try with_reducible exact trivial)
              · have hi1 : i < x.l.length := by omega
                rw [hti] at hc
                have hkd : (x.l.getD i (0, 0)).1 = 3 ∨ (x.l.getD i (0, 0)).1 = 4 := by omega
                refine ⟨Nat, fun j => j ≤ x.n.toNat, fun j => x.n.toNat - j, fun j => [(12, .int .i64 (j : Nat)), (11, .prop (Beh x h i j) (Classical.propDecidable _)), (95, .any)], fun _ => [], fun _ => [], 0, ⟨by omega, none, ?_⟩, ?_⟩
                · (repeat' ((conv => whnf); (first | ((first | with_reducible refine spl (fun hc => ?_) (fun hc => ?_) | with_reducible refine spl' (fun hc => ?_) (fun hc => ?_)) <;> try (exfalso; omega)) | with_reducible refine imp_intro (fun hc => ?_) | refine vcq (k := ?_) | refine dr 9 (k := ?_) | refine dr 16 (k := ?_)))); all_goals (try conv => whnf); all_goals (try with_reducible exact trivial)
                  rw [hti]
                  refine ⟨⟨fun g => .inl g, fun g => g.resolve_right fun ⟨b, b1, _⟩ => by omega⟩, ?_⟩
                  (repeat' ((conv => whnf); (first | ((first | with_reducible refine spl (fun hc => ?_) (fun hc => ?_) | with_reducible refine spl' (fun hc => ?_) (fun hc => ?_)) <;> try (exfalso; omega)) | with_reducible refine imp_intro (fun hc => ?_) | refine vcq (k := ?_) | refine dr 9 (k := ?_) | refine dr 16 (k := ?_)))); all_goals (try conv => whnf); all_goals (try with_reducible exact trivial)
                · intro j hj
                  have hj : j ≤ x.n.toNat := hj
                  have htj : (j : Int).toNat = j := Int.toNat_natCast j
                  (repeat' ((conv => whnf); (first | ((first | with_reducible refine spl (fun hc => ?_) (fun hc => ?_) | with_reducible refine spl' (fun hc => ?_) (fun hc => ?_)) <;> try (exfalso; omega)) | with_reducible refine imp_intro (fun hc => ?_) | refine vcq (k := ?_) | refine dr 9 (k := ?_) | refine dr 16 (k := ?_)))); all_goals (try conv => whnf); all_goals (try with_reducible exact trivial)
                  · refine ⟨j + 1, ⟨by omega, by dsimp only; omega⟩, none, ?_⟩
                    (repeat' ((conv => whnf); (first | ((first | with_reducible refine spl (fun hc => ?_) (fun hc => ?_) | with_reducible refine spl' (fun hc => ?_) (fun hc => ?_)) <;> try (exfalso; omega)) | with_reducible refine imp_intro (fun hc => ?_) | refine vcq (k := ?_) | refine dr 9 (k := ?_) | refine dr 16 (k := ?_)))); all_goals (try conv => whnf); all_goals (try with_reducible exact trivial)
                    refine ⟨by rw [htj]; exact Beh.succ.symm, ?_⟩
                    (repeat' ((conv => whnf); (first | ((first | with_reducible refine spl (fun hc => ?_) (fun hc => ?_) | with_reducible refine spl' (fun hc => ?_) (fun hc => ?_)) <;> try (exfalso; omega)) | with_reducible refine imp_intro (fun hc => ?_) | refine vcq (k := ?_) | refine dr 9 (k := ?_) | refine dr 16 (k := ?_)))); all_goals (try conv => whnf); all_goals (try with_reducible exact trivial)
                  · have hjn : j = x.n.toNat := by omega
                    subst hjn
                    have hok := fun {b : Nat} (hb : b < 6) (g : Beh x h i x.n.toNat) => beh_ok hx.ok hp hi1 hkd (show x.n.toNat ≤ 6 by omega) g hb
                    refine callee_fo (newest22 x hx.ok i (by omega)) rfl ?_
                    rintro _ rfl
                    (repeat' ((conv => whnf); (first | ((first | with_reducible refine spl (fun hc => ?_) (fun hc => ?_) | with_reducible refine spl' (fun hc => ?_) (fun hc => ?_)) <;> try (exfalso; omega)) | with_reducible refine imp_intro (fun hc => ?_) | refine vcq (k := ?_) | refine dr 9 (k := ?_) | refine dr 16 (k := ?_)))); all_goals (try conv => whnf); all_goals (try with_reducible exact trivial)
                    refine ⟨Nat, fun j => j ≤ x.n.toNat, fun j => x.n.toNat - j, fun j => [(14, .int .i64 (j : Nat))], fun _ => [], fun _ => [], 0, ⟨by omega, none, ?_⟩, ?_⟩
                    · (repeat' ((conv => whnf); (first | ((first | with_reducible refine spl (fun hc => ?_) (fun hc => ?_) | with_reducible refine spl' (fun hc => ?_) (fun hc => ?_)) <;> try (exfalso; omega)) | with_reducible refine imp_intro (fun hc => ?_) | refine vcq (k := ?_) | refine dr 9 (k := ?_) | refine dr 16 (k := ?_)))); all_goals (try conv => whnf); all_goals (try with_reducible exact trivial)
                    · intro b hb
                      have hb : b ≤ x.n.toNat := hb
                      have htb : (b : Int).toNat = b := Int.toNat_natCast b
                      (repeat' ((conv => whnf); (first | ((first | with_reducible refine spl (fun hc => ?_) (fun hc => ?_) | with_reducible refine spl' (fun hc => ?_) (fun hc => ?_)) <;> try (exfalso; omega)) | with_reducible refine imp_intro (fun hc => ?_) | refine vcq (k := ?_) | refine dr 9 (k := ?_) | refine dr 16 (k := ?_)))); all_goals (try conv => whnf); all_goals (try with_reducible exact trivial)
                      · have hbe : (b : Int) < x.n ∧ Beh x h i x.n.toNat := by assumption
                        have g := hok (show b < 6 by omega) hbe.2
                        rw [htb] at hc
                        omega
                      · refine ⟨b + 1, ⟨by omega, by dsimp only; omega⟩, none, ?_⟩
                        (repeat' ((conv => whnf); (first | ((first | with_reducible refine spl (fun hc => ?_) (fun hc => ?_) | with_reducible refine spl' (fun hc => ?_) (fun hc => ?_)) <;> try (exfalso; omega)) | with_reducible refine imp_intro (fun hc => ?_) | refine vcq (k := ?_) | refine dr 9 (k := ?_) | refine dr 16 (k := ?_)))); all_goals (try conv => whnf); all_goals (try with_reducible exact trivial)
                      · refine ⟨i + 1, ⟨by omega, by dsimp only; omega⟩, none, ?_⟩
                        (repeat' ((conv => whnf); (first | ((first | with_reducible refine spl (fun hc => ?_) (fun hc => ?_) | with_reducible refine spl' (fun hc => ?_) (fun hc => ?_)) <;> try (exfalso; omega)) | with_reducible refine imp_intro (fun hc => ?_) | refine vcq (k := ?_) | refine dr 9 (k := ?_) | refine dr 16 (k := ?_)))); all_goals (try conv => whnf); all_goals (try with_reducible exact trivial)
              · refine callee_fo works13 rfl ?_
                rintro _ rfl
                (repeat' ((conv => whnf); (first | ((first | with_reducible refine spl (fun hc => ?_) (fun hc => ?_) | with_reducible refine spl' (fun hc => ?_) (fun hc => ?_)) <;> try (exfalso; omega)) | with_reducible refine imp_intro (fun hc => ?_) | refine vcq (k := ?_) | refine dr 9 (k := ?_) | refine dr 16 (k := ?_)))); all_goals (try conv => whnf); all_goals (try with_reducible exact trivial)
                refine ⟨_, rfl, ?_⟩
                (repeat' ((conv => whnf); (first | ((first | with_reducible refine spl (fun hc => ?_) (fun hc => ?_) | with_reducible refine spl' (fun hc => ?_) (fun hc => ?_)) <;> try (exfalso; omega)) | with_reducible refine imp_intro (fun hc => ?_) | refine vcq (k := ?_) | refine dr 9 (k := ?_) | refine dr 16 (k := ?_)))); all_goals (try conv => whnf); all_goals (try with_reducible exact trivial)
end Go.Proofs
