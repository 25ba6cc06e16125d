/- Own work: texts of the proof of a law (CaU5, CaC21, CaL2, CaR1, SyCfz, CaR2, CaR3, CaR4, CaK1, CaK2, CaR5, CaM1, CaR6, CaM2, CaM3, CaM4, CaM5, CaM6, CaL3). No condition. -/
import Derived.Test.YtmjaflgakiembaaGround17
namespace Go.Proofs
open Go Go.Sx
set_option maxRecDepth 100000
set_option maxHeartbeats 1000000
theorem PosI.u {x : Cache} (hx : x.Ok) {h : C6} (hp : PosI x h) : ∃ u D, RchU x x.l.length u D ∧ (h = u.M ∨ ∃ b : Nat, (b : Int) < x.n ∧ u.can b ∧ h = u.M.set b (-2)) := by
  obtain ⟨im, h1, rfl⟩ := hp
  rcases h1 with ⟨_, h2, h3⟩ | ⟨_, s, D, b, h2, h3, h4, h5, _⟩
  · obtain ⟨u, g1, g2⟩ := rch_u hx h2
    exact ⟨u, _, g1, .inl (by rw [h3, g2]; rfl)⟩
  · obtain ⟨u, g1, g2⟩ := rch_u hx h2
    subst g2
    have hl : 0 < u.E.length := by rw [(g1.inv hx).len]; omega
    exact ⟨u, D, g1, .inr ⟨b, h3, (PS.can_tidy u hl b).1 h4, h5⟩⟩
theorem PosI.barrier {x : Cache} (hx : x.Ok) {h : C6} (hp : PosI x h) {i : Nat} (hi : i < x.l.length)
    (hb : (x.l.getD i (0, 0)).1 = 3 ∧ (∃ b, b < 6 ∧ (i : Int) < h.get b) ∨ (x.l.getD i (0, 0)).1 = 4) {q : Nat} (hq : q < i) {b : Nat} (hb6 : b < 6) (hpq : putQ x q b) : h.get b = -2 ∨ (q : Int) ≤ h.get b := by
  obtain ⟨u, D, h1, rfl | ⟨b0, h2, h3, rfl⟩⟩ := hp.u hx
  · exact .inr (h1.barrier hx hi hb hq hb6 hpq)
  · have hb0 : b0 < 6 := by have := hx.n; omega
    rw [C6.get_set hb0 hb6]
    split
    · exact .inl rfl
    · refine .inr (h1.barrier hx hi (hb.imp (fun g => ⟨g.1, ?_⟩) id) hq hb6 hpq)
      obtain ⟨_, b1, g1, g2⟩ := g
      rw [C6.get_set hb0 g1] at g2
      refine ⟨b1, g1, ?_⟩
      split at g2 <;> omega
theorem PosI.force {x : Cache} (hx : x.Ok) {h : C6} (hp : PosI x h) {i : Nat} (hi : i < x.l.length) (h2 : (x.l.getD i (0, 0)).1 = 2) {b : Nat} (hb : b < 6) (hpq : putQ x i b) : h.get b = -2 ∨ (i : Int) ≤ h.get b := by
  obtain ⟨u, D, h1, rfl | ⟨b0, h2, h3, rfl⟩⟩ := hp.u hx
  · exact .inr ((h1.invB hx).fo i hi h2 b hb hpq)
  · have hb0 : b0 < 6 := by have := hx.n; omega
    rw [C6.get_set hb0 hb]
    split
    · exact .inl rfl
    · exact .inr ((h1.invB hx).fo i hi (by assumption) b hb hpq)
theorem PosI.holds {x : Cache} (hx : x.Ok) {h : C6} (hp : PosI x h) {b : Nat} (hb : b < 6) : h.get b = -2 ∨ MP x x.l.length b (h.get b) := by
  obtain ⟨u, D, h1, rfl | ⟨b0, h2, h3, rfl⟩⟩ := hp.u hx
  · exact .inr ((h1.inv hx).inv.med b hb)
  · have hb0 : b0 < 6 := by have := hx.n; omega
    rw [C6.get_set hb0 hb]
    split
    · exact .inl rfl
    · exact .inr ((h1.inv hx).inv.med b hb)
theorem MP.ge {x : Cache} {K b : Nat} {v : Int} (h : MP x K b v) : -1 ≤ v := by rcases h with h | ⟨q, _, h, _⟩ <;> omega
theorem PosI.torn {x : Cache} (hx : x.Ok) {h : C6} (hp : PosI x h) : (∀ b, b < 6 → h.get b ≠ -2) ∨ ∃ b0 : Nat, (b0 : Int) < x.n ∧ ∀ b, b < 6 → (h.get b = -2 ↔ b = b0) := by
  obtain ⟨u, D, h1, rfl | ⟨b0, h2, h3, rfl⟩⟩ := hp.u hx
  · exact .inl fun b hb => by have := ((h1.inv hx).inv.med b hb).ge; omega
  · have hb0 : b0 < 6 := by have := hx.n; omega
    refine .inr ⟨b0, h2, fun b hb => ?_⟩
    rw [C6.get_set hb0 hb]
    split
    · rename_i g; exact ⟨fun _ => g, fun _ => rfl⟩
    · rename_i g
      have := ((h1.inv hx).inv.med b hb).ge
      exact ⟨fun g2 => by omega, fun g2 => absurd g2 g⟩
/-! ### plays -/
theorem C6.set_set (c : C6) {b : Nat} (hb : b < 6) (n m : Int) : (c.set b n).set b m = c.set b m := by
  refine C6.ext' fun j hj => ?_
  rw [C6.get_set hb hj, C6.get_set hb hj, C6.get_set hb hj]
  split <;> rfl
theorem drain_M {s : PS} {b : Nat} (h : s.can b) : ∃ n, (s.drain b).M = s.M.set b n := by
  unfold PS.drain
  rw [PS.wr_pos h.2]
  exact ⟨_, rfl⟩
/-! ### and back -/
theorem playD_pre (x : Cache) (D D' : List (Int × Int)) : ∀ j, j ≤ D.length → PS.playD x (D ++ D') j = PS.playD x D j
  | 0, _ => rfl
  | j + 1, hj => by
    have e : (D ++ D').getD j (0, 0) = D.getD j (0, 0) := by simp [List.getD_eq_getElem?_getD, List.getElem?_append_left (show j < D.length by omega)]
    simp only [PS.playD]
    rw [playD_pre x D D' j (by omega), e]
theorem from_from (l : List (Int × Int)) (s : PS) (k m : Nat) : PS.from l s k (m + 1) = (PS.from l s k m).order ((k + m : Nat) : Int) (l.getD (k + m) (0, 0)) := rfl
theorem rch_play {x : Cache} {k : Nat} {s : PS} {D : List (Int × Int)} (h : Rch x k s D) : k ≤ x.l.length ∧ ∃ s' k', PS.playD x D D.length = some (s', k') ∧ k' ≤ k ∧ PS.from x.l s' k' (k - k') = s := by
  induction h with
  | begin => exact ⟨by omega, _, _, rfl, Nat.le_refl _, rfl⟩
  | @drain k s D b hr hb hcan ih =>
    obtain ⟨h0, s', k', h1, h2, h3⟩ := ih
    refine ⟨h0, s.drain b, k, ?_, Nat.le_refl _, by rw [Nat.sub_self]; rfl⟩
    rw [List.length_append, List.length_singleton]
    have e : (D ++ [((k : Int), (b : Int))]).getD D.length (0, 0) = ((k : Int), (b : Int)) := by simp [List.getD_eq_getElem?_getD]
    simp only [PS.playD]
    rw [playD_pre x D _ D.length (Nat.le_refl _), h1, e]
    dsimp only
    rw [show (k : Int).toNat = k from Int.toNat_natCast k, show (b : Int).toNat = b from Int.toNat_natCast b, h3]
    rw [if_pos ⟨⟨by omega, by omega⟩, ⟨by omega, by omega⟩, hcan⟩]
  | @order k s D hr hk ih =>
    obtain ⟨h0, s', k', h1, h2, h3⟩ := ih
    refine ⟨hk, s', k', h1, by omega, ?_⟩
    rw [show k + 1 - k' = (k - k') + 1 by omega, from_from, h3, show k' + (k - k') = k by omega]
theorem img_play {x : Cache} (hx : x.Ok) {im : Img} (h : ImgOk x im) : ¬ badPl x im.t.D im.torn ∧ ∃ s k, PS.playD x im.t.D im.t.D.length = some (s, k) ∧ PS.endP x im.t.D im.torn s k = im.h := by
  rcases h with ⟨h1, h2, h3⟩ | ⟨h1, s0, D, b, h2, h3, h4, h5, h6⟩
  · obtain ⟨_, s', k', g1, g2, g3⟩ := rch_play h2
    have hD := (rch_good hx _ _ _ h2)
    obtain ⟨u, q1, q2⟩ := rch_u hx h2
    have hi := q1.inv hx
    have hc := cntL_nonneg u.E
    have := hi.tot
    have := hi.D
    have := hx.len
    unfold PS.tot at *
    refine ⟨fun g => ?_, s', k', g1, ?_⟩
    · rcases g with g | ⟨g, _⟩
      · omega
      · rw [h1] at g; cases g
    · unfold PS.endP
      rw [h1, if_neg (by simp), g3, h3]
  · have h7 := Rch.drain h2 h3 h4
    obtain ⟨_, s', k', g1, g2, g3⟩ := rch_play h7
    obtain ⟨u, q1, q2⟩ := rch_u hx h7
    have hi := q1.inv hx
    have hc := cntL_nonneg u.E
    have := hi.tot
    have hDl := hi.D
    have := hx.len
    unfold PS.tot at *
    have e : im.t.D = D ++ [((x.l.length : Int), (b : Int))] := by rw [h6]
    have e2 : (D ++ [((x.l.length : Int), (b : Int))]).getD ((D ++ [((x.l.length : Int), (b : Int))]).length - 1) (0, 0) = ((x.l.length : Int), (b : Int)) := by simp [List.getD_eq_getElem?_getD]
    rw [e]
    refine ⟨fun g => ?_, s', k', g1, ?_⟩
    · rcases g with g | ⟨_, g | g⟩
      · omega
      · simp at g
      · rw [e2] at g; exact g rfl
    · unfold PS.endP
      rw [if_pos h1, g3, h5, e2]
      obtain ⟨n, hn⟩ := drain_M h4
      rw [hn]
      show (s0.M.set b n).set (b : Int).toNat (-2) = _
      rw [Int.toNat_natCast, C6.set_set _ (by have := hx.n; omega)]
end Go.Proofs


namespace Go.Proofs
open Go Go.Sx
set_option maxRecDepth 100000
set_option maxHeartbeats 40000000
def sureP (x : Cache) (i : Nat) : Prop := ((x.l.getD i (0, 0)).1 = 1 ∨ (x.l.getD i (0, 0)).1 = 2) ∧ ∀ h, PosI x h → h.get (x.l.getD i (0, 0)).2.toNat = -2 ∨ (i : Int) ≤ h.get (x.l.getD i (0, 0)).2.toNat
open Classical in
noncomputable def sureL (x : Cache) (k : Nat) : List Int := ((List.range k).filter fun i => decide (sureP x i)).map fun (i : Nat) => (i : Int)
theorem sureL_succ (x : Cache) (k : Nat) : (sureP x k → sureL x (k + 1) = sureL x k ++ [(k : Int)]) ∧ (¬ sureP x k → sureL x (k + 1) = sureL x k) := by
  unfold sureL
  rw [List.range_succ, List.filter_append, List.map_append]
  constructor
  · intro h; simp [h]
  · intro h; simp [h]
theorem sureL_len (x : Cache) (k : Nat) : (sureL x k).length ≤ k := by
  unfold sureL
  have := List.length_filter_le (fun i => @decide (sureP x i) (Classical.propDecidable _)) (List.range k)
  simpa using this
open Classical in
theorem Sure28 (x : Cache) (hl : x.l.length ≤ 1000000) (hs : x.chk = 0 → x.Small) : PureC Try.prog 28 false [x.v] (fun r => (x.chk = 0 → r = .tup [.sl 1 (sureL x x.l.length).length (rowOf intC 0 (sureL x x.l.length)), .int .i64 0]) ∧ (x.chk ≠ 0 → r = .tup [.lit (.slice none 0 0), .int .i64 x.chk])) := by
  refine pureC_of_exec Try.E_ok Try.func28 rfl (by kernel_rfl) ?_
  (repeat' ((conv => whnf); (first | (with_reducible first | apply spl | apply spl') <;> intro hc <;> try (exfalso; omega) | with_reducible refine iJ fun hc => ?_ | refine vcq (k := ?_) | fail))); all_goals ((try conv => whnf); try with_reducible exact trivial); (repeat' ((first | (refine callee_fo (check36 x hl) rfl ?_; rintro _ rfl) | (refine pcall_intro (check36 x hl) rfl ?_) | (refine pcall_soft (fun _ => check36 x hl) rfl ?_)); (repeat' ((conv => whnf); (first | (with_reducible first | apply spl | apply spl') <;> intro hc <;> try (exfalso; omega) | with_reducible refine iJ fun hc => ?_ | refine vcq (k := ?_) | fail))); all_goals ((try conv => whnf); try with_reducible exact trivial)))
  · have hk : x.chk ≠ 0 := hc
    refine ⟨_, ⟨fun h => absurd h hk, fun _ => rfl⟩, ?_⟩
    (repeat' ((conv => whnf); (first | (with_reducible first | apply spl | apply spl') <;> intro hc <;> try (exfalso; omega) | with_reducible refine iJ fun hc => ?_ | refine vcq (k := ?_) | fail))); all_goals ((try conv => whnf); try with_reducible exact trivial)
  · have hk := Classical.not_not.1 hc
    have hx := hs hk
    have hn := hx.ok.n
    have hx16 := hx.ok.len
    refine callee_fo (images56s x hx) rfl ?_
    rintro _ ⟨L, hL, rfl⟩
    have hLl := hL.len
    (repeat' ((conv => whnf); (first | (with_reducible first | apply spl | apply spl') <;> intro hc <;> try (exfalso; omega) | with_reducible refine iJ fun hc => ?_ | refine vcq (k := ?_) | fail))); all_goals ((try conv => whnf); try with_reducible exact trivial)
    refine ⟨Nat × List Int, fun q => q.1 ≤ x.l.length ∧ q.2 = sureL x q.1, fun q => x.l.length - q.1, fun q => [(22, .int .i64 (q.1 : Nat)), (6, .osl 1 q.2.length)], fun _ => [], fun q => [.row 3 1 q.2.length (rowOf intC 0 q.2) true], (0, []), ⟨⟨by dsimp only; omega, rfl⟩, some [some 0, none], ?_⟩, ?_⟩
    · (repeat' ((conv => whnf); (first | (with_reducible first | apply spl | apply spl') <;> intro hc <;> try (exfalso; omega) | with_reducible refine iJ fun hc => ?_ | refine vcq (k := ?_) | fail))); all_goals ((try conv => whnf); try with_reducible exact trivial)
    · rintro ⟨i, l⟩ ⟨hi, hlq⟩
      dsimp only at hi hlq
      have hsl := sureL_len x i
      rw [← hlq] at hsl
      (repeat' ((conv => whnf); (first | (with_reducible first | apply spl | apply spl') <;> intro hc <;> try (exfalso; omega) | with_reducible refine iJ fun hc => ?_ | refine vcq (k := ?_) | fail))); all_goals ((try conv => whnf); try with_reducible exact trivial)
      · have hi1 : i < x.l.length := by dsimp only at hc; omega
        have hblk := hx.ok.blk hi1
        refine callee_fo (puts62 (x.l.getD (i : Int).toNat (0, 0))) rfl ?_
        rintro _ rfl
        have hti : (i : Int).toNat = i := Int.toNat_natCast i
        have hsu := sureL_succ x i
        (repeat' ((conv => whnf); (first | (with_reducible first | apply spl | apply spl') <;> intro hc <;> try (exfalso; omega) | with_reducible refine iJ fun hc => ?_ | refine vcq (k := ?_) | fail))); all_goals ((try conv => whnf); try with_reducible exact trivial)
        · have hno : ¬ sureP x i := fun h => hc h.1
          refine ⟨(i + 1, l), ⟨⟨by dsimp only; omega, by dsimp only; rw [hsu.2 hno]; exact hlq⟩, by dsimp only; omega⟩, some [some 0, some 1], ?_⟩
          (repeat' ((conv => whnf); (first | (with_reducible first | apply spl | apply spl') <;> intro hc <;> try (exfalso; omega) | with_reducible refine iJ fun hc => ?_ | refine vcq (k := ?_) | fail))); all_goals ((try conv => whnf); try with_reducible exact trivial)
        · have hp : (x.l.getD i (0, 0)).1 = 1 ∨ (x.l.getD i (0, 0)).1 = 2 := Classical.not_not.1 hc
          have hok : ∀ im ∈ L, PosI x im.h := fun im h => (hL.pos hx.ok _).1 ⟨im, h, rfl⟩
          have hsp : sureP x i ↔ ∀ q, q < L.length → (L.getD q Img.none).h.get (x.l.getD i (0, 0)).2.toNat = -2 ∨ (i : Int) ≤ (L.getD q Img.none).h.get (x.l.getD i (0, 0)).2.toNat := by
            constructor
            · intro h q hq
              have e : L.getD q Img.none = L[q] := by simp [List.getD_eq_getElem?_getD, hq]
              rw [e]
              exact h.2 _ (hok _ (List.getElem_mem hq))
            · intro h
              refine ⟨hp, fun c hc => ?_⟩
              obtain ⟨im, h1, rfl⟩ := (hL.pos hx.ok _).2 hc
              obtain ⟨q, hq, rfl⟩ := List.getElem_of_mem h1
              have e : L.getD q Img.none = L[q] := by simp [List.getD_eq_getElem?_getD, hq]
              rw [← e]
              exact h q hq
          have hb3 : (x.l.getD i (0, 0)).2 = 0 ∨ (x.l.getD i (0, 0)).2 = 1 ∨ (x.l.getD i (0, 0)).2 = 2 := by
            have := hblk hp
            have h3 := hx.n
            have := hx.ok.ord (x.l.getD i (0, 0)) (by rw [show x.l.getD i (0, 0) = x.l[i] by simp [List.getD_eq_getElem?_getD, hi1]]; exact List.getElem_mem hi1)
            unfold Cache.OkO at this
            omega
          rcases hb3 with hb | hb | hb
          · rw [hb] at hsp
            refine ⟨Nat, fun j => j ≤ L.length ∧ ∀ q, q < j → (L.getD q Img.none).h.get (0 : Int).toNat = -2 ∨ (i : Int) ≤ (L.getD q Img.none).h.get (0 : Int).toNat, fun j => L.length - j, fun j => [(32, .int .i64 (j : Nat))], fun j => [(2, .cells 42 [.int .i64 (x.l.getD i (0, 0)).1, .int .i64 0])], fun _ => [], 0, ⟨⟨by omega, fun q hq => by omega⟩, some [some 0, some 1, some 2], ?_⟩, ?_⟩
            · (repeat' ((conv => whnf); (first | (with_reducible first | apply spl | apply spl') <;> intro hc <;> try (exfalso; omega) | with_reducible refine iJ fun hc => ?_ | refine vcq (k := ?_) | fail))); all_goals ((try conv => whnf); try with_reducible exact trivial)
              refine ⟨by rw [hti]; exact hb, ?_⟩
              (repeat' ((conv => whnf); (first | (with_reducible first | apply spl | apply spl') <;> intro hc <;> try (exfalso; omega) | with_reducible refine iJ fun hc => ?_ | refine vcq (k := ?_) | fail))); all_goals ((try conv => whnf); try with_reducible exact trivial)
            · rintro j ⟨h1, h2⟩
              have h1 : j ≤ L.length := h1
              have htj : (j : Int).toNat = j := Int.toNat_natCast j
              (repeat' ((conv => whnf); (first | (with_reducible first | apply spl | apply spl') <;> intro hc <;> try (exfalso; omega) | with_reducible refine iJ fun hc => ?_ | refine vcq (k := ?_) | fail))); all_goals ((try conv => whnf); try with_reducible exact trivial)
              · have hj : j < L.length := by omega
                rw [htj] at hc
                have hno : ¬ sureP x i := fun h => by
                  rcases hsp.1 h j hj with g | g
                  · exact hc.1 g
                  · exact absurd (show (L.getD j Img.none).h.get (0 : Int).toNat < i from hc.2) (by omega)
                refine ⟨(i + 1, l), ⟨⟨by dsimp only; omega, by dsimp only; rw [hsu.2 hno]; exact hlq⟩, by dsimp only; omega⟩, some [some 0, some 1], ?_⟩
                (repeat' ((conv => whnf); (first | (with_reducible first | apply spl | apply spl') <;> intro hc <;> try (exfalso; omega) | with_reducible refine iJ fun hc => ?_ | refine vcq (k := ?_) | fail))); all_goals ((try conv => whnf); try with_reducible exact trivial)
              · have hj : j < L.length := by omega
                rw [htj] at hc
                refine ⟨j + 1, ⟨⟨by omega, fun q hq => ?_⟩, by dsimp only; omega⟩, some [some 0, some 1, some 2], ?_⟩
                · rcases Nat.lt_or_eq_of_le (show q ≤ j by omega) with g | rfl
                  · exact h2 q g
                  · have e : (L.getD q Img.none).h.get (0 : Int).toNat = (L.getD q Img.none).h.a0 := rfl
                    rw [e]
                    omega
                · (repeat' ((conv => whnf); (first | (with_reducible first | apply spl | apply spl') <;> intro hc <;> try (exfalso; omega) | with_reducible refine iJ fun hc => ?_ | refine vcq (k := ?_) | fail))); all_goals ((try conv => whnf); try with_reducible exact trivial)
              · obtain rfl : j = L.length := by omega
                have hyes : sureP x i := hsp.2 h2
                refine ⟨(i + 1, l ++ [(i : Int)]), ⟨⟨by dsimp only; omega, by dsimp only; rw [hsu.1 hyes, hlq]⟩, by dsimp only; omega⟩, some [some 0, some 4], ?_⟩
                (repeat' ((conv => whnf); (first | (with_reducible first | apply spl | apply spl') <;> intro hc <;> try (exfalso; omega) | with_reducible refine iJ fun hc => ?_ | refine vcq (k := ?_) | fail))); all_goals ((try conv => whnf); try with_reducible exact trivial)
                refine ⟨by simp, ?_⟩
                (repeat' ((conv => whnf); (first | (with_reducible first | apply spl | apply spl') <;> intro hc <;> try (exfalso; omega) | with_reducible refine iJ fun hc => ?_ | refine vcq (k := ?_) | fail))); all_goals ((try conv => whnf); try with_reducible exact trivial)
                refine ⟨by simp, rowOf_snoc (c := intC) (a := (i : Int)) (l := l) rfl (fun _ _ => rfl), ?_⟩
                (repeat' ((conv => whnf); (first | (with_reducible first | apply spl | apply spl') <;> intro hc <;> try (exfalso; omega) | with_reducible refine iJ fun hc => ?_ | refine vcq (k := ?_) | fail))); all_goals ((try conv => whnf); try with_reducible exact trivial)
          · rw [hb] at hsp
            refine ⟨Nat, fun j => j ≤ L.length ∧ ∀ q, q < j → (L.getD q Img.none).h.get (1 : Int).toNat = -2 ∨ (i : Int) ≤ (L.getD q Img.none).h.get (1 : Int).toNat, fun j => L.length - j, fun j => [(32, .int .i64 (j : Nat))], fun j => [(2, .cells 42 [.int .i64 (x.l.getD i (0, 0)).1, .int .i64 1])], fun _ => [], 0, ⟨⟨by omega, fun q hq => by omega⟩, some [some 0, some 1, some 2], ?_⟩, ?_⟩
            · (repeat' ((conv => whnf); (first | (with_reducible first | apply spl | apply spl') <;> intro hc <;> try (exfalso; omega) | with_reducible refine iJ fun hc => ?_ | refine vcq (k := ?_) | fail))); all_goals ((try conv => whnf); try with_reducible exact trivial)
              refine ⟨by rw [hti]; exact hb, ?_⟩
              (repeat' ((conv => whnf); (first | (with_reducible first | apply spl | apply spl') <;> intro hc <;> try (exfalso; omega) | with_reducible refine iJ fun hc => ?_ | refine vcq (k := ?_) | fail))); all_goals ((try conv => whnf); try with_reducible exact trivial)
            · rintro j ⟨h1, h2⟩
              have h1 : j ≤ L.length := h1
              have htj : (j : Int).toNat = j := Int.toNat_natCast j
              (repeat' ((conv => whnf); (first | (with_reducible first | apply spl | apply spl') <;> intro hc <;> try (exfalso; omega) | with_reducible refine iJ fun hc => ?_ | refine vcq (k := ?_) | fail))); all_goals ((try conv => whnf); try with_reducible exact trivial)
              · have hj : j < L.length := by omega
                rw [htj] at hc
                have hno : ¬ sureP x i := fun h => by
                  rcases hsp.1 h j hj with g | g
                  · exact hc.1 g
                  · exact absurd (show (L.getD j Img.none).h.get (1 : Int).toNat < i from hc.2) (by omega)
                refine ⟨(i + 1, l), ⟨⟨by dsimp only; omega, by dsimp only; rw [hsu.2 hno]; exact hlq⟩, by dsimp only; omega⟩, some [some 0, some 1], ?_⟩
                (repeat' ((conv => whnf); (first | (with_reducible first | apply spl | apply spl') <;> intro hc <;> try (exfalso; omega) | with_reducible refine iJ fun hc => ?_ | refine vcq (k := ?_) | fail))); all_goals ((try conv => whnf); try with_reducible exact trivial)
              · have hj : j < L.length := by omega
                rw [htj] at hc
                refine ⟨j + 1, ⟨⟨by omega, fun q hq => ?_⟩, by dsimp only; omega⟩, some [some 0, some 1, some 2], ?_⟩
                · rcases Nat.lt_or_eq_of_le (show q ≤ j by omega) with g | rfl
                  · exact h2 q g
                  · have e : (L.getD q Img.none).h.get (1 : Int).toNat = (L.getD q Img.none).h.a1 := rfl
                    rw [e]
                    omega
                · (repeat' ((conv => whnf); (first | (with_reducible first | apply spl | apply spl') <;> intro hc <;> try (exfalso; omega) | with_reducible refine iJ fun hc => ?_ | refine vcq (k := ?_) | fail))); all_goals ((try conv => whnf); try with_reducible exact trivial)
              · obtain rfl : j = L.length := by omega
                have hyes : sureP x i := hsp.2 h2
                refine ⟨(i + 1, l ++ [(i : Int)]), ⟨⟨by dsimp only; omega, by dsimp only; rw [hsu.1 hyes, hlq]⟩, by dsimp only; omega⟩, some [some 0, some 4], ?_⟩
                (repeat' ((conv => whnf); (first | (with_reducible first | apply spl | apply spl') <;> intro hc <;> try (exfalso; omega) | with_reducible refine iJ fun hc => ?_ | refine vcq (k := ?_) | fail))); all_goals ((try conv => whnf); try with_reducible exact trivial)
                refine ⟨by simp, ?_⟩
                (repeat' ((conv => whnf); (first | (with_reducible first | apply spl | apply spl') <;> intro hc <;> try (exfalso; omega) | with_reducible refine iJ fun hc => ?_ | refine vcq (k := ?_) | fail))); all_goals ((try conv => whnf); try with_reducible exact trivial)
                refine ⟨by simp, rowOf_snoc (c := intC) (a := (i : Int)) (l := l) rfl (fun _ _ => rfl), ?_⟩
                (repeat' ((conv => whnf); (first | (with_reducible first | apply spl | apply spl') <;> intro hc <;> try (exfalso; omega) | with_reducible refine iJ fun hc => ?_ | refine vcq (k := ?_) | fail))); all_goals ((try conv => whnf); try with_reducible exact trivial)
          · rw [hb] at hsp
            refine ⟨Nat, fun j => j ≤ L.length ∧ ∀ q, q < j → (L.getD q Img.none).h.get (2 : Int).toNat = -2 ∨ (i : Int) ≤ (L.getD q Img.none).h.get (2 : Int).toNat, fun j => L.length - j, fun j => [(32, .int .i64 (j : Nat))], fun j => [(2, .cells 42 [.int .i64 (x.l.getD i (0, 0)).1, .int .i64 2])], fun _ => [], 0, ⟨⟨by omega, fun q hq => by omega⟩, some [some 0, some 1, some 2], ?_⟩, ?_⟩
            · (repeat' ((conv => whnf); (first | (with_reducible first | apply spl | apply spl') <;> intro hc <;> try (exfalso; omega) | with_reducible refine iJ fun hc => ?_ | refine vcq (k := ?_) | fail))); all_goals ((try conv => whnf); try with_reducible exact trivial)
              refine ⟨by rw [hti]; exact hb, ?_⟩
              (repeat' ((conv => whnf); (first | (with_reducible first | apply spl | apply spl') <;> intro hc <;> try (exfalso; omega) | with_reducible refine iJ fun hc => ?_ | refine vcq (k := ?_) | fail))); all_goals ((try conv => whnf); try with_reducible exact trivial)
            · rintro j ⟨h1, h2⟩
              have h1 : j ≤ L.length := h1
              have htj : (j : Int).toNat = j := Int.toNat_natCast j
              (repeat' ((conv => whnf); (first | (with_reducible first | apply spl | apply spl') <;> intro hc <;> try (exfalso; omega) | with_reducible refine iJ fun hc => ?_ | refine vcq (k := ?_) | fail))); all_goals ((try conv => whnf); try with_reducible exact trivial)
              · have hj : j < L.length := by omega
                rw [htj] at hc
                have hno : ¬ sureP x i := fun h => by
                  rcases hsp.1 h j hj with g | g
                  · exact hc.1 g
                  · exact absurd (show (L.getD j Img.none).h.get (2 : Int).toNat < i from hc.2) (by omega)
                refine ⟨(i + 1, l), ⟨⟨by dsimp only; omega, by dsimp only; rw [hsu.2 hno]; exact hlq⟩, by dsimp only; omega⟩, some [some 0, some 1], ?_⟩
                (repeat' ((conv => whnf); (first | (with_reducible first | apply spl | apply spl') <;> intro hc <;> try (exfalso; omega) | with_reducible refine iJ fun hc => ?_ | refine vcq (k := ?_) | fail))); all_goals ((try conv => whnf); try with_reducible exact trivial)
              · have hj : j < L.length := by omega
                rw [htj] at hc
                refine ⟨j + 1, ⟨⟨by omega, fun q hq => ?_⟩, by dsimp only; omega⟩, some [some 0, some 1, some 2], ?_⟩
                · rcases Nat.lt_or_eq_of_le (show q ≤ j by omega) with g | rfl
                  · exact h2 q g
                  · have e : (L.getD q Img.none).h.get (2 : Int).toNat = (L.getD q Img.none).h.a2 := rfl
                    rw [e]
                    omega
                · (repeat' ((conv => whnf); (first | (with_reducible first | apply spl | apply spl') <;> intro hc <;> try (exfalso; omega) | with_reducible refine iJ fun hc => ?_ | refine vcq (k := ?_) | fail))); all_goals ((try conv => whnf); try with_reducible exact trivial)
              · obtain rfl : j = L.length := by omega
                have hyes : sureP x i := hsp.2 h2
                refine ⟨(i + 1, l ++ [(i : Int)]), ⟨⟨by dsimp only; omega, by dsimp only; rw [hsu.1 hyes, hlq]⟩, by dsimp only; omega⟩, some [some 0, some 4], ?_⟩
                (repeat' ((conv => whnf); (first | (with_reducible first | apply spl | apply spl') <;> intro hc <;> try (exfalso; omega) | with_reducible refine iJ fun hc => ?_ | refine vcq (k := ?_) | fail))); all_goals ((try conv => whnf); try with_reducible exact trivial)
                refine ⟨by simp, ?_⟩
                (repeat' ((conv => whnf); (first | (with_reducible first | apply spl | apply spl') <;> intro hc <;> try (exfalso; omega) | with_reducible refine iJ fun hc => ?_ | refine vcq (k := ?_) | fail))); all_goals ((try conv => whnf); try with_reducible exact trivial)
                refine ⟨by simp, rowOf_snoc (c := intC) (a := (i : Int)) (l := l) rfl (fun _ _ => rfl), ?_⟩
                (repeat' ((conv => whnf); (first | (with_reducible first | apply spl | apply spl') <;> intro hc <;> try (exfalso; omega) | with_reducible refine iJ fun hc => ?_ | refine vcq (k := ?_) | fail))); all_goals ((try conv => whnf); try with_reducible exact trivial)
      · obtain rfl : i = x.l.length := by dsimp only at hc; omega
        rw [← hlq]
        refine ⟨_, ⟨fun _ => rfl, fun h => absurd hk h⟩, ?_⟩
        (repeat' ((conv => whnf); (first | (with_reducible first | apply spl | apply spl') <;> intro hc <;> try (exfalso; omega) | with_reducible refine iJ fun hc => ?_ | refine vcq (k := ?_) | fail))); all_goals ((try conv => whnf); try with_reducible exact trivial)
end Go.Proofs


namespace Go.Proofs
open Go Go.Sx
set_option maxRecDepth 100000
set_option maxHeartbeats 40000000
def iF (F : Nat → Int) (b : Nat) : List V := [.int .i64 (F b)]
theorem sameInts30 (n m : Nat) (hn : n ≤ 1000000) (_hm : m ≤ 1000000) (F G : Nat → Int) : PureC Try.prog 30 false [.sl 1 n (iF F), .sl 1 m (iF G)] (· = .prop (n = m ∧ ∀ b, b < n → F b = G b) (Classical.propDecidable _)) := by
  refine pureC_of_exec Try.E_ok Try.func30 rfl (by kernel_rfl) ?_
  (repeat' ((conv => whnf); (first | (with_reducible first | apply spl | apply spl') <;> intro hc <;> try (exfalso; omega) | with_reducible refine iJ fun hc => ?_ | refine vcq (k := ?_) | refine dr 9 (k := ?_)))); all_goals ((try conv => whnf); try with_reducible exact trivial)
  · refine ⟨_, rfl, ?_⟩
    (repeat' ((conv => whnf); (first | (with_reducible first | apply spl | apply spl') <;> intro hc <;> try (exfalso; omega) | with_reducible refine iJ fun hc => ?_ | refine vcq (k := ?_) | refine dr 9 (k := ?_)))); all_goals ((try conv => whnf); try with_reducible exact trivial)
  · have hnl : n = m := by omega
    refine ⟨Nat, fun i => i ≤ n ∧ ∀ b, b < i → F b = G b, fun i => n - i, fun i => [(5, .int .i64 (i : Nat))], fun _ => [], fun _ => [], 0, ⟨⟨by omega, fun b hb => by omega⟩, none, ?_⟩, ?_⟩
    · (repeat' ((conv => whnf); (first | (with_reducible first | apply spl | apply spl') <;> intro hc <;> try (exfalso; omega) | with_reducible refine iJ fun hc => ?_ | refine vcq (k := ?_) | refine dr 9 (k := ?_)))); all_goals ((try conv => whnf); try with_reducible exact trivial)
    · rintro i ⟨h1, h2⟩
      have hti : (i : Int).toNat = i := Int.toNat_natCast i
      (repeat' ((conv => whnf); (first | (with_reducible first | apply spl | apply spl') <;> intro hc <;> try (exfalso; omega) | with_reducible refine iJ fun hc => ?_ | refine vcq (k := ?_) | refine dr 9 (k := ?_)))); all_goals ((try conv => whnf); try with_reducible exact trivial)
      · refine ⟨_, rfl, ?_⟩
        (repeat' ((conv => whnf); (first | (with_reducible first | apply spl | apply spl') <;> intro hc <;> try (exfalso; omega) | with_reducible refine iJ fun hc => ?_ | refine vcq (k := ?_) | refine dr 9 (k := ?_)))); all_goals ((try conv => whnf); try with_reducible exact trivial)
        refine ⟨fun h => ?_, trivial⟩
        rw [hti] at hc
        exact hc (h.2 i (by omega))
      · rw [hti] at hc
        refine ⟨i + 1, ⟨⟨by omega, fun b hb => ?_⟩, by dsimp only; omega⟩, none, ?_⟩
        · rcases Nat.lt_or_eq_of_le (show b ≤ i by omega) with h | rfl
          · exact h2 b h
          · exact Classical.not_not.1 hc
        · (repeat' ((conv => whnf); (first | (with_reducible first | apply spl | apply spl') <;> intro hc <;> try (exfalso; omega) | with_reducible refine iJ fun hc => ?_ | refine vcq (k := ?_) | refine dr 9 (k := ?_)))); all_goals ((try conv => whnf); try with_reducible exact trivial)
      · refine ⟨_, rfl, ?_⟩
        (repeat' ((conv => whnf); (first | (with_reducible first | apply spl | apply spl') <;> intro hc <;> try (exfalso; omega) | with_reducible refine iJ fun hc => ?_ | refine vcq (k := ?_) | refine dr 9 (k := ?_)))); all_goals ((try conv => whnf); try with_reducible exact trivial)
        exact ⟨⟨hnl, fun b hb => h2 b (by omega)⟩, trivial⟩
def ex : Cache := ⟨3, [(1, 0), (1, 1), (3, 0), (1, 0), (2, 2), (1, 1)]⟩
theorem ex_ok : ex.Ok := by
  refine ⟨by decide, by decide, fun o ho => ?_⟩
  simp only [ex, List.mem_cons, List.not_mem_nil, or_false] at ho
  unfold Cache.OkO
  rcases ho with rfl | rfl | rfl | rfl | rfl | rfl <;> decide
theorem ex_chk : ex.chk = 0 := if_pos ex_ok
theorem ex_small : ex.Small := ⟨ex_ok, by decide, by decide⟩
theorem Example41 : PureC Try.prog 41 false [] (· = ex.v) := by
  refine pureC_of_exec Try.E_ok Try.func41 rfl (by kernel_rfl) ?_
  (repeat' ((conv => whnf); (first | (with_reducible first | apply spl | apply spl') <;> intro hc <;> try (exfalso; omega) | with_reducible refine iJ fun hc => ?_ | refine vcq (k := ?_) | refine dr 9 (k := ?_)))); all_goals ((try conv => whnf); try with_reducible exact trivial)
  refine ⟨_, rfl, ?_⟩
  (repeat' ((conv => whnf); (first | (with_reducible first | apply spl | apply spl') <;> intro hc <;> try (exfalso; omega) | with_reducible refine iJ fun hc => ?_ | refine vcq (k := ?_) | refine dr 9 (k := ?_)))); all_goals ((try conv => whnf); try with_reducible exact trivial)
  refine ⟨fun i hi => ?_, .inr fun i hi => ?_, trivial⟩
  · have : i = 0 ∨ i = 1 ∨ i = 2 ∨ i = 3 ∨ i = 4 ∨ i = 5 := by omega
    rcases this with rfl | rfl | rfl | rfl | rfl | rfl <;> rfl
  · rfl
theorem run_rch (x : Cache) : ∀ k, k ≤ x.l.length → Rch x k (PS.run x.l k) []
  | 0, _ => .begin
  | k + 1, h => (run_rch x k (by omega)).order (by omega)
theorem ex_run : (PS.run ex.l 6).M = ⟨0, 1, 4, -1, -1, -1⟩ ∧ (PS.run ex.l 6).E = [⟨3, 5, -3, -3, -3, -3⟩] ∧ (PS.run ex.l 6).W + (PS.run ex.l 6).waits = 5 := by
  decide +kernel
theorem ex_can : (PS.run ex.l 6).can 0 := by
  unfold PS.can PS.ep
  rw [ex_run.2.1]
  decide
theorem ex_rch : Rch ex ex.l.length (PS.run ex.l 6) [] := run_rch ex 6 (by decide)
theorem ex_w1 : PosI ex ⟨0, 1, 4, -1, -1, -1⟩ := ⟨⟨⟨_, _⟩, _, false⟩, .inl ⟨rfl, ex_rch, rfl⟩, ex_run.1⟩
theorem ex_w2 : PosI ex (((PS.run ex.l 6).drain 0).M) := ⟨⟨⟨_, _⟩, _, false⟩, .inl ⟨rfl, ex_rch.drain (b := 0) (by decide) ex_can, rfl⟩, rfl⟩
theorem ex_w3 : PosI ex ((PS.run ex.l 6).M.set 0 (-2)) := ⟨⟨⟨_, _⟩, _, true⟩, .inr ⟨rfl, _, _, 0, ex_rch, by decide, ex_can, rfl, rfl⟩, rfl⟩
theorem ex_drain : ((PS.run ex.l 6).drain 0).M.get 0 = 3 := by decide +kernel
theorem ex_all {h : C6} (hp : PosI ex h) : (h.get 0 = -2 ∨ h.get 0 = 0 ∨ h.get 0 = 3) ∧ (h.get 1 = -2 ∨ 1 ≤ h.get 1) ∧ (h.get 2 = -2 ∨ 4 ≤ h.get 2) := by
  have hput : ∀ q b, putQ ex q b → q < 6 → b = 0 → q = 0 ∨ q = 3 := by
    rintro q b ⟨h1, h2⟩ hq rfl
    have : q = 0 ∨ q = 1 ∨ q = 2 ∨ q = 3 ∨ q = 4 ∨ q = 5 := by omega
    rcases this with rfl | rfl | rfl | rfl | rfl | rfl
    · exact .inl rfl
    · exact absurd h2 (by decide)
    · exact absurd h1 (by decide)
    · exact .inr rfl
    · exact absurd h2 (by decide)
    · exact absurd h2 (by decide)
  obtain ⟨u, D, h1, h2⟩ := hp.u ex_ok
  have hB := h1.invB ex_ok
  have m2 : (4 : Int) ≤ u.M.get 2 := hB.fo 4 (by decide) rfl 2 (by omega) ⟨.inr rfl, rfl⟩
  have bar := fun q hq b hb hp => h1.barrier ex_ok (i := 2) (by decide) (.inl ⟨rfl, 2, by omega, by omega⟩) (q := q) hq (b := b) hb hp
  have m0 : (0 : Int) ≤ u.M.get 0 := bar 0 (by omega) 0 (by omega) ⟨.inl rfl, rfl⟩
  have m1 : (1 : Int) ≤ u.M.get 1 := bar 1 (by omega) 1 (by omega) ⟨.inl rfl, rfl⟩
  have m0' : u.M.get 0 = 0 ∨ u.M.get 0 = 3 := by
    rcases (h1.inv ex_ok).inv.med 0 (by omega) with g | ⟨q, g1, g2, g3⟩
    · omega
    · have := hput q 0 g3 g1 rfl
      omega
  have key : ∀ b, b < 6 → h.get b = -2 ∨ h.get b = u.M.get b := by
    intro b hb
    rcases h2 with rfl | ⟨b0, g1, g2, rfl⟩
    · exact .inr rfl
    · have : (ex.n : Int) = 3 := rfl
      rw [C6.get_set (by omega) hb]
      split
      · exact .inl rfl
      · exact .inr rfl
  have k0 := key 0 (by omega)
  have k1 := key 1 (by omega)
  have k2 := key 2 (by omega)
  omega
theorem ex_canL : canL ex 0 = [-2, 0, 3] := by
  have h : ∀ n ∈ vals9, (@decide (PosV ex 0 n) (Classical.propDecidable _)) = decide (n = -2 ∨ n = 0 ∨ n = 3) := by
    intro n _
    rw [decide_eq_decide]
    constructor
    · rintro ⟨c, h1, rfl⟩
      exact (ex_all h1).1
    · rintro (rfl | rfl | rfl)
      · exact ⟨_, ex_w3, by rw [C6.get_set (by omega) (by omega), if_pos rfl]⟩
      · exact ⟨_, ex_w1, rfl⟩
      · exact ⟨_, ex_w2, ex_drain⟩
  unfold canL
  rw [List.filter_congr h]
  decide
theorem ex_sureL : sureL ex 6 = [0, 1, 4] := by
  have h : ∀ i ∈ List.range 6, (@decide (sureP ex i) (Classical.propDecidable _)) = decide (i = 0 ∨ i = 1 ∨ i = 4) := by
    intro i hi
    rw [decide_eq_decide]
    have : i = 0 ∨ i = 1 ∨ i = 2 ∨ i = 3 ∨ i = 4 ∨ i = 5 := by have := List.mem_range.1 hi; omega
    rcases this with rfl | rfl | rfl | rfl | rfl | rfl
    · refine ⟨fun _ => by decide, fun _ => ⟨.inl rfl, fun h hp => ?_⟩⟩
      show h.get 0 = -2 ∨ _ ≤ h.get 0
      have := (ex_all hp).1
      omega
    · refine ⟨fun _ => by decide, fun _ => ⟨.inl rfl, fun h hp => ?_⟩⟩
      exact (ex_all hp).2.1
    · refine ⟨fun g => absurd g.1 (by decide), fun g => absurd g (by decide)⟩
    · refine ⟨fun g => absurd (g.2 _ ex_w1) (by decide), fun g => absurd g (by decide)⟩
    · refine ⟨fun _ => by decide, fun _ => ⟨.inr rfl, fun h hp => ?_⟩⟩
      exact (ex_all hp).2.2
    · refine ⟨fun g => absurd (g.2 _ ex_w1) (by decide), fun g => absurd g (by decide)⟩
  unfold sureL
  rw [List.filter_congr h]
  decide
theorem can_ex : PureC Try.prog 25 false [ex.v, .int .i64 0] (· = .tup [.sl 1 3 (rowOf intC 0 [-2, 0, 3]), .int .i64 0]) := by
  have h := Can25 ex (by decide) (fun _ => ex_small) 0
  have e : canV ex 0 = [.sl 1 3 (rowOf intC 0 [-2, 0, 3]), .int .i64 0] := by
    unfold canV
    rw [if_pos ex_chk, if_pos (by decide)]
    rw [show (0 : Int).toNat = 0 from rfl, ex_canL]
    rfl
  rw [e] at h
  exact h
theorem sure_ex : PureC Try.prog 28 false [ex.v] (· = .tup [.sl 1 3 (rowOf intC 0 [0, 1, 4]), .int .i64 0]) := by
  refine (Sure28 ex (by decide) (fun _ => ex_small)).mono fun r hr => ?_
  have := hr.1 ex_chk
  rw [show ex.l.length = 6 from rfl, ex_sureL] at this
  exact this
theorem writes_ex : PureC Try.prog 14 false [ex.v] (· = .tup [.int .i64 5, .int .i64 0]) := by
  have h := Writes14 ex (by decide)
  rw [if_pos ex_chk, show ex.l.length = 6 from rfl, ex_run.2.2] at h
  exact h
theorem play_ex : PureC Try.prog 20 false [ex.v, .sl 2 1 (rowOf oC (0, 0) [(6, 0)]), .prop (true = true) inferInstance] (· = .tup [.sl 1 3 (fun b => [.int .i64 ((⟨-2, 1, 4, -1, -1, -1⟩ : C6).get b)]), .int .i64 0]) := by
  have h := Play20 ex (by decide) [(6, 0)] (by decide) true
  have e : playV ex [(6, 0)] true = [.sl 1 3 (fun b => [.int .i64 ((⟨-2, 1, 4, -1, -1, -1⟩ : C6).get b)]), .int .i64 0] := by
    unfold playV
    have hc : (((0 : Nat) : Int) ≤ (([(6, 0)] : List (Int × Int)).getD 0 (0, 0)).1 ∧ (([(6, 0)] : List (Int × Int)).getD 0 (0, 0)).1 ≤ ex.l.length) ∧ (0 ≤ (([(6, 0)] : List (Int × Int)).getD 0 (0, 0)).2 ∧ (([(6, 0)] : List (Int × Int)).getD 0 (0, 0)).2 ≤ ex.n - 1) ∧
        (PS.from ex.l PS.begin 0 ((([(6, 0)] : List (Int × Int)).getD 0 (0, 0)).1.toNat - 0)).can (([(6, 0)] : List (Int × Int)).getD 0 (0, 0)).2.toNat := ⟨by decide, by decide, ex_can⟩
    have hp : PS.playD ex [(6, 0)] 1 = some ((PS.run ex.l 6).drain 0, 6) := by
      simp only [PS.playD]
      rw [if_pos hc]
      rfl
    have he : PS.endP ex [(6, 0)] true ((PS.run ex.l 6).drain 0) 6 = ⟨-2, 1, 4, -1, -1, -1⟩ := by decide +kernel
    rw [if_pos ex_chk, if_neg (by unfold badPl; decide), show ([(6, 0)] : List (Int × Int)).length = 1 from rfl, hp]
    dsimp only
    rw [he]
    rfl
  rw [e] at h
  exact h
theorem works13 : PureC Try.prog 13 false [] (· = .prop True inferInstance) := by
  refine pureC_of_exec Try.E_ok Try.func13 rfl (by kernel_rfl) ?_
  (repeat' ((conv => whnf); (first | (with_reducible first | apply spl | apply spl') <;> intro hc <;> try (exfalso; omega) | with_reducible refine iJ fun hc => ?_ | refine vcq (k := ?_) | refine dr 9 (k := ?_)))); all_goals ((try conv => whnf); try with_reducible exact trivial); (repeat' ((first | (refine callee_fo (Example41) rfl ?_; rintro _ rfl) | (refine pcall_intro (Example41) rfl ?_) | (refine pcall_soft (fun _ => Example41) rfl ?_) | (refine callee_fo (can_ex) rfl ?_; rintro _ rfl) | (refine pcall_intro (can_ex) rfl ?_) | (refine pcall_soft (fun _ => can_ex) rfl ?_) | (refine callee_fo (sure_ex) rfl ?_; rintro _ rfl) | (refine pcall_intro (sure_ex) rfl ?_) | (refine pcall_soft (fun _ => sure_ex) rfl ?_) | (refine callee_fo (writes_ex) rfl ?_; rintro _ rfl) | (refine pcall_intro (writes_ex) rfl ?_) | (refine pcall_soft (fun _ => writes_ex) rfl ?_) | (refine callee_fo (play_ex) rfl ?_; rintro _ rfl) | (refine pcall_intro (play_ex) rfl ?_) | (refine pcall_soft (fun _ => play_ex) rfl ?_)); (repeat' ((conv => whnf); (first | (with_reducible first | apply spl | apply spl') <;> intro hc <;> try (exfalso; omega) | with_reducible refine iJ fun hc => ?_ | refine vcq (k := ?_) | refine dr 9 (k := ?_)))); all_goals ((try conv => whnf); try with_reducible exact trivial)))
  refine callee_view play_ex ?_
  (repeat' ((conv => whnf); (first | (with_reducible first | apply spl | apply spl') <;> intro hc <;> try (exfalso; omega) | with_reducible refine iJ fun hc => ?_ | refine vcq (k := ?_) | refine dr 9 (k := ?_)))); all_goals ((try conv => whnf); try with_reducible exact trivial)
  refine ⟨fun i hi => by have : i = 0 := by omega
                         subst this
                         rfl, .inl rfl, ?_⟩
  (repeat' ((conv => whnf); (first | (with_reducible first | apply spl | apply spl') <;> intro hc <;> try (exfalso; omega) | with_reducible refine iJ fun hc => ?_ | refine vcq (k := ?_) | refine dr 9 (k := ?_)))); all_goals ((try conv => whnf); try with_reducible exact trivial)
  rintro _ rfl
  (repeat' ((conv => whnf); (first | (with_reducible first | apply spl | apply spl') <;> intro hc <;> try (exfalso; omega) | with_reducible refine iJ fun hc => ?_ | refine vcq (k := ?_) | refine dr 9 (k := ?_)))); all_goals ((try conv => whnf); try with_reducible exact trivial)
  have th : ∀ {p : Nat → Prop}, p 0 → p 1 → p 2 → ∀ i, i < 3 → p i := by
    intro p h0 h1 h2 i hi
    have : i = 0 ∨ i = 1 ∨ i = 2 := by omega
    rcases this with rfl | rfl | rfl <;> assumption
  refine callee_view (sameInts30 3 3 (by omega) (by omega) (fun b => ([-2, 0, 3] : List Int).getD b 0) (fun b => ([-2, 0, 3] : List Int).getD b 0)) ?_
  (repeat' ((conv => whnf); (first | (with_reducible first | apply spl | apply spl') <;> intro hc <;> try (exfalso; omega) | with_reducible refine iJ fun hc => ?_ | refine vcq (k := ?_) | refine dr 9 (k := ?_)))); all_goals ((try conv => whnf); try with_reducible exact trivial)
  refine ⟨th rfl rfl rfl, .inl rfl, ?_⟩
  (repeat' ((conv => whnf); (first | (with_reducible first | apply spl | apply spl') <;> intro hc <;> try (exfalso; omega) | with_reducible refine iJ fun hc => ?_ | refine vcq (k := ?_) | refine dr 9 (k := ?_)))); all_goals ((try conv => whnf); try with_reducible exact trivial)
  rintro _ rfl
  (repeat' ((conv => whnf); (first | (with_reducible first | apply spl | apply spl') <;> intro hc <;> try (exfalso; omega) | with_reducible refine iJ fun hc => ?_ | refine vcq (k := ?_) | refine dr 9 (k := ?_)))); all_goals ((try conv => whnf); try with_reducible exact trivial)
  · refine callee_view (sameInts30 3 3 (by omega) (by omega) (fun b => ([0, 1, 4] : List Int).getD b 0) (fun b => ([0, 1, 4] : List Int).getD b 0)) ?_
    (repeat' ((conv => whnf); (first | (with_reducible first | apply spl | apply spl') <;> intro hc <;> try (exfalso; omega) | with_reducible refine iJ fun hc => ?_ | refine vcq (k := ?_) | refine dr 9 (k := ?_)))); all_goals ((try conv => whnf); try with_reducible exact trivial)
    refine ⟨th rfl rfl rfl, .inl rfl, ?_⟩
    (repeat' ((conv => whnf); (first | (with_reducible first | apply spl | apply spl') <;> intro hc <;> try (exfalso; omega) | with_reducible refine iJ fun hc => ?_ | refine vcq (k := ?_) | refine dr 9 (k := ?_)))); all_goals ((try conv => whnf); try with_reducible exact trivial)
    rintro _ rfl
    (repeat' ((conv => whnf); (first | (with_reducible first | apply spl | apply spl') <;> intro hc <;> try (exfalso; omega) | with_reducible refine iJ fun hc => ?_ | refine vcq (k := ?_) | refine dr 9 (k := ?_)))); all_goals ((try conv => whnf); try with_reducible exact trivial)
    · refine callee_view (sameInts30 3 3 (by omega) (by omega) (fun b => ((⟨-2, 1, 4, -1, -1, -1⟩ : C6).get b)) (fun b => ([-2, 1, 4] : List Int).getD b 0)) ?_
      (repeat' ((conv => whnf); (first | (with_reducible first | apply spl | apply spl') <;> intro hc <;> try (exfalso; omega) | with_reducible refine iJ fun hc => ?_ | refine vcq (k := ?_) | refine dr 9 (k := ?_)))); all_goals ((try conv => whnf); try with_reducible exact trivial)
      refine ⟨th rfl rfl rfl, .inl rfl, ?_⟩
      (repeat' ((conv => whnf); (first | (with_reducible first | apply spl | apply spl') <;> intro hc <;> try (exfalso; omega) | with_reducible refine iJ fun hc => ?_ | refine vcq (k := ?_) | refine dr 9 (k := ?_)))); all_goals ((try conv => whnf); try with_reducible exact trivial)
      rintro _ rfl
      (repeat' ((conv => whnf); (first | (with_reducible first | apply spl | apply spl') <;> intro hc <;> try (exfalso; omega) | with_reducible refine iJ fun hc => ?_ | refine vcq (k := ?_) | refine dr 9 (k := ?_)))); all_goals ((try conv => whnf); try with_reducible exact trivial)
      refine ⟨_, rfl, ?_⟩
      (repeat' ((conv => whnf); (first | (with_reducible first | apply spl | apply spl') <;> intro hc <;> try (exfalso; omega) | with_reducible refine iJ fun hc => ?_ | refine vcq (k := ?_) | refine dr 9 (k := ?_)))); all_goals ((try conv => whnf); try with_reducible exact trivial)
      exact ⟨⟨fun _ => trivial, fun _ => ⟨rfl, th rfl rfl rfl⟩⟩, trivial⟩
    · exact absurd ⟨rfl, fun _ _ => rfl⟩ hc
  · exact absurd ⟨rfl, fun _ _ => rfl⟩ hc
end Go.Proofs


namespace Go.Proofs
open Go Go.Sx
set_option maxRecDepth 100000
set_option maxHeartbeats 40000000
def rI (v : Int) : Int := if v = -3 then -1 else v
structure RS where
  M : Nat → Int
  E : List (Nat → Int)
  W : Int
namespace RS
def ep (s : RS) (e : Nat) : Nat → Int := s.E.getD e (fun _ => -1)
def medF (s : RS) : Nat → List V := fun b => [.int .i64 (s.M b)]
def epF (n : Nat) (s : RS) : Nat → List V := fun e => [.sl 1 n (fun b => [.int .i64 (s.ep e b)])]
def c (n : Nat) (s : RS) : List V := [.sl 1 n s.medF, .sl 1 s.E.length (s.epF n), .int .i64 s.W]
def v (n : Nat) (s : RS) : V := .agg (s.c n)
end RS
theorem old45 (x : Cache) (n : Nat) (hn : x.n = n) (hn6 : n ≤ 1000000) : NewC Try.prog 45 [x.v] (fun r H => r = .osl 0 n ∧ H = [.row 3 1 n (fun _ => [.int .i64 (-1)]) true]) := by
  refine newC_ent Try.E_ok Try.func45 rfl (by kernel_rfl) ?_
  rw [show x.v = .agg [.int .i64 n, .sl 2 x.l.length (rowOf oC (0, 0) x.l)] from by unfold Cache.v; rw [hn]]
  (repeat' ((conv => whnf); (first | (with_reducible first | apply spl | apply spl') <;> intro hc <;> try (exfalso; omega) | with_reducible refine iJ fun hc => ?_ | refine vcq (k := ?_) | refine dr 6 (k := ?_) | refine dr 508040603052006 (k := ?_) | refine dr 2008 (k := ?_)))); all_goals ((try conv => whnf); try with_reducible exact trivial)
  refine ⟨Nat, fun i => i ≤ n, fun i => n - i, fun i => [(4, .int .i64 (i : Nat)), (3, .osl 1 i)], fun _ => [], fun i => [.row 3 1 i (fun _ => [.int .i64 (-1)]) true], 0, ⟨by omega, some [some 0, none], ?_⟩, ?_⟩
  · (repeat' ((conv => whnf); (first | (with_reducible first | apply spl | apply spl') <;> intro hc <;> try (exfalso; omega) | with_reducible refine iJ fun hc => ?_ | refine vcq (k := ?_) | refine dr 6 (k := ?_) | refine dr 508040603052006 (k := ?_) | refine dr 2008 (k := ?_)))); all_goals ((try conv => whnf); try with_reducible exact trivial)
  · intro i hi
    have hi : i ≤ n := hi
    (repeat' ((conv => whnf); (first | (with_reducible first | apply spl | apply spl') <;> intro hc <;> try (exfalso; omega) | with_reducible refine iJ fun hc => ?_ | refine vcq (k := ?_) | refine dr 6 (k := ?_) | refine dr 508040603052006 (k := ?_) | refine dr 2008 (k := ?_)))); all_goals ((try conv => whnf); try with_reducible exact trivial)
    · refine ⟨i + 1, ⟨by omega, by dsimp only; omega⟩, some [some 0, some 3], ?_⟩
      (repeat' ((conv => whnf); (first | (with_reducible first | apply spl | apply spl') <;> intro hc <;> try (exfalso; omega) | with_reducible refine iJ fun hc => ?_ | refine vcq (k := ?_) | refine dr 6 (k := ?_) | refine dr 508040603052006 (k := ?_) | refine dr 2008 (k := ?_)))); all_goals ((try conv => whnf); try with_reducible exact trivial)
      refine ⟨appF_one rfl, ?_⟩
      (repeat' ((conv => whnf); (first | (with_reducible first | apply spl | apply spl') <;> intro hc <;> try (exfalso; omega) | with_reducible refine iJ fun hc => ?_ | refine vcq (k := ?_) | refine dr 6 (k := ?_) | refine dr 508040603052006 (k := ?_) | refine dr 2008 (k := ?_)))); all_goals ((try conv => whnf); try with_reducible exact trivial)
    · obtain rfl : i = n := by omega
      refine ⟨_, _, ⟨rfl, rfl⟩, some [some 1], ?_⟩
      (repeat' ((conv => whnf); (first | (with_reducible first | apply spl | apply spl') <;> intro hc <;> try (exfalso; omega) | with_reducible refine iJ fun hc => ?_ | refine vcq (k := ?_) | refine dr 6 (k := ?_) | refine dr 508040603052006 (k := ?_) | refine dr 2008 (k := ?_)))); all_goals ((try conv => whnf); try with_reducible exact trivial)
theorem old45p (x : Cache) (n : Nat) (hn : x.n = n) (hn6 : n ≤ 1000000) : PureC Try.prog 45 false [x.v] (· = .sl 1 n (fun _ => [.int .i64 (-1)])) := by
  refine (old45 x n hn hn6).pure ?_
  rintro _ _ ⟨rfl, rfl⟩
  refine ⟨_, rfl, ?_⟩
  (repeat' ((conv => whnf); (first | (with_reducible first | apply spl | apply spl') <;> intro hc <;> try (exfalso; omega) | with_reducible refine iJ fun hc => ?_ | refine vcq (k := ?_) | refine dr 6 (k := ?_) | refine dr 508040603052006 (k := ?_) | refine dr 2008 (k := ?_)))); all_goals ((try conv => whnf); try with_reducible exact trivial)
def RS.begin : RS := ⟨fun _ => -1, [fun _ => -1], 0⟩
theorem begin16 (x : Cache) (n : Nat) (hn : x.n = n) (hn6 : n ≤ 1000000) : PureC Try.prog 16 true [x.v] (· = RS.begin.v n) := by
  refine pureC_of_exec Try.E_ok Try.func16 rfl (by kernel_rfl) ?_
  (repeat' ((conv => whnf); (first | (with_reducible first | apply spl | apply spl') <;> intro hc <;> try (exfalso; omega) | with_reducible refine iJ fun hc => ?_ | refine vcq (k := ?_) | refine dr 6 (k := ?_)))); all_goals ((try conv => whnf); try with_reducible exact trivial)
  refine pcall_intro (old45p x n hn hn6) rfl ?_
  (repeat' ((conv => whnf); (first | (with_reducible first | apply spl | apply spl') <;> intro hc <;> try (exfalso; omega) | with_reducible refine iJ fun hc => ?_ | refine vcq (k := ?_) | refine dr 6 (k := ?_)))); all_goals ((try conv => whnf); try with_reducible exact trivial)
  refine pcall_intro (old45p x n hn hn6) rfl ?_
  (repeat' ((conv => whnf); (first | (with_reducible first | apply spl | apply spl') <;> intro hc <;> try (exfalso; omega) | with_reducible refine iJ fun hc => ?_ | refine vcq (k := ?_) | refine dr 6 (k := ?_)))); all_goals ((try conv => whnf); try with_reducible exact trivial)
  refine ⟨_, rfl, ?_⟩
  (repeat' ((conv => whnf); (first | (with_reducible first | apply spl | apply spl') <;> intro hc <;> try (exfalso; omega) | with_reducible refine iJ fun hc => ?_ | refine vcq (k := ?_) | refine dr 6 (k := ?_) | refine dr 508040603052006 (k := ?_) | refine dr 2008 (k := ?_)))); all_goals ((try conv => whnf); try with_reducible exact trivial)
  refine ⟨fun i hi => by obtain rfl : i = 0 := by omega
                         rfl, .inl rfl, ?_⟩
  (repeat' ((conv => whnf); (first | (with_reducible first | apply spl | apply spl') <;> intro hc <;> try (exfalso; omega) | with_reducible refine iJ fun hc => ?_ | refine vcq (k := ?_) | refine dr 6 (k := ?_) | refine dr 508040603052006 (k := ?_) | refine dr 2008 (k := ?_)))); all_goals ((try conv => whnf); try with_reducible exact trivial)
def RS.h (n : Nat) (s : RS) (β : Nat → Option Nat × Nat) : List O := [.row 3 1 n s.medF false, .grid 31 3 1 s.E.length (fun _ => n) (fun e b => [.int .i64 (s.ep e b)]) β none true]
theorem copied49 (n : Nat) (hn : 1 ≤ n ∧ n ≤ 1000) (s : RS) (hE : s.E.length ≤ 1000) : NewC Try.prog 49 [s.v n] (fun r H => ∃ β, r = .agg [.osl 0 n, .osl 1 s.E.length, .int .i64 s.W] ∧ H = s.h n β) := by
  refine newC_ent Try.E_ok Try.func49 rfl (by kernel_rfl) ?_
  (repeat' ((conv => whnf); (first | (with_reducible first | apply spl | apply spl') <;> intro hc <;> try (exfalso; omega) | with_reducible refine iJ fun hc => ?_ | refine vcq (k := ?_) | refine dr 508040603052006 (k := ?_)))); all_goals ((try conv => whnf); try with_reducible exact trivial)
  refine ⟨Nat × (Nat → Option Nat × Nat), fun q => q.1 ≤ s.E.length, fun q => s.E.length - q.1, fun q => [(4, .int .i64 (q.1 : Nat)), (5, .any), (8, .any)], fun q => [(3, .cells 34 [.osl 4 n, .osl 5 q.1, .int .i64 s.W]), (4, .row 3 1 n s.medF false)], fun q => [.grid 31 3 1 q.1 (fun _ => n) (fun e b => [.int .i64 (s.ep e b)]) q.2 none true], (0, fun _ => (none, 0)), ⟨by dsimp only; omega, some [some 0, some 1, some 2, some 3, some 4, none], ?_⟩, ?_⟩
  · (repeat' ((conv => whnf); (first | (with_reducible first | apply spl | apply spl') <;> intro hc <;> try (exfalso; omega) | with_reducible refine iJ fun hc => ?_ | refine vcq (k := ?_) | refine dr 6 (k := ?_) | refine dr 508040603052006 (k := ?_) | refine dr 2008 (k := ?_)))); all_goals ((try conv => whnf); try with_reducible exact trivial)
  · rintro ⟨i, β⟩ hi
    dsimp only at hi
    (repeat' ((conv => whnf); (first | (with_reducible first | apply spl | apply spl') <;> intro hc <;> try (exfalso; omega) | with_reducible refine iJ fun hc => ?_ | refine vcq (k := ?_) | refine dr 2008 (k := ?_)))); all_goals ((try conv => whnf); try with_reducible exact trivial)
    · intro β1
      (repeat' ((conv => whnf); (first | (with_reducible first | apply spl | apply spl') <;> intro hc <;> try (exfalso; omega) | with_reducible refine iJ fun hc => ?_ | refine vcq (k := ?_) | refine dr 2008 (k := ?_)))); all_goals ((try conv => whnf); try with_reducible exact trivial)
      refine ⟨⟨rfl, rfl, rfl, rfl, by omega, by dsimp only; omega⟩, fun β2 => ?_⟩
      (repeat' ((conv => whnf); (first | (with_reducible first | apply spl | apply spl') <;> intro hc <;> try (exfalso; omega) | with_reducible refine iJ fun hc => ?_ | refine vcq (k := ?_) | refine dr 2008 (k := ?_)))); all_goals ((try conv => whnf); try with_reducible exact trivial)
      have hi1 : i < s.E.length := by dsimp only at hc; omega
      refine ⟨(i + 1, β2), ⟨by dsimp only; omega, by dsimp only; omega⟩, some [some 0, some 1, some 2, some 3, some 4, some 9], ?_⟩
      (repeat' ((conv => whnf); (first | (with_reducible first | apply spl | apply spl') <;> intro hc <;> try (exfalso; omega) | with_reducible refine iJ fun hc => ?_ | refine vcq (k := ?_) | refine dr 6 (k := ?_) | refine dr 508040603052006 (k := ?_) | refine dr 2008 (k := ?_)))); all_goals ((try conv => whnf); try with_reducible exact trivial)
      refine ⟨fun e he => ⟨?_, rfl, fun j _ => ?_⟩, ?_⟩
      · dsimp only
        split
        · rfl
        · omega
      · dsimp only
        split
        · rfl
        · rename_i hlt
          have he' : e < i + 1 := he
          obtain rfl : e = i := by omega
          unfold appF
          rw [if_neg (by omega)]
          rfl
      (repeat' ((conv => whnf); (first | (with_reducible first | apply spl | apply spl') <;> intro hc <;> try (exfalso; omega) | with_reducible refine iJ fun hc => ?_ | refine vcq (k := ?_) | refine dr 6 (k := ?_) | refine dr 508040603052006 (k := ?_) | refine dr 2008 (k := ?_)))); all_goals ((try conv => whnf); try with_reducible exact trivial)
    · have hi : i = s.E.length := by dsimp only at hc; omega
      subst hi
      refine ⟨_, _, ⟨β, rfl, rfl⟩, some [some 4, some 5], ?_⟩
      (repeat' ((conv => whnf); (first | (with_reducible first | apply spl | apply spl') <;> intro hc <;> try (exfalso; omega) | with_reducible refine iJ fun hc => ?_ | refine vcq (k := ?_) | refine dr 6 (k := ?_) | refine dr 508040603052006 (k := ?_) | refine dr 2008 (k := ?_)))); all_goals ((try conv => whnf); try with_reducible exact trivial)
      exact ⟨fun _ _ => ⟨rfl, rfl, fun _ _ => rfl⟩, trivial⟩
namespace RS
def wr (s : RS) (e b : Nat) : RS := if s.ep e b = -1 then s else ⟨fun b' => if b' = b then s.ep e b else s.M b', s.E.set e (fun b' => if b' = b then -1 else s.ep e b'), s.W + 1⟩
theorem wr_pos {s : RS} {e b : Nat} (h : s.ep e b ≠ -1) : s.wr e b = ⟨fun b' => if b' = b then s.ep e b else s.M b', s.E.set e (fun b' => if b' = b then -1 else s.ep e b'), s.W + 1⟩ := if_neg h
theorem wr_neg {s : RS} {e b : Nat} (h : s.ep e b = -1) : s.wr e b = s := if_pos h
theorem ep_set {E : List (Nat → Int)} {e e' : Nat} {f : Nat → Int} (he : e < E.length) : (E.set e f).getD e' (fun _ => -1) = if e' = e then f else E.getD e' (fun _ => -1) := by
  simp only [List.getD_eq_getElem?_getD, List.getElem?_set]
  by_cases h : e = e'
  · subst h; simp [he]
  · rw [if_neg h, if_neg (fun g => h g.symm)]
theorem ep_wr {s : RS} {e b : Nat} (he : e < s.E.length) (e' j : Nat) : (⟨fun b' => if b' = b then s.ep e b else s.M b', s.E.set e (fun b' => if b' = b then -1 else s.ep e b'), s.W + 1⟩ : RS).ep e' j = if e' = e ∧ j = b then -1 else s.ep e' j := by
  show ((s.E.set e _).getD e' (fun _ => -1)) j = _
  rw [ep_set he]
  by_cases h : e' = e
  · subst h
    rw [if_pos rfl]
    by_cases h2 : j = b
    · simp [h2]
    · simp [h2]
  · rw [if_neg h, if_neg (fun g => h g.1)]; rfl
end RS
theorem write48 (n : Nat) (hn : 1 ≤ n ∧ n ≤ 1000) (s : RS) (hE : s.E.length ≤ 1000) (hW : 0 ≤ s.W ∧ s.W ≤ 1000000) (e b : Nat) (he : e < s.E.length) (hb : b < n) : PureC Try.prog 48 true [s.v n, .int .i64 e, .int .i64 b] (· = (s.wr e b).v n) := by
  refine pureC_of_exec Try.E_ok Try.func48 rfl (by kernel_rfl) ?_
  (repeat' ((conv => whnf); (first | (with_reducible first | apply spl | apply spl') <;> intro hc <;> try (exfalso; omega) | with_reducible refine iJ fun hc => ?_ | refine vcq (k := ?_) | refine dr 6 (k := ?_) | refine dr 508040603052006 (k := ?_) | refine dr 2008 (k := ?_)))); all_goals ((try conv => whnf); try with_reducible exact trivial)
  refine callee_new (copied49 n hn s hE) rfl ?_
  rintro _ _ ⟨β, rfl, rfl⟩
  (repeat' ((conv => whnf); (first | (with_reducible first | apply spl | apply spl') <;> intro hc <;> try (exfalso; omega) | with_reducible refine iJ fun hc => ?_ | refine vcq (k := ?_) | refine dr 6 (k := ?_) | refine dr 508040603052006 (k := ?_) | refine dr 2008 (k := ?_)))); all_goals ((try conv => whnf); try with_reducible exact trivial)
  (repeat' ((first | (refine And.intro ⟨by omega, rfl⟩ ?_) | (refine And.intro ⟨by omega, rfl, rfl, by dsimp only; omega⟩ ?_)); (repeat' ((conv => whnf); (first | (with_reducible first | apply spl | apply spl') <;> intro hc <;> try (exfalso; omega) | with_reducible refine iJ fun hc => ?_ | refine vcq (k := ?_) | refine dr 6 (k := ?_) | refine dr 508040603052006 (k := ?_) | refine dr 2008 (k := ?_)))); all_goals ((try conv => whnf); try with_reducible exact trivial)))
  · rw [Int.toNat_natCast, Int.toNat_natCast] at hc
    refine ⟨_, rfl, ?_⟩
    rw [RS.wr_pos hc]
    have hep := RS.ep_wr (s := s) (e := e) (b := b) he
    unfold RS.v RS.c
    (repeat' ((conv => whnf); (first | (with_reducible first | apply spl | apply spl') <;> intro hc <;> try (exfalso; omega) | with_reducible refine iJ fun hc => ?_ | refine vcq (k := ?_) | refine dr 6 (k := ?_) | refine dr 508040603052006 (k := ?_) | refine dr 2008 (k := ?_)))); all_goals ((try conv => whnf); try with_reducible exact trivial)
    refine ⟨fun i _ => ?_, .inl rfl, ?_⟩
    · show spliceP (i = b) [V.int .i64 (s.M i)] 0 [V.int .i64 (s.ep e b)] = [V.int .i64 (if i = b then s.ep e b else s.M i)]
      by_cases h : i = b
      · rw [spliceP_pos h, if_pos h]; rfl
      · rw [spliceP_neg h, if_neg h]
    (repeat' ((conv => whnf); (first | (with_reducible first | apply spl | apply spl') <;> intro hc <;> try (exfalso; omega) | with_reducible refine iJ fun hc => ?_ | refine vcq (k := ?_) | refine dr 6 (k := ?_) | refine dr 508040603052006 (k := ?_) | refine dr 2008 (k := ?_)))); all_goals ((try conv => whnf); try with_reducible exact trivial)
    refine ⟨by simp, rfl, fun e' he' => ⟨_, rfl, fun j _ => ?_⟩, .inl rfl, ?_⟩
    · show spliceP (e' = e ∧ j = b) [V.int .i64 (s.ep e' j)] 0 [V.int .i64 (-1)] = [V.int .i64 (RS.ep _ e' j)]
      rw [hep]
      by_cases h : e' = e ∧ j = b
      · rw [spliceP_pos h, if_pos h]; rfl
      · rw [spliceP_neg h, if_neg h]
    (repeat' ((conv => whnf); (first | (with_reducible first | apply spl | apply spl') <;> intro hc <;> try (exfalso; omega) | with_reducible refine iJ fun hc => ?_ | refine vcq (k := ?_) | refine dr 6 (k := ?_) | refine dr 508040603052006 (k := ?_) | refine dr 2008 (k := ?_)))); all_goals ((try conv => whnf); try with_reducible exact trivial)
  · rw [Int.toNat_natCast, Int.toNat_natCast] at hc
    refine ⟨_, rfl, ?_⟩
    rw [RS.wr_neg (Classical.not_not.1 hc)]
    (repeat' ((conv => whnf); (first | (with_reducible first | apply spl | apply spl') <;> intro hc <;> try (exfalso; omega) | with_reducible refine iJ fun hc => ?_ | refine vcq (k := ?_) | refine dr 6 (k := ?_) | refine dr 508040603052006 (k := ?_) | refine dr 2008 (k := ?_)))); all_goals ((try conv => whnf); try with_reducible exact trivial)
    refine ⟨fun e' _ => ⟨_, rfl, fun j _ => rfl⟩, .inl rfl, ?_⟩
    (repeat' ((conv => whnf); (first | (with_reducible first | apply spl | apply spl') <;> intro hc <;> try (exfalso; omega) | with_reducible refine iJ fun hc => ?_ | refine vcq (k := ?_) | refine dr 6 (k := ?_) | refine dr 508040603052006 (k := ?_) | refine dr 2008 (k := ?_)))); all_goals ((try conv => whnf); try with_reducible exact trivial)
end Go.Proofs


namespace Go.Sx
open Go
variable {P : Program}
theorem callee_frz {g : FuncId} {keep : Bool} {args args' : List V} {R0 : V → Prop} {H : List O} {K : V → List O → Prop} {ps : List Prop} {ids : List Nat} (h : PureC P g keep args' R0)
    (hf : frzL (frzV 8 H) args = some (ps, ids, args')) (hp : ∀ p ∈ ps, p) (hk : ∀ ret, R0 ret → K ret (goneAt ids H)) : Callee P g args H K := by
  unfold Callee
  refine ⟨h.1, fun I η w vals hS hd => ?_⟩
  obtain ⟨s1, m1, st1⟩ := hS.freeze ids
  have hd' : DenL (frzI I η H ids) [] w args' vals :=
    frzL_sound (C := fun id => ∀ e o b, η[id]? = some e → H[id]? = some o → o.has e b → frzI I η H ids b) (fun v v' ps ids x => frzV_sound hS.obj (fun b hb => .inl hb) 8 v v' ps ids x) args args' ps ids vals hf hp
      (fun id hid e o b he ho hb => .inr ⟨id, hid, e, o, he, ho, hb⟩) hd
  refine (h.2 _ w vals s1.ilt hd').mono ?_
  rintro e w' ⟨ret, v, rfl, hr, hden, hpr⟩
  obtain ⟨s2, m2, st2⟩ := s1.pres hpr
  refine ⟨grow (frzI I η H ids) w w', η, goneAt ids H, ret, v, rfl, hk ret hr, s2, ?_, m1.trans m2, st1.trans st2⟩
  refine Den.mono ⟨fun _ _ he _ => by simp at he, fun b hb => ?_, fun _ _ => rfl⟩ _ _ hden
  rcases hb with hb | hb
  · exact .inl hb.2
  · exact .inr hb
end Go.Sx


namespace Go.Proofs
open Go Go.Sx
set_option maxRecDepth 100000
set_option maxHeartbeats 40000000
namespace RS
def wrB (s : RS) (e : Nat) : Nat → RS
  | 0 => s
  | b + 1 => (s.wrB e b).wr e b
def wrE (n : Nat) (s : RS) : Nat → RS
  | 0 => s
  | e + 1 => (s.wrE n e).wrB e n
theorem wr_len (s : RS) (e b : Nat) : (s.wr e b).E.length = s.E.length := by unfold wr; split <;> simp
theorem wr_W (s : RS) (e b : Nat) : s.W ≤ (s.wr e b).W ∧ (s.wr e b).W ≤ s.W + 1 := by
  unfold wr
  split
  · omega
  · exact ⟨by show s.W ≤ s.W + 1; omega, Int.le_refl _⟩
theorem wrB_len (s : RS) (e : Nat) : ∀ b, (s.wrB e b).E.length = s.E.length
  | 0 => rfl
  | b + 1 => by simp only [wrB]; rw [wr_len, wrB_len s e b]
theorem wrB_W (s : RS) (e : Nat) : ∀ b : Nat, s.W ≤ (s.wrB e b).W ∧ (s.wrB e b).W ≤ s.W + b
  | 0 => by simp [wrB]
  | b + 1 => by have := wrB_W s e b; have := wr_W (s.wrB e b) e b; simp only [wrB]; omega
theorem wrE_len (n : Nat) (s : RS) : ∀ e, (s.wrE n e).E.length = s.E.length
  | 0 => rfl
  | e + 1 => by simp only [wrE]; rw [wrB_len, wrE_len n s e]
theorem wrE_W (n : Nat) (s : RS) : ∀ e : Nat, s.W ≤ (s.wrE n e).W ∧ (s.wrE n e).W ≤ s.W + e * n
  | 0 => by simp [wrE]
  | e + 1 => by
    have := wrE_W n s e; have := wrB_W (s.wrE n e) e n
    simp only [wrE]
    have : ((e + 1 : Nat) : Int) * n = e * n + n := by rw [Int.natCast_add, Int.add_mul]; simp
    omega
end RS
theorem writeAll50 (n : Nat) (hn : 1 ≤ n ∧ n ≤ 1000) (s : RS) (hE : s.E.length ≤ 100) (hW : 0 ≤ s.W ∧ s.W ≤ 10000) (e : Nat) (he : e ≤ s.E.length) : PureC Try.prog 50 true [s.v n, .int .i64 e] (· = (s.wrE n e).v n) := by
  refine pureC_of_exec Try.E_ok Try.func50 rfl (by kernel_rfl) ?_
  (repeat' ((conv => whnf); (first | (with_reducible first | apply spl | apply spl') <;> intro hc <;> try (exfalso; omega) | with_reducible refine iJ fun hc => ?_ | refine vcq (k := ?_) | refine dr 9 (k := ?_) | refine dr 406030502042005 (k := ?_)))); all_goals ((try conv => whnf); try with_reducible exact trivial)
  refine ⟨Nat, fun i => i ≤ e, fun i => e - i, fun i => [(5, .int .i64 (i : Nat))], fun i => [(0, .cells 34 ((s.wrE n i).c n))], fun _ => [], 0, ⟨by omega, some [some 0, some 1], ?_⟩, ?_⟩
  · (repeat' ((conv => whnf); (first | (with_reducible first | apply spl | apply spl') <;> intro hc <;> try (exfalso; omega) | with_reducible refine iJ fun hc => ?_ | refine vcq (k := ?_) | refine dr 9 (k := ?_) | refine dr 406030502042005 (k := ?_)))); all_goals ((try conv => whnf); try with_reducible exact trivial)
  · intro i hi
    have hi : i ≤ e := hi
    have hwl := RS.wrE_len n s i
    have hww := RS.wrE_W n s i
    have hin : (i : Int) * n ≤ 100 * 1000 := by
      have : i * n ≤ 100 * 1000 := Nat.mul_le_mul (by omega) hn.2
      exact_mod_cast this
    (repeat' ((conv => whnf); (first | (with_reducible first | apply spl | apply spl') <;> intro hc <;> try (exfalso; omega) | with_reducible refine iJ fun hc => ?_ | refine vcq (k := ?_) | refine dr 9 (k := ?_) | refine dr 406030502042005 (k := ?_)))); all_goals ((try conv => whnf); try with_reducible exact trivial)
    · have hi1 : i < e := by omega
      refine ⟨Nat, fun b => b ≤ n, fun b => n - b, fun b => [(6, .int .i64 (b : Nat))], fun b => [(0, .cells 34 (((s.wrE n i).wrB i b).c n))], fun _ => [], 0, ⟨by omega, some [some 0, some 1], ?_⟩, ?_⟩
      · (repeat' ((conv => whnf); (first | (with_reducible first | apply spl | apply spl') <;> intro hc <;> try (exfalso; omega) | with_reducible refine iJ fun hc => ?_ | refine vcq (k := ?_) | refine dr 9 (k := ?_) | refine dr 406030502042005 (k := ?_)))); all_goals ((try conv => whnf); try with_reducible exact trivial)
      · intro b hb
        have hb : b ≤ n := hb
        have hbl := RS.wrB_len (s.wrE n i) i b
        have hbw := RS.wrB_W (s.wrE n i) i b
        (repeat' ((conv => whnf); (first | (with_reducible first | apply spl | apply spl') <;> intro hc <;> try (exfalso; omega) | with_reducible refine iJ fun hc => ?_ | refine vcq (k := ?_) | refine dr 9 (k := ?_) | refine dr 406030502042005 (k := ?_)))); all_goals ((try conv => whnf); try with_reducible exact trivial)
        · refine callee_fo (write48 n hn ((s.wrE n i).wrB i b) (by omega) (by omega) i b (by omega) (by omega)) rfl ?_
          rintro _ rfl
          (repeat' ((conv => whnf); (first | (with_reducible first | apply spl | apply spl') <;> intro hc <;> try (exfalso; omega) | with_reducible refine iJ fun hc => ?_ | refine vcq (k := ?_) | refine dr 9 (k := ?_) | refine dr 406030502042005 (k := ?_)))); all_goals ((try conv => whnf); try with_reducible exact trivial)
          refine ⟨b + 1, ⟨by omega, by dsimp only; omega⟩, some [some 0, some 1], ?_⟩
          (repeat' ((conv => whnf); (first | (with_reducible first | apply spl | apply spl') <;> intro hc <;> try (exfalso; omega) | with_reducible refine iJ fun hc => ?_ | refine vcq (k := ?_) | refine dr 9 (k := ?_) | refine dr 406030502042005 (k := ?_)))); all_goals ((try conv => whnf); try with_reducible exact trivial)
        · obtain rfl : b = n := by omega
          refine ⟨i + 1, ⟨by omega, by dsimp only; omega⟩, some [some 0, some 1], ?_⟩
          (repeat' ((conv => whnf); (first | (with_reducible first | apply spl | apply spl') <;> intro hc <;> try (exfalso; omega) | with_reducible refine iJ fun hc => ?_ | refine vcq (k := ?_) | refine dr 9 (k := ?_) | refine dr 406030502042005 (k := ?_)))); all_goals ((try conv => whnf); try with_reducible exact trivial)
    · obtain rfl : i = e := by omega
      refine ⟨_, rfl, ?_⟩
      (repeat' ((conv => whnf); (first | (with_reducible first | apply spl | apply spl') <;> intro hc <;> try (exfalso; omega) | with_reducible refine iJ fun hc => ?_ | refine vcq (k := ?_) | refine dr 9 (k := ?_) | refine dr 406030502042005 (k := ?_)))); all_goals ((try conv => whnf); try with_reducible exact trivial)
namespace RS
def setE (s : RS) (e b : Nat) (v : Int) : RS := ⟨s.M, s.E.set e (fun b' => if b' = b then v else s.ep e b'), s.W⟩
def order (n : Nat) (s : RS) (k : Int) (o : Int × Int) : RS :=
  if o.1 = 1 then s.setE (s.E.length - 1) o.2.toNat k
  else if o.1 = 2 then ((s.setE (s.E.length - 1) o.2.toNat k).wrE n (s.E.length - 1)).wr (s.E.length - 1) o.2.toNat
  else if o.1 = 3 then ⟨s.M, s.E ++ [fun _ => -1], s.W⟩
  else if o.1 = 4 then s.wrE n s.E.length
  else s
theorem ep_setE {s : RS} {e b : Nat} {v : Int} (he : e < s.E.length) (e' j : Nat) : (s.setE e b v).ep e' j = if e' = e ∧ j = b then v else s.ep e' j := by
  show ((s.E.set e _).getD e' (fun _ => -1)) j = _
  rw [ep_set he]
  by_cases h : e' = e
  · subst h
    rw [if_pos rfl]
    by_cases h2 : j = b
    · simp [h2]
    · simp [h2]
  · rw [if_neg h, if_neg (fun g => h g.1)]; rfl
theorem ep_snoc {s : RS} {e j : Nat} : (⟨s.M, s.E ++ [fun _ => -1], s.W⟩ : RS).ep e j = if e < s.E.length then s.ep e j else -1 := by
  show ((s.E ++ [fun _ => -1]).getD e (fun _ => -1)) j = _
  split
  · rename_i h
    simp only [List.getD_eq_getElem?_getD, List.getElem?_append_left h]
    rfl
  · rename_i h
    simp only [List.getD_eq_getElem?_getD, List.getElem?_append_right (Nat.le_of_not_lt h)]
    cases e - s.E.length <;> simp
end RS
theorem do18 (n : Nat) (hn : 1 ≤ n ∧ n ≤ 1000) (s : RS) (hE : 0 < s.E.length ∧ s.E.length ≤ 100) (hW : 0 ≤ s.W ∧ s.W ≤ 10000) (k : Int) (o : Int × Int) (ho : o.1 = 1 ∨ o.1 = 2 → 0 ≤ o.2 ∧ o.2 < n) : PureC Try.prog 18 true [s.v n, oV o, .int .i64 k] (· = (s.order n k o).v n) := by
  have hn1 : ((s.E.length : Int) - 1).toNat = s.E.length - 1 := by omega
  refine pureC_of_exec Try.E_ok Try.func18 rfl (by kernel_rfl) ?_
  by_cases c1 : o.1 = 1
  · obtain ⟨b, hb, e⟩ : ∃ b : Nat, b < n ∧ o.2 = b := ⟨o.2.toNat, by have := ho (.inl c1); omega, by have := ho (.inl c1); omega⟩
    obtain ⟨o1, o2⟩ := o
    dsimp only at c1 e
    subst c1 e
    have ho' : s.order n k (1, (b : Int)) = s.setE (s.E.length - 1) b k := rfl
    rw [ho']
    have hep := RS.ep_setE (s := s) (e := s.E.length - 1) (b := b) (v := k) (by omega)
    (repeat' ((conv => whnf); (first | (with_reducible first | apply spl | apply spl') <;> intro hc <;> try (exfalso; omega) | with_reducible refine iJ fun hc => ?_ | refine vcq (k := ?_) | refine dr 9 (k := ?_) | refine dr 406030502042005 (k := ?_)))); all_goals ((try conv => whnf); try with_reducible exact trivial)
    refine callee_new (copied49 n hn s (by omega)) rfl ?_
    rintro _ _ ⟨β, rfl, rfl⟩
    (repeat' ((conv => whnf); (first | (with_reducible first | apply spl | apply spl') <;> intro hc <;> try (exfalso; omega) | with_reducible refine iJ fun hc => ?_ | refine vcq (k := ?_) | refine dr 9 (k := ?_)))); all_goals ((try conv => whnf); try with_reducible exact trivial)
    (repeat' ((first | (refine And.intro ⟨by omega, rfl⟩ ?_) | (refine And.intro ⟨by omega, rfl, rfl, by dsimp only; omega⟩ ?_)); (repeat' ((conv => whnf); (first | (with_reducible first | apply spl | apply spl') <;> intro hc <;> try (exfalso; omega) | with_reducible refine iJ fun hc => ?_ | refine vcq (k := ?_) | refine dr 9 (k := ?_)))); all_goals ((try conv => whnf); try with_reducible exact trivial)))
    refine ⟨_, rfl, ?_⟩
    (repeat' ((conv => whnf); (first | (with_reducible first | apply spl | apply spl') <;> intro hc <;> try (exfalso; omega) | with_reducible refine iJ fun hc => ?_ | refine vcq (k := ?_) | refine dr 9 (k := ?_) | refine dr 406030502042005 (k := ?_)))); all_goals ((try conv => whnf); try with_reducible exact trivial)
    refine ⟨by simp [RS.setE], rfl, fun e' he' => ⟨_, rfl, fun j _ => ?_⟩, .inl rfl, ?_⟩
    · show spliceP (e' = ((s.E.length : Int) - 1).toNat ∧ j = b) [V.int .i64 (s.ep e' j)] 0 [V.int .i64 k] = [V.int .i64 (RS.ep _ e' j)]
      rw [hep, hn1]
      by_cases h : e' = s.E.length - 1 ∧ j = b
      · rw [spliceP_pos h, if_pos h]; rfl
      · rw [spliceP_neg h, if_neg h]
    (repeat' ((conv => whnf); (first | (with_reducible first | apply spl | apply spl') <;> intro hc <;> try (exfalso; omega) | with_reducible refine iJ fun hc => ?_ | refine vcq (k := ?_) | refine dr 9 (k := ?_) | refine dr 406030502042005 (k := ?_)))); all_goals ((try conv => whnf); try with_reducible exact trivial)
  by_cases c2 : o.1 = 2
  · obtain ⟨b, hb, e⟩ : ∃ b : Nat, b < n ∧ o.2 = b := ⟨o.2.toNat, by have := ho (.inr c2); omega, by have := ho (.inr c2); omega⟩
    obtain ⟨o1, o2⟩ := o
    dsimp only at c1 c2 e
    subst c2 e
    have ho' : s.order n k (2, (b : Int)) = ((s.setE (s.E.length - 1) b k).wrE n (s.E.length - 1)).wr (s.E.length - 1) b := rfl
    rw [ho']
    have hep := RS.ep_setE (s := s) (e := s.E.length - 1) (b := b) (v := k) (by omega)
    have hl2 : (s.setE (s.E.length - 1) b k).E.length = s.E.length := by simp [RS.setE]
    have hwa := writeAll50 n hn (s.setE (s.E.length - 1) b k) (by omega) hW (s.E.length - 1) (by omega)
    have hwl := RS.wrE_len n (s.setE (s.E.length - 1) b k) (s.E.length - 1)
    have hww := RS.wrE_W n (s.setE (s.E.length - 1) b k) (s.E.length - 1)
    have hin : ((s.E.length - 1 : Nat) : Int) * n ≤ 100 * 1000 := by
      have : (s.E.length - 1) * n ≤ 100 * 1000 := Nat.mul_le_mul (by omega) hn.2
      exact_mod_cast this
    have hW2 : (s.setE (s.E.length - 1) b k).W = s.W := rfl
    have hw := write48 n hn ((s.setE (s.E.length - 1) b k).wrE n (s.E.length - 1)) (by omega) (by omega) (s.E.length - 1) b (by omega) hb
    have hc1 : ((s.E.length : Int) - 1) = ((s.E.length - 1 : Nat) : Int) := by omega
    rw [← hc1] at hwa hw
    (repeat' ((conv => whnf); (first | (with_reducible first | apply spl | apply spl') <;> intro hc <;> try (exfalso; omega) | with_reducible refine iJ fun hc => ?_ | refine vcq (k := ?_) | refine dr 9 (k := ?_) | refine dr 406030502042005 (k := ?_)))); all_goals ((try conv => whnf); try with_reducible exact trivial)
    refine callee_new (copied49 n hn s (by omega)) rfl ?_
    rintro _ _ ⟨β, rfl, rfl⟩
    (repeat' ((conv => whnf); (first | (with_reducible first | apply spl | apply spl') <;> intro hc <;> try (exfalso; omega) | with_reducible refine iJ fun hc => ?_ | refine vcq (k := ?_) | refine dr 9 (k := ?_) | refine dr 406030502042005 (k := ?_)))); all_goals ((try conv => whnf); try with_reducible exact trivial)
    (repeat' ((first | (refine And.intro ⟨by omega, rfl⟩ ?_) | (refine And.intro ⟨by omega, rfl, rfl, by dsimp only; omega⟩ ?_)); (repeat' ((conv => whnf); (first | (with_reducible first | apply spl | apply spl') <;> intro hc <;> try (exfalso; omega) | with_reducible refine iJ fun hc => ?_ | refine vcq (k := ?_) | refine dr 9 (k := ?_) | refine dr 406030502042005 (k := ?_)))); all_goals ((try conv => whnf); try with_reducible exact trivial)))
    · refine callee_frz (PureC.view hwa ?_) rfl ?_ ?_
      · (repeat' ((conv => whnf); (first | (with_reducible first | apply spl | apply spl') <;> intro hc <;> try (exfalso; omega) | with_reducible refine iJ fun hc => ?_ | refine vcq (k := ?_) | refine dr 9 (k := ?_) | refine dr 406030502042005 (k := ?_)))); all_goals ((try conv => whnf); try with_reducible exact trivial)
        refine ⟨fun e' he' => ?_, ?_⟩
        · show [V.sl 1 n fun j => spliceP (e' = ((s.E.length : Int) - 1).toNat ∧ j = b) [V.int .i64 (s.ep e' j)] 0 [V.int .i64 k]] = [V.sl 1 n fun j => [V.int .i64 (RS.ep _ e' j)]]
          congr 2
          funext j
          rw [hep, hn1]
          by_cases h : e' = s.E.length - 1 ∧ j = b
          · rw [spliceP_pos h, if_pos h]; rfl
          · rw [spliceP_neg h, if_neg h]
        (repeat' ((conv => whnf); (first | (with_reducible first | apply spl | apply spl') <;> intro hc <;> try (exfalso; omega) | with_reducible refine iJ fun hc => ?_ | refine vcq (k := ?_) | refine dr 9 (k := ?_) | refine dr 406030502042005 (k := ?_)))); all_goals ((try conv => whnf); try with_reducible exact trivial)
      · simp [app]
      · rintro _ rfl
        (repeat' ((conv => whnf); (first | (with_reducible first | apply spl | apply spl') <;> intro hc <;> try (exfalso; omega) | with_reducible refine iJ fun hc => ?_ | refine vcq (k := ?_) | refine dr 9 (k := ?_) | refine dr 406030502042005 (k := ?_)))); all_goals ((try conv => whnf); try with_reducible exact trivial)
        refine callee_fo hw rfl ?_
        rintro _ rfl
        (repeat' ((conv => whnf); (first | (with_reducible first | apply spl | apply spl') <;> intro hc <;> try (exfalso; omega) | with_reducible refine iJ fun hc => ?_ | refine vcq (k := ?_) | refine dr 9 (k := ?_) | refine dr 406030502042005 (k := ?_)))); all_goals ((try conv => whnf); try with_reducible exact trivial)
        refine ⟨_, rfl, ?_⟩
        (repeat' ((conv => whnf); (first | (with_reducible first | apply spl | apply spl') <;> intro hc <;> try (exfalso; omega) | with_reducible refine iJ fun hc => ?_ | refine vcq (k := ?_) | refine dr 9 (k := ?_) | refine dr 406030502042005 (k := ?_)))); all_goals ((try conv => whnf); try with_reducible exact trivial)
  by_cases c3 : o.1 = 3
  · have ho' : s.order n k o = ⟨s.M, s.E ++ [fun _ => -1], s.W⟩ := by unfold RS.order; rw [if_neg c1, if_neg c2, if_pos c3]
    rw [ho']
    have hep := fun e j => RS.ep_snoc (s := s) (e := e) (j := j)
    (repeat' ((conv => whnf); (first | (with_reducible first | apply spl | apply spl') <;> intro hc <;> try (exfalso; omega) | with_reducible refine iJ fun hc => ?_ | refine vcq (k := ?_) | refine dr 9 (k := ?_) | refine dr 406030502042005 (k := ?_)))); all_goals ((try conv => whnf); try with_reducible exact trivial)
    refine callee_new (copied49 n hn s (by omega)) rfl ?_
    rintro _ _ ⟨β, rfl, rfl⟩
    (repeat' ((conv => whnf); (first | (with_reducible first | apply spl | apply spl') <;> intro hc <;> try (exfalso; omega) | with_reducible refine iJ fun hc => ?_ | refine vcq (k := ?_) | refine dr 9 (k := ?_) | refine dr 406030502042005 (k := ?_)))); all_goals ((try conv => whnf); try with_reducible exact trivial)
    refine ⟨Nat, fun i => i ≤ n, fun i => n - i, fun i => [(9, .int .i64 (i : Nat)), (8, .osl 5 i)], fun _ => [], fun i => [.row 3 1 i (fun _ => [.int .i64 (-1)]) true], 0, ⟨by omega, some [some 0, some 1, some 2, some 3, some 4, none], ?_⟩, ?_⟩
    · (repeat' ((conv => whnf); (first | (with_reducible first | apply spl | apply spl') <;> intro hc <;> try (exfalso; omega) | with_reducible refine iJ fun hc => ?_ | refine vcq (k := ?_) | refine dr 9 (k := ?_) | refine dr 406030502042005 (k := ?_)))); all_goals ((try conv => whnf); try with_reducible exact trivial)
      refine ⟨fun _ _ => ⟨rfl, rfl, fun _ _ => rfl⟩, ?_⟩
      (repeat' ((conv => whnf); (first | (with_reducible first | apply spl | apply spl') <;> intro hc <;> try (exfalso; omega) | with_reducible refine iJ fun hc => ?_ | refine vcq (k := ?_) | refine dr 9 (k := ?_) | refine dr 406030502042005 (k := ?_)))); all_goals ((try conv => whnf); try with_reducible exact trivial)
    · intro i hi
      have hi : i ≤ n := hi
      (repeat' ((conv => whnf); (first | (with_reducible first | apply spl | apply spl') <;> intro hc <;> try (exfalso; omega) | with_reducible refine iJ fun hc => ?_ | refine vcq (k := ?_) | refine dr 9 (k := ?_) | refine dr 406030502042005 (k := ?_)))); all_goals ((try conv => whnf); try with_reducible exact trivial)
      · refine ⟨i + 1, ⟨by omega, by dsimp only; omega⟩, some [some 0, some 1, some 2, some 3, some 4, some 7], ?_⟩
        (repeat' ((conv => whnf); (first | (with_reducible first | apply spl | apply spl') <;> intro hc <;> try (exfalso; omega) | with_reducible refine iJ fun hc => ?_ | refine vcq (k := ?_) | refine dr 9 (k := ?_) | refine dr 406030502042005 (k := ?_)))); all_goals ((try conv => whnf); try with_reducible exact trivial)
        refine ⟨fun _ _ => ⟨rfl, rfl, fun _ _ => rfl⟩, ?_⟩
        (repeat' ((conv => whnf); (first | (with_reducible first | apply spl | apply spl') <;> intro hc <;> try (exfalso; omega) | with_reducible refine iJ fun hc => ?_ | refine vcq (k := ?_) | refine dr 9 (k := ?_) | refine dr 406030502042005 (k := ?_)))); all_goals ((try conv => whnf); try with_reducible exact trivial)
        refine ⟨appF_one rfl, ?_⟩
        (repeat' ((conv => whnf); (first | (with_reducible first | apply spl | apply spl') <;> intro hc <;> try (exfalso; omega) | with_reducible refine iJ fun hc => ?_ | refine vcq (k := ?_) | refine dr 9 (k := ?_) | refine dr 406030502042005 (k := ?_)))); all_goals ((try conv => whnf); try with_reducible exact trivial)
      · have hin : i = n := by omega
        subst hin
        intro β1
        (repeat' ((conv => whnf); (first | (with_reducible first | apply spl | apply spl') <;> intro hc <;> try (exfalso; omega) | with_reducible refine iJ fun hc => ?_ | refine vcq (k := ?_) | refine dr 9 (k := ?_) | refine dr 406030502042005 (k := ?_)))); all_goals ((try conv => whnf); try with_reducible exact trivial)
        refine ⟨⟨rfl, rfl, rfl, rfl, by omega, by omega⟩, fun β2 => ?_⟩
        (repeat' ((conv => whnf); (first | (with_reducible first | apply spl | apply spl') <;> intro hc <;> try (exfalso; omega) | with_reducible refine iJ fun hc => ?_ | refine vcq (k := ?_) | refine dr 9 (k := ?_) | refine dr 406030502042005 (k := ?_)))); all_goals ((try conv => whnf); try with_reducible exact trivial)
        refine ⟨_, rfl, ?_⟩
        (repeat' ((conv => whnf); (first | (with_reducible first | apply spl | apply spl') <;> intro hc <;> try (exfalso; omega) | with_reducible refine iJ fun hc => ?_ | refine vcq (k := ?_) | refine dr 9 (k := ?_) | refine dr 406030502042005 (k := ?_)))); all_goals ((try conv => whnf); try with_reducible exact trivial)
        refine ⟨by simp, rfl, fun e' _ => ⟨fun j => [.int .i64 ((⟨s.M, s.E ++ [fun _ => -1], s.W⟩ : RS).ep e' j)], ?_, fun j _ => ?_⟩, .inl rfl, ?_⟩
        · show [V.sl 1 i _] = [V.sl 1 (if e' < s.E.length then i else i) _]
          rw [ite_self]
        · dsimp only
          rw [hep]
          by_cases h : e' < s.E.length
          · rw [if_pos h, if_pos h]
          · rw [if_neg h, if_neg h]
        (repeat' ((conv => whnf); (first | (with_reducible first | apply spl | apply spl') <;> intro hc <;> try (exfalso; omega) | with_reducible refine iJ fun hc => ?_ | refine vcq (k := ?_) | refine dr 9 (k := ?_) | refine dr 406030502042005 (k := ?_)))); all_goals ((try conv => whnf); try with_reducible exact trivial)
  by_cases c4 : o.1 = 4
  · have ho' : s.order n k o = s.wrE n s.E.length := by unfold RS.order; rw [if_neg c1, if_neg c2, if_neg c3, if_pos c4]
    rw [ho']
    have hwa := writeAll50 n hn s (by omega) hW s.E.length (by omega)
    have hc1 : ((s.E.length : Int) - 1) + 1 = (s.E.length : Int) := by omega
    rw [← hc1] at hwa
    (repeat' ((conv => whnf); (first | (with_reducible first | apply spl | apply spl') <;> intro hc <;> try (exfalso; omega) | with_reducible refine iJ fun hc => ?_ | refine vcq (k := ?_) | refine dr 9 (k := ?_) | refine dr 406030502042005 (k := ?_)))); all_goals ((try conv => whnf); try with_reducible exact trivial)
    refine callee_new (copied49 n hn s (by omega)) rfl ?_
    rintro _ _ ⟨β, rfl, rfl⟩
    (repeat' ((conv => whnf); (first | (with_reducible first | apply spl | apply spl') <;> intro hc <;> try (exfalso; omega) | with_reducible refine iJ fun hc => ?_ | refine vcq (k := ?_) | refine dr 9 (k := ?_) | refine dr 406030502042005 (k := ?_)))); all_goals ((try conv => whnf); try with_reducible exact trivial)
    refine callee_frz (PureC.view hwa ?_) rfl ?_ ?_
    · (repeat' ((conv => whnf); (first | (with_reducible first | apply spl | apply spl') <;> intro hc <;> try (exfalso; omega) | with_reducible refine iJ fun hc => ?_ | refine vcq (k := ?_) | refine dr 9 (k := ?_) | refine dr 406030502042005 (k := ?_)))); all_goals ((try conv => whnf); try with_reducible exact trivial)
    · simp [app]
    · rintro _ rfl
      (repeat' ((conv => whnf); (first | (with_reducible first | apply spl | apply spl') <;> intro hc <;> try (exfalso; omega) | with_reducible refine iJ fun hc => ?_ | refine vcq (k := ?_) | refine dr 9 (k := ?_) | refine dr 406030502042005 (k := ?_)))); all_goals ((try conv => whnf); try with_reducible exact trivial)
      refine ⟨_, rfl, ?_⟩
      (repeat' ((conv => whnf); (first | (with_reducible first | apply spl | apply spl') <;> intro hc <;> try (exfalso; omega) | with_reducible refine iJ fun hc => ?_ | refine vcq (k := ?_) | refine dr 9 (k := ?_) | refine dr 406030502042005 (k := ?_)))); all_goals ((try conv => whnf); try with_reducible exact trivial)
  · have ho' : s.order n k o = s := by unfold RS.order; rw [if_neg c1, if_neg c2, if_neg c3, if_neg c4]
    rw [ho']
    (repeat' ((conv => whnf); (first | (with_reducible first | apply spl | apply spl') <;> intro hc <;> try (exfalso; omega) | with_reducible refine iJ fun hc => ?_ | refine vcq (k := ?_) | refine dr 9 (k := ?_) | refine dr 406030502042005 (k := ?_)))); all_goals ((try conv => whnf); try with_reducible exact trivial)
    refine callee_new (copied49 n hn s (by omega)) rfl ?_
    rintro _ _ ⟨β, rfl, rfl⟩
    (repeat' ((conv => whnf); (first | (with_reducible first | apply spl | apply spl') <;> intro hc <;> try (exfalso; omega) | with_reducible refine iJ fun hc => ?_ | refine vcq (k := ?_) | refine dr 9 (k := ?_) | refine dr 406030502042005 (k := ?_)))); all_goals ((try conv => whnf); try with_reducible exact trivial)
    refine ⟨_, rfl, ?_⟩
    (repeat' ((conv => whnf); (first | (with_reducible first | apply spl | apply spl') <;> intro hc <;> try (exfalso; omega) | with_reducible refine iJ fun hc => ?_ | refine vcq (k := ?_) | refine dr 9 (k := ?_) | refine dr 406030502042005 (k := ?_)))); all_goals ((try conv => whnf); try with_reducible exact trivial)
    refine ⟨fun e' _ => ⟨_, rfl, fun j _ => rfl⟩, .inl rfl, ?_⟩
    (repeat' ((conv => whnf); (first | (with_reducible first | apply spl | apply spl') <;> intro hc <;> try (exfalso; omega) | with_reducible refine iJ fun hc => ?_ | refine vcq (k := ?_) | refine dr 9 (k := ?_) | refine dr 406030502042005 (k := ?_)))); all_goals ((try conv => whnf); try with_reducible exact trivial)
end Go.Proofs


namespace Go.Proofs
open Go Go.Sx
set_option maxRecDepth 100000
set_option maxHeartbeats 40000000
def noRow (n : Nat) (f : Nat → Int) : Prop := ∀ b, b < n → f b = -1
def RS.IsFirst (n : Nat) (s : RS) (e : Nat) : Prop := e < s.E.length ∧ ¬ noRow n (s.ep e) ∧ ∀ i, i < e → noRow n (s.ep i)
theorem first46 (n : Nat) (hn : 1 ≤ n ∧ n ≤ 1000) (s : RS) (hE : s.E.length ≤ 100) : PureC Try.prog 46 false [s.v n] (fun r => (∃ e : Nat, s.IsFirst n e ∧ r = .tup [.int .i64 e, .kb true]) ∨ ((∀ i, i < s.E.length → noRow n (s.ep i)) ∧ r = .tup [.int .i64 0, .kb false])) := by
  refine pureC_of_exec Try.E_ok Try.func46 rfl (by kernel_rfl) ?_
  (repeat' ((conv => whnf); (first | (with_reducible first | apply spl | apply spl') <;> intro hc <;> try (exfalso; omega) | with_reducible refine iJ fun hc => ?_ | refine vcq (k := ?_) | fail))); all_goals ((try conv => whnf); try with_reducible exact trivial)
  refine ⟨Nat, fun i => i ≤ s.E.length ∧ ∀ j, j < i → noRow n (s.ep j), fun i => s.E.length - i, fun i => [(4, .int .i64 (i : Nat)), (2, .any), (3, .any)], fun _ => [], fun _ => [], 0, ⟨⟨by omega, fun j hj => by omega⟩, some [some 0], ?_⟩, ?_⟩
  · (repeat' ((conv => whnf); (first | (with_reducible first | apply spl | apply spl') <;> intro hc <;> try (exfalso; omega) | with_reducible refine iJ fun hc => ?_ | refine vcq (k := ?_) | fail))); all_goals ((try conv => whnf); try with_reducible exact trivial)
  · rintro i ⟨h1, h2⟩
    have hti : (i : Int).toNat = i := Int.toNat_natCast i
    (repeat' ((conv => whnf); (first | (with_reducible first | apply spl | apply spl') <;> intro hc <;> try (exfalso; omega) | with_reducible refine iJ fun hc => ?_ | refine vcq (k := ?_) | fail))); all_goals ((try conv => whnf); try with_reducible exact trivial)
    · have hi : i < s.E.length := by omega
      refine ⟨Nat, fun b => b ≤ n ∧ ∀ j, j < b → s.ep i j = -1, fun b => n - b, fun b => [(5, .int .i64 (b : Nat)), (2, .any), (3, .any)], fun _ => [], fun _ => [], 0, ⟨⟨by omega, fun j hj => by omega⟩, some [some 0], ?_⟩, ?_⟩
      · (repeat' ((conv => whnf); (first | (with_reducible first | apply spl | apply spl') <;> intro hc <;> try (exfalso; omega) | with_reducible refine iJ fun hc => ?_ | refine vcq (k := ?_) | fail))); all_goals ((try conv => whnf); try with_reducible exact trivial)
      · rintro b ⟨h3, h4⟩
        have htb : (b : Int).toNat = b := Int.toNat_natCast b
        (repeat' ((conv => whnf); (first | (with_reducible first | apply spl | apply spl') <;> intro hc <;> try (exfalso; omega) | with_reducible refine iJ fun hc => ?_ | refine vcq (k := ?_) | fail))); all_goals ((try conv => whnf); try with_reducible exact trivial)
        · rw [hti, htb] at hc
          refine ⟨_, .inl ⟨i, ⟨hi, fun h => hc (h b (by omega)), h2⟩, rfl⟩, ?_⟩
          (repeat' ((conv => whnf); (first | (with_reducible first | apply spl | apply spl') <;> intro hc <;> try (exfalso; omega) | with_reducible refine iJ fun hc => ?_ | refine vcq (k := ?_) | fail))); all_goals ((try conv => whnf); try with_reducible exact trivial)
        · rw [hti, htb] at hc
          refine ⟨b + 1, ⟨⟨by omega, fun j hj => ?_⟩, by dsimp only; omega⟩, some [some 0], ?_⟩
          · rcases Nat.lt_or_eq_of_le (show j ≤ b by omega) with g | rfl
            · exact h4 j g
            · exact Classical.not_not.1 hc
          · (repeat' ((conv => whnf); (first | (with_reducible first | apply spl | apply spl') <;> intro hc <;> try (exfalso; omega) | with_reducible refine iJ fun hc => ?_ | refine vcq (k := ?_) | fail))); all_goals ((try conv => whnf); try with_reducible exact trivial)
        · refine ⟨i + 1, ⟨⟨by omega, fun j hj => ?_⟩, by dsimp only; omega⟩, some [some 0], ?_⟩
          · rcases Nat.lt_or_eq_of_le (show j ≤ i by omega) with g | rfl
            · exact h2 j g
            · exact fun b' hb' => h4 b' (by omega)
          · (repeat' ((conv => whnf); (first | (with_reducible first | apply spl | apply spl') <;> intro hc <;> try (exfalso; omega) | with_reducible refine iJ fun hc => ?_ | refine vcq (k := ?_) | fail))); all_goals ((try conv => whnf); try with_reducible exact trivial)
    · refine ⟨_, .inr ⟨fun j hj => h2 j (by omega), rfl⟩, ?_⟩
      (repeat' ((conv => whnf); (first | (with_reducible first | apply spl | apply spl') <;> intro hc <;> try (exfalso; omega) | with_reducible refine iJ fun hc => ?_ | refine vcq (k := ?_) | fail))); all_goals ((try conv => whnf); try with_reducible exact trivial)
def cntF (f : Nat → Int) : Nat → Int
  | 0 => 0
  | b + 1 => cntF f b + if f b = -1 then 0 else 1
def cntFE (n : Nat) (s : RS) : Nat → Int
  | 0 => 0
  | e + 1 => cntFE n s e + cntF (s.ep e) n
def RS.entries (n : Nat) (s : RS) : Int := cntFE n s s.E.length
end Go.Proofs


namespace Go.Proofs
open Go Go.Sx
set_option maxRecDepth 100000
set_option maxHeartbeats 40000000
inductive DrR (n : Nat) (s : RS) (z : Int) : V → Prop
  | yes (e : Nat) : 0 ≤ z → z < n → s.IsFirst n e → s.ep e z.toNat ≠ -1 → DrR n s z (.tup [(s.wr e z.toNat).v n, .prop True inferInstance])
  | no : (0 ≤ z → z < n → ∀ e, s.IsFirst n e → s.ep e z.toNat = -1) → DrR n s z (.tup [s.v n, .prop False inferInstance])
theorem IsFirst.uniq {n : Nat} {s : RS} {e e' : Nat} (h : s.IsFirst n e) (h' : s.IsFirst n e') : e = e' := by
  rcases Nat.lt_trichotomy e e' with g | g | g
  · exact absurd (h'.2.2 e g) h.2.1
  · exact g
  · exact absurd (h.2.2 e' g) h'.2.1
end Go.Proofs


namespace Go.Proofs
open Go Go.Sx
set_option maxRecDepth 100000
set_option maxHeartbeats 1000000
structure Sim (n : Nat) (r : RS) (u : PS) : Prop where
  len : r.E.length = u.E.length
  W : r.W = u.W
  M : ∀ b, b < n → r.M b = u.M.get b
  ep : ∀ e b, b < n → r.ep e b = rI ((u.ep e).get b)
  hi : ∀ e b, n ≤ b → b < 6 → (u.ep e).get b = -3
  nn : ∀ e b, b < 6 → (u.ep e).get b = -3 ∨ 0 ≤ (u.ep e).get b
theorem rI_no : rI (-3) = -1 := rfl
theorem rI_some {v : Int} (h : v ≠ -3) : rI v = v := if_neg h
namespace Sim
variable {n : Nat} {r : RS} {u : PS}
theorem none_iff (h : Sim n r u) {e b : Nat} (hb : b < n) (hn : n ≤ 6) : r.ep e b = -1 ↔ (u.ep e).get b = -3 := by
  rw [h.ep e b hb]
  rcases h.nn e b (by omega) with g | g
  · rw [g, rI_no]; simp
  · rw [rI_some (by omega)]; omega
theorem wr (h : Sim n r u) (hn : n ≤ 6) {e b : Nat} (hb : b < n) : Sim n (r.wr e b) (u.wr e b) := by
  have hb6 : b < 6 := by omega
  by_cases hc : (u.ep e).get b = -3
  · rw [PS.wr_neg hc, RS.wr_neg ((h.none_iff hb hn).2 hc)]
    exact h
  · have hr : r.ep e b ≠ -1 := fun g => hc ((h.none_iff hb hn).1 g)
    have hl := PS.ep_lt hb6 hc
    have hep := PS.wr_ep u hc hb6
    have hrep := RS.ep_wr (s := r) (e := e) (b := b) (by rw [h.len]; exact hl)
    have hv : r.ep e b = (u.ep e).get b := by rw [h.ep e b hb, rI_some hc]
    rw [PS.wr_pos hc] at hep ⊢
    rw [RS.wr_pos hr]
    refine ⟨by simp [h.len], by show r.W + 1 = u.W + 1; rw [h.W], fun b' hb' => ?_, fun e' b' hb' => ?_, fun e' b' h1 h2 => ?_, fun e' b' hb' => ?_⟩
    · show (if b' = b then r.ep e b else r.M b') = (u.M.set b _).get b'
      rw [C6.get_set hb6 (by omega), hv, h.M b' hb']
    · rw [hrep, hep]
      by_cases g : e' = e
      · subst g
        rw [if_pos rfl, C6.get_set hb6 (by omega)]
        by_cases g2 : b' = b
        · rw [if_pos ⟨rfl, g2⟩, if_pos g2, rI_no]
        · rw [if_neg (fun k => g2 k.2), if_neg g2]; exact h.ep e' b' hb'
      · rw [if_neg (fun k => g k.1), if_neg g]; exact h.ep e' b' hb'
    · rw [hep]
      split
      · rw [C6.get_set hb6 h2, if_neg (by omega)]; exact h.hi e b' h1 h2
      · exact h.hi e' b' h1 h2
    · rw [hep]
      split
      · rw [C6.get_set hb6 hb']
        split
        · exact .inl rfl
        · exact h.nn e b' hb'
      · exact h.nn e' b' hb'
theorem wrB (h : Sim n r u) (hn : n ≤ 6) (e : Nat) : ∀ b, b ≤ n → Sim n (r.wrB e b) (u.wrB e b)
  | 0, _ => h
  | b + 1, hb => (wrB h hn e b (by omega)).wr hn (by omega)
theorem wrB_hi (h : Sim n r u) (hn : n ≤ 6) (e : Nat) : ∀ m, n + m ≤ 6 → u.wrB e (n + m) = u.wrB e n
  | 0, _ => rfl
  | m + 1, hm => by
    have ih := wrB_hi h hn e m (by omega)
    show (u.wrB e (n + m)).wr e (n + m) = _
    rw [ih]
    exact PS.wr_neg ((wrB h hn e n (Nat.le_refl n)).hi e (n + m) (by omega) (by omega))
theorem wrB6 (h : Sim n r u) (hn : n ≤ 6) (e : Nat) : Sim n (r.wrB e n) (u.wrB e 6) := by
  have := wrB_hi h hn e (6 - n) (by omega)
  rw [show n + (6 - n) = 6 by omega] at this
  rw [this]
  exact wrB h hn e n (Nat.le_refl n)
theorem wrE (h : Sim n r u) (hn : n ≤ 6) : ∀ e, Sim n (r.wrE n e) (u.wrE e)
  | 0 => h
  | e + 1 => (wrE h hn e).wrB6 hn e
theorem put (h : Sim n r u) (hn : n ≤ 6) (hl : 0 < u.E.length) {b : Nat} (hb : b < n) {k : Int} (hk : 0 ≤ k) : Sim n (r.setE (r.E.length - 1) b k) (u.put b k) := by
  have hrep := RS.ep_setE (s := r) (e := r.E.length - 1) (b := b) (v := k) (by rw [h.len]; omega)
  have hep : ∀ e', (u.put b k).ep e' = if e' = u.E.length - 1 then (u.ep (u.E.length - 1)).set b k else u.ep e' := by
    intro e'
    show (u.E.set (u.E.length - 1) ((u.E.getD (u.E.length - 1) NO).set b k)).getD e' NO = _
    rw [Go.Proofs.ep_set]
    by_cases g : e' = u.E.length - 1
    · rw [if_pos ⟨g, by omega⟩, if_pos g]; rfl
    · rw [if_neg (fun g2 => g g2.1), if_neg g]; rfl
  refine ⟨by show (r.E.set _ _).length = (u.E.set _ _).length; simp [h.len], h.W, h.M, fun e' b' hb' => ?_, fun e' b' h1 h2 => ?_, fun e' b' hb' => ?_⟩
  · rw [hrep, hep, h.len]
    by_cases g : e' = u.E.length - 1
    · rw [if_pos g, C6.get_set (by omega) (by omega)]
      by_cases g2 : b' = b
      · rw [if_pos ⟨g, g2⟩, if_pos g2, rI_some (by omega)]
      · rw [if_neg (fun k => g2 k.2), if_neg g2, ← g]; exact h.ep e' b' hb'
    · rw [if_neg (fun k => g k.1), if_neg g]; exact h.ep e' b' hb'
  · rw [hep]
    split
    · rw [C6.get_set (by omega) h2, if_neg (by omega)]; exact h.hi _ b' h1 h2
    · exact h.hi e' b' h1 h2
  · rw [hep]
    split
    · rw [C6.get_set (by omega) hb']
      split
      · exact .inr hk
      · exact h.nn _ b' hb'
    · exact h.nn e' b' hb'
theorem order (h : Sim n r u) (hn : n ≤ 6) (hl : 0 < u.E.length) {k : Int} (hk : 0 ≤ k) {o : Int × Int} (ho : o.1 = 1 ∨ o.1 = 2 → 0 ≤ o.2 ∧ o.2 < n) : Sim n (r.order n k o) (u.orderU k o) := by
  unfold RS.order PS.orderU
  by_cases h1 : o.1 = 1
  · rw [if_pos h1, if_pos h1]
    have := ho (.inl h1)
    exact h.put hn hl (by omega) hk
  rw [if_neg h1, if_neg h1]
  by_cases h2 : o.1 = 2
  · rw [if_pos h2, if_pos h2]
    have := ho (.inr h2)
    have h3 := h.put hn hl (show o.2.toNat < n by omega) hk
    have e : r.E.length = u.E.length := h.len
    rw [e] at h3 ⊢
    exact (h3.wrE hn (u.E.length - 1)).wr hn (by omega)
  rw [if_neg h2, if_neg h2]
  by_cases h3 : o.1 = 3
  · rw [if_pos h3, if_pos h3]
    have he : ∀ e, (⟨u.M, u.E ++ [NO], u.W⟩ : PS).ep e = u.ep e := by
      intro e
      show (u.E ++ [NO]).getD e NO = u.E.getD e NO
      rcases Nat.lt_or_ge e u.E.length with g | g
      · simp only [List.getD_eq_getElem?_getD, List.getElem?_append_left g]
      · simp only [List.getD_eq_getElem?_getD, List.getElem?_append_right g, List.getElem?_eq_none g]
        cases e - u.E.length <;> simp
    refine ⟨by simp [h.len], h.W, h.M, fun e b hb => ?_, fun e b h1 h2 => by rw [he]; exact h.hi e b h1 h2, fun e b hb => by rw [he]; exact h.nn e b hb⟩
    rw [RS.ep_snoc, he]
    split
    · exact h.ep e b hb
    · rename_i g
      have : u.ep e = NO := by unfold PS.ep; rw [List.getD_eq_getElem?_getD, List.getElem?_eq_none (by have := h.len; omega)]; rfl
      rw [this, C6.get_all (by omega), rI_no]
  rw [if_neg h3, if_neg h3]
  by_cases h4 : o.1 = 4
  · rw [if_pos h4, if_pos h4]
    have e : r.E.length = u.E.length := h.len
    rw [e]
    exact h.wrE hn _
  · rw [if_neg h4, if_neg h4]
    exact h
theorem noRow_iff (h : Sim n r u) (hn : n ≤ 6) (e : Nat) : noRow n (r.ep e) ↔ u.ep e = NO := by
  constructor
  · intro g
    refine C6.ext' fun b hb => ?_
    rw [C6.get_all hb]
    by_cases hbn : b < n
    · exact (h.none_iff hbn hn).1 (g b hbn)
    · exact h.hi e b (by omega) hb
  · intro g b hb
    rw [h.none_iff hb hn, g]
    exact C6.get_all (by omega)
theorem first (h : Sim n r u) (hn : n ≤ 6) {e : Nat} : RS.IsFirst n r e → idxC isS u.E = e := by
  rintro ⟨h1, h2, h3⟩
  refine idxC_some (by rw [← h.len]; exact h1) (isS_iff.2 fun g => h2 ((h.noRow_iff hn e).2 g)) fun j hj => ?_
  have := (h.noRow_iff hn j).1 (h3 j hj)
  unfold PS.ep at this
  rw [this]
  decide
theorem can_iff (h : Sim n r u) (hn : n ≤ 6) {e b : Nat} (he : RS.IsFirst n r e) (hb : b < n) : u.can b ↔ r.ep e b ≠ -1 := by
  have h1 := h.first hn he
  unfold PS.can
  rw [h1, Int.toNat_natCast]
  exact ⟨fun g k => g.2 ((h.none_iff hb hn).1 k), fun g => ⟨by omega, fun k => g ((h.none_iff hb hn).2 k)⟩⟩
theorem drain (h : Sim n r u) (hn : n ≤ 6) {e b : Nat} (he : RS.IsFirst n r e) (hb : b < n) : Sim n (r.wr e b) (u.drainU b) := by
  have h1 := h.first hn he
  unfold PS.drainU
  rw [h1, Int.toNat_natCast]
  exact h.wr hn hb
theorem cnt (h : Sim n r u) (hn : n ≤ 6) (e : Nat) : cntF (r.ep e) n = cntC (u.ep e) 6 := by
  have h1 : ∀ b, b ≤ n → cntF (r.ep e) b = cntC (u.ep e) b := by
    intro b
    induction b with
    | zero => intro _; rfl
    | succ b ih =>
      intro hb
      show cntF (r.ep e) b + (if _ then _ else _) = cntC (u.ep e) b + (if _ then _ else _)
      rw [ih (by omega)]
      by_cases g : (u.ep e).get b = -3
      · rw [if_pos ((h.none_iff (by omega) hn).2 g), if_pos g]
      · rw [if_neg (fun k => g ((h.none_iff (by omega) hn).1 k)), if_neg g]
  have h2 : ∀ m, n + m ≤ 6 → cntC (u.ep e) (n + m) = cntC (u.ep e) n := by
    intro m
    induction m with
    | zero => intro _; rfl
    | succ m ih =>
      intro hm
      rw [show n + (m + 1) = n + m + 1 by omega, cntC_neg (h.hi e (n + m) (by omega) (by omega)), ih (by omega)]
  rw [h1 n (Nat.le_refl n)]
  have := h2 (6 - n) (by omega)
  rw [show n + (6 - n) = 6 by omega] at this
  exact this.symm
end Sim
theorem cntE_take (E : List C6) : ∀ k, k ≤ E.length → cntE E k = cntL (E.take k)
  | 0, _ => by simp [cntE, cntL]
  | k + 1, hk => by
    have e : E.getD k NO = E[k] := by simp [List.getD_eq_getElem?_getD, show k < E.length by omega]
    rw [List.take_succ_eq_append_getElem (by omega), cntL_append]
    show cntE E k + cntC (E.getD k NO) 6 = _
    rw [cntE_take E k (by omega), e]
    simp [cntL]
theorem cntE_all (E : List C6) : cntE E E.length = cntL E := by rw [cntE_take E _ (Nat.le_refl _), List.take_length]
theorem Sim.entries {n : Nat} {r : RS} {u : PS} (h : Sim n r u) (hn : n ≤ 6) : r.entries n = cntL u.E := by
  have h1 : ∀ k, cntFE n r k = cntE u.E k := by
    intro k
    induction k with
    | zero => rfl
    | succ k ih =>
      show cntFE n r k + cntF (r.ep k) n = cntE u.E k + cntC (u.E.getD k NO) 6
      rw [ih, h.cnt hn k]
      rfl
  unfold RS.entries
  rw [h1, h.len, cntE_all]
theorem Sim.begin {n : Nat} (hn : n ≤ 6) : Sim n RS.begin PS.begin := by
  have he : ∀ e, PS.begin.ep e = NO := fun e => by
    cases e with
    | zero => rfl
    | succ e => rfl
  refine ⟨rfl, rfl, fun b hb => (C6.get_all (by omega)).symm, fun e b hb => ?_, fun e b _ hb => by rw [he]; exact C6.get_all hb, fun e b hb => .inl (by rw [he]; exact C6.get_all hb)⟩
  rw [he, C6.get_all (by omega), rI_no]
  unfold RS.begin RS.ep
  cases e with
  | zero => rfl
  | succ e => rfl
/-! ### all orders, without a drain -/
def runU (l : List (Int × Int)) : Nat → PS
  | 0 => PS.begin
  | k + 1 => (runU l k).orderU k (l.getD k (0, 0))
theorem runU_rch (x : Cache) : ∀ k, k ≤ x.l.length → RchU x k (runU x.l k) []
  | 0, _ => .begin
  | k + 1, h => (runU_rch x k (by omega)).order (by omega)
end Go.Proofs


namespace Go.Proofs
open Go Go.Sx
set_option maxRecDepth 100000
set_option maxHeartbeats 1000000
structure Lazy (u v : PS) : Prop where
  len : u.E.length = v.E.length
  sub : ∀ e b, b < 6 → (u.ep e).get b ≠ -3 → (v.ep e).get b ≠ -3
  tot : v.tot ≤ u.tot
theorem PS.wr_get (u : PS) {e b : Nat} (hb : b < 6) {e' b' : Nat} (hb' : b' < 6) : ((u.wr e b).ep e').get b' = if e' = e ∧ b' = b then -3 else (u.ep e').get b' := by
  by_cases hc : (u.ep e).get b = -3
  · rw [PS.wr_neg hc]
    split
    · rename_i h; rw [h.1, h.2, hc]
    · rfl
  · rw [PS.wr_ep u hc hb]
    by_cases h : e' = e
    · subst h
      rw [if_pos rfl, C6.get_set hb hb']
      by_cases h2 : b' = b
      · rw [if_pos h2, if_pos ⟨rfl, h2⟩]
      · rw [if_neg h2, if_neg (fun g => h2 g.2)]
    · rw [if_neg h, if_neg (fun g => h g.1)]
theorem PS.put_get (u : PS) (hl : 0 < u.E.length) {b : Nat} (hb : b < 6) (k : Int) {e' b' : Nat} (hb' : b' < 6) : ((u.put b k).ep e').get b' = if e' = u.E.length - 1 ∧ b' = b then k else (u.ep e').get b' := by
  have hep : (u.put b k).ep e' = if e' = u.E.length - 1 then (u.ep (u.E.length - 1)).set b k else u.ep e' := by
    show (u.E.set (u.E.length - 1) ((u.E.getD (u.E.length - 1) NO).set b k)).getD e' NO = _
    rw [ep_set]
    by_cases g : e' = u.E.length - 1
    · rw [if_pos ⟨g, by omega⟩, if_pos g]; rfl
    · rw [if_neg (fun g2 => g g2.1), if_neg g]; rfl
  rw [hep]
  by_cases h : e' = u.E.length - 1
  · rw [if_pos h, C6.get_set hb hb']
    by_cases h2 : b' = b
    · rw [if_pos h2, if_pos ⟨h, h2⟩]
    · rw [if_neg h2, if_neg (fun g => h2 g.2), h]
  · rw [if_neg h, if_neg (fun g => h g.1)]
namespace Lazy
variable {u v : PS}
theorem wr (h : Lazy u v) {e b : Nat} (hb : b < 6) : Lazy (u.wr e b) (v.wr e b) := by
  refine ⟨by rw [PS.wr_len, PS.wr_len, h.len], fun e' b' hb' hne => ?_, by rw [PS.tot_wr _ _ _ hb, PS.tot_wr _ _ _ hb]; exact h.tot⟩
  rw [PS.wr_get _ hb hb'] at hne ⊢
  split at hne
  · exact absurd rfl hne
  · rename_i g
    rw [if_neg g]
    exact h.sub e' b' hb' hne
theorem wrB (h : Lazy u v) (e : Nat) : ∀ b, b ≤ 6 → Lazy (u.wrB e b) (v.wrB e b)
  | 0, _ => h
  | b + 1, hb => (wrB h e b (by omega)).wr (by omega)
theorem wrE (h : Lazy u v) : ∀ e, Lazy (u.wrE e) (v.wrE e)
  | 0 => h
  | e + 1 => (wrE h e).wrB e 6 (by omega)
theorem drain (h : Lazy u v) {b : Nat} (hb : b < 6) : Lazy (u.drainU b) v := by
  unfold PS.drainU
  refine ⟨by rw [PS.wr_len]; exact h.len, fun e' b' hb' hne => ?_, by rw [PS.tot_wr _ _ _ hb]; exact h.tot⟩
  rw [PS.wr_get _ hb hb'] at hne
  split at hne
  · exact absurd rfl hne
  · exact h.sub e' b' hb' hne
theorem put (h : Lazy u v) (hl : 0 < u.E.length) {b : Nat} (hb : b < 6) {k : Int} (hk : k ≠ -3) : Lazy (u.put b k) (v.put b k) := by
  have hlv : 0 < v.E.length := by rw [← h.len]; exact hl
  refine ⟨by rw [PS.put_len, PS.put_len, h.len], fun e' b' hb' hne => ?_, ?_⟩
  · rw [PS.put_get _ hl hb k hb'] at hne
    rw [PS.put_get _ hlv hb k hb', ← h.len]
    split at hne
    · rename_i g; rw [if_pos g]; exact hk
    · rename_i g; rw [if_neg g]; exact h.sub e' b' hb' hne
  · have ht := h.tot
    have hs := h.sub (u.E.length - 1) b hb
    have key : ∀ w : PS, 0 < w.E.length → (w.put b k).tot = w.tot + 1 - one ((w.ep (w.E.length - 1)).get b) := by
      intro w hw
      unfold PS.tot PS.put
      dsimp only
      rw [cntL_set' (by omega), cntC_set hb _ 6 hb (by omega), one_pos hk]
      unfold PS.ep
      omega
    rw [key u hl, key v hlv, ← h.len]
    have h1 : one ((u.ep (u.E.length - 1)).get b) ≤ one ((v.ep (u.E.length - 1)).get b) := by
      by_cases g : (u.ep (u.E.length - 1)).get b = -3
      · rw [g, one_no]; exact (one_le _).1
      · rw [one_pos g, one_pos (hs g)]; exact Int.le_refl _
    omega
theorem order (h : Lazy u v) (hl : 0 < u.E.length) {k : Int} (hk : 0 ≤ k) {o : Int × Int} (ho : o.1 = 1 ∨ o.1 = 2 → o.2.toNat < 6) : Lazy (u.orderU k o) (v.orderU k o) := by
  unfold PS.orderU
  by_cases h1 : o.1 = 1
  · rw [if_pos h1, if_pos h1]
    exact h.put hl (ho (.inl h1)) (by omega)
  rw [if_neg h1, if_neg h1]
  by_cases h2 : o.1 = 2
  · rw [if_pos h2, if_pos h2, ← h.len]
    exact ((h.put hl (ho (.inr h2)) (by omega)).wrE _).wr (ho (.inr h2))
  rw [if_neg h2, if_neg h2]
  by_cases h3 : o.1 = 3
  · rw [if_pos h3, if_pos h3]
    have he : ∀ (u : PS) e, (⟨u.M, u.E ++ [NO], u.W⟩ : PS).ep e = u.ep e := by
      intro u e
      show (u.E ++ [NO]).getD e NO = u.E.getD e NO
      rcases Nat.lt_or_ge e u.E.length with g | g
      · simp only [List.getD_eq_getElem?_getD, List.getElem?_append_left g]
      · simp only [List.getD_eq_getElem?_getD, List.getElem?_append_right g, List.getElem?_eq_none g]
        cases e - u.E.length <;> simp
    refine ⟨by simp [h.len], fun e b hb hne => ?_, ?_⟩
    · rw [he] at hne ⊢
      exact h.sub e b hb hne
    · have ht := h.tot
      unfold PS.tot at ht ⊢
      dsimp only
      rw [cntL_append, cntL_append]
      simp only [cntL, cntC_no 6 (by omega)]
      omega
  rw [if_neg h3, if_neg h3]
  by_cases h4 : o.1 = 4
  · rw [if_pos h4, if_pos h4, ← h.len]
    exact h.wrE _
  · rw [if_neg h4, if_neg h4]
    exact h
theorem cntC_mono {c d : C6} (h : ∀ b, b < 6 → c.get b ≠ -3 → d.get b ≠ -3) : ∀ b, b ≤ 6 → cntC c b ≤ cntC d b
  | 0, _ => by simp [cntC]
  | b + 1, hb => by
    have ih := cntC_mono h b (by omega)
    rw [cntC_succ, cntC_succ]
    have h1 : one (c.get b) ≤ one (d.get b) := by
      by_cases g : c.get b = -3
      · rw [g, one_no]; exact (one_le _).1
      · rw [one_pos g, one_pos (h b (by omega) g)]; exact Int.le_refl _
    omega
theorem cnt (h : Lazy u v) : cntL u.E ≤ cntL v.E := by
  have key : ∀ k, cntE u.E k ≤ cntE v.E k := by
    intro k
    induction k with
    | zero => simp [cntE]
    | succ k ih =>
      have := cntC_mono (h.sub k) 6 (by omega)
      show cntE u.E k + cntC (u.ep k) 6 ≤ cntE v.E k + cntC (v.ep k) 6
      omega
  have := key u.E.length
  rw [cntE_all] at this
  rw [h.len, cntE_all] at this
  exact this
end Lazy
end Go.Proofs


namespace Go.Proofs
open Go Go.Sx
set_option maxRecDepth 100000
set_option maxHeartbeats 40000000
def canR (n : Nat) (s : RS) (z : Int) : Prop := 0 ≤ z ∧ z < n ∧ ∃ e, s.IsFirst n e ∧ s.ep e z.toNat ≠ -1
open Classical in
noncomputable def drS (n : Nat) (s : RS) (z : Int) : RS := if h : canR n s z then s.wr (Classical.choose h.2.2) z.toNat else s
theorem drS_yes {n : Nat} {s : RS} {z : Int} {e : Nat} (h : 0 ≤ z ∧ z < n) (he : s.IsFirst n e) (hne : s.ep e z.toNat ≠ -1) : drS n s z = s.wr e z.toNat ∧ canR n s z := by
  have hc : canR n s z := ⟨h.1, h.2, e, he, hne⟩
  unfold drS
  rw [dif_pos hc, IsFirst.uniq (Classical.choose_spec hc.2.2).1 he]
  exact ⟨rfl, hc⟩
theorem drS_no {n : Nat} {s : RS} {z : Int} (h : ¬ canR n s z) : drS n s z = s := dif_neg h
theorem Drained17d (n : Nat) (hn : 1 ≤ n ∧ n ≤ 1000) (s : RS) (hE : s.E.length ≤ 100) (hW : 0 ≤ s.W ∧ s.W ≤ 1000000) (z : Int) : PureC Try.prog 17 true [s.v n, .int .i64 z] (· = .tup [(drS n s z).v n, .prop (canR n s z) (Classical.propDecidable _)]) := by
  refine pureC_of_exec Try.E_ok Try.func17 rfl (by kernel_rfl) ?_
  (repeat' ((conv => whnf); (first | (with_reducible first | apply spl | apply spl') <;> intro hc <;> try (exfalso; omega) | with_reducible refine iJ fun hc => ?_ | refine vcq (k := ?_) | fail))); all_goals ((try conv => whnf); try with_reducible exact trivial)
  refine callee_fo (first46 n hn s hE) rfl ?_
  rintro _ (⟨e, he, rfl⟩ | ⟨h, rfl⟩)
  · have hel := he.1
    have hte : (e : Int).toNat = e := Int.toNat_natCast e
    (repeat' ((conv => whnf); (first | (with_reducible first | apply spl | apply spl') <;> intro hc <;> try (exfalso; omega) | with_reducible refine iJ fun hc => ?_ | refine vcq (k := ?_) | fail))); all_goals ((try conv => whnf); try with_reducible exact trivial); (repeat' ((first | (refine callee_fo (within47 _ _ _) rfl ?_; rintro _ rfl) | (refine pcall_intro (within47 _ _ _) rfl ?_) | (refine pcall_soft (fun _ => within47 _ _ _) rfl ?_)); (repeat' ((conv => whnf); (first | (with_reducible first | apply spl | apply spl') <;> intro hc <;> try (exfalso; omega) | with_reducible refine iJ fun hc => ?_ | refine vcq (k := ?_) | fail))); all_goals ((try conv => whnf); try with_reducible exact trivial)))
    · have hno : ¬ canR n s z := by
        rintro ⟨h1, h2, e', he', hne⟩
        obtain rfl := IsFirst.uniq he he'
        rw [hte] at hc
        rcases hc with hc | hc
        · omega
        · exact hne hc
      rw [drS_no hno]
      refine ⟨_, rfl, ?_⟩
      (repeat' ((conv => whnf); (first | (with_reducible first | apply spl | apply spl') <;> intro hc <;> try (exfalso; omega) | with_reducible refine iJ fun hc => ?_ | refine vcq (k := ?_) | fail))); all_goals ((try conv => whnf); try with_reducible exact trivial)
    · have hz : 0 ≤ z ∧ z < n := by omega
      obtain ⟨b, rfl⟩ : ∃ b : Nat, z = b := ⟨z.toNat, by omega⟩
      have htb : (b : Int).toNat = b := Int.toNat_natCast b
      rw [hte] at hc
      have hy := drS_yes hz he (fun g => hc (.inr g))
      rw [htb] at hy
      rw [hy.1]
      have hcan := hy.2
      refine callee_fo (write48 n hn s (by omega) hW e b hel (by omega)) rfl ?_
      rintro _ rfl
      (repeat' ((conv => whnf); (first | (with_reducible first | apply spl | apply spl') <;> intro hc <;> try (exfalso; omega) | with_reducible refine iJ fun hc => ?_ | refine vcq (k := ?_) | fail))); all_goals ((try conv => whnf); try with_reducible exact trivial)
      refine ⟨_, rfl, ?_⟩
      (repeat' ((conv => whnf); (first | (with_reducible first | apply spl | apply spl') <;> intro hc <;> try (exfalso; omega) | with_reducible refine iJ fun hc => ?_ | refine vcq (k := ?_) | fail))); all_goals ((try conv => whnf); try with_reducible exact trivial)
  · have hno : ¬ canR n s z := by
      rintro ⟨_, _, e, he, _⟩
      exact he.2.1 (h e he.1)
    rw [drS_no hno]
    (repeat' ((conv => whnf); (first | (with_reducible first | apply spl | apply spl') <;> intro hc <;> try (exfalso; omega) | with_reducible refine iJ fun hc => ?_ | refine vcq (k := ?_) | fail))); all_goals ((try conv => whnf); try with_reducible exact trivial)
    refine ⟨_, rfl, ?_⟩
    (repeat' ((conv => whnf); (first | (with_reducible first | apply spl | apply spl') <;> intro hc <;> try (exfalso; omega) | with_reducible refine iJ fun hc => ?_ | refine vcq (k := ?_) | fail))); all_goals ((try conv => whnf); try with_reducible exact trivial)
namespace Sim
variable {n : Nat} {r : RS} {u : PS}
theorem canR_iff (h : Sim n r u) (hn : n ≤ 6) {z : Int} : canR n r z ↔ 0 ≤ z ∧ z < n ∧ u.can z.toNat := by
  constructor
  · rintro ⟨h1, h2, e, he, hne⟩
    exact ⟨h1, h2, (h.can_iff hn he (by omega)).2 hne⟩
  · rintro ⟨h1, h2, h3⟩
    refine ⟨h1, h2, ?_⟩
    have hl := PS.ep_lt (u := u) (e := (idxC isS u.E).toNat) (b := z.toNat) (by omega) h3.2
    have hi : (idxC isS u.E) = ((idxC isS u.E).toNat : Int) := by have := h3.1; omega
    obtain ⟨e, _, hno, _, _⟩ := PS.drain_spec (show z.toNat < 6 by omega) h3
    have he : RS.IsFirst n r (idxC isS u.E).toNat := by
      refine ⟨by rw [h.len]; exact hl, fun g => ?_, fun j hj => ?_⟩
      · have := (h.noRow_iff hn _).1 g
        have h4 := h3.2
        rw [this] at h4
        exact h4 (C6.get_all (by omega))
      · rw [h.noRow_iff hn]
        rcases idxC_spec isS u.E with ⟨g1, _⟩ | ⟨i, g1, g2, g3, g4⟩
        · omega
        · have := g4 j (by omega)
          exact Classical.not_not.1 (fun k => by
            have k2 : isS (u.E.getD j (C6.all (-3))) = true := isS_iff.2 k
            rw [this] at k2
            cases k2)
    exact ⟨_, he, (h.can_iff hn he (by omega)).1 h3⟩
theorem drain' (h : Sim n r u) (hn : n ≤ 6) {z : Int} (hc : canR n r z) : Sim n (drS n r z) (u.drainU z.toNat) := by
  obtain ⟨h1, h2, e, he, hne⟩ := hc
  rw [(drS_yes ⟨h1, h2⟩ he hne).1]
  exact h.drain hn he (by omega)
end Sim
end Go.Proofs


namespace Go.Proofs
open Go Go.Sx
set_option maxRecDepth 100000
set_option maxHeartbeats 40000000
theorem sameInts83 (n m : Nat) (hn : n ≤ 1000000) (hm : m ≤ 1000000) (F G : Nat → Int) : PureC Try.prog 83 false [.sl 1 n (iF F), .sl 1 m (iF G)] (· = .prop (n = m ∧ ∀ b, b < n → F b = G b) (Classical.propDecidable _)) := by
  refine pureC_of_exec Try.E_ok Try.func83 rfl (by kernel_rfl) ?_
  (repeat' ((conv => whnf); (first | (with_reducible first | apply spl | apply spl') <;> intro hc <;> try (exfalso; omega) | with_reducible refine iJ fun hc => ?_ | refine vcq (k := ?_) | refine dr 9 (k := ?_)))); all_goals ((try conv => whnf); try with_reducible exact trivial)
  refine ⟨Nat, fun i => i ≤ n ∧ i ≤ m ∧ ∀ b, b < i → F b = G b, fun i => n - i, fun i => [(5, .int .i64 (i : Nat))], fun _ => [], fun _ => [], 0, ⟨⟨by omega, by omega, fun b hb => by omega⟩, none, ?_⟩, ?_⟩
  · (repeat' ((conv => whnf); (first | (with_reducible first | apply spl | apply spl') <;> intro hc <;> try (exfalso; omega) | with_reducible refine iJ fun hc => ?_ | refine vcq (k := ?_) | refine dr 9 (k := ?_)))); all_goals ((try conv => whnf); try with_reducible exact trivial)
  · rintro i ⟨h1, h1', h2⟩
    have hti : (i : Int).toNat = i := Int.toNat_natCast i
    (repeat' ((conv => whnf); (first | (with_reducible first | apply spl | apply spl') <;> intro hc <;> try (exfalso; omega) | with_reducible refine iJ fun hc => ?_ | refine vcq (k := ?_) | refine dr 9 (k := ?_)))); all_goals ((try conv => whnf); try with_reducible exact trivial)
    · refine ⟨_, rfl, ?_⟩
      (repeat' ((conv => whnf); (first | (with_reducible first | apply spl | apply spl') <;> intro hc <;> try (exfalso; omega) | with_reducible refine iJ fun hc => ?_ | refine vcq (k := ?_) | refine dr 9 (k := ?_)))); all_goals ((try conv => whnf); try with_reducible exact trivial)
      refine ⟨fun h => ?_, trivial⟩
      rw [hti] at hc
      exact hc (h.2 i (by omega))
    · rw [hti] at hc
      refine ⟨i + 1, ⟨⟨by omega, by omega, fun b hb => ?_⟩, by dsimp only; omega⟩, none, ?_⟩
      · rcases Nat.lt_or_eq_of_le (show b ≤ i by omega) with h | rfl
        · exact h2 b h
        · exact Classical.not_not.1 hc
      · (repeat' ((conv => whnf); (first | (with_reducible first | apply spl | apply spl') <;> intro hc <;> try (exfalso; omega) | with_reducible refine iJ fun hc => ?_ | refine vcq (k := ?_) | refine dr 9 (k := ?_)))); all_goals ((try conv => whnf); try with_reducible exact trivial)
    · refine ⟨_, rfl, ?_⟩
      (repeat' ((conv => whnf); (first | (with_reducible first | apply spl | apply spl') <;> intro hc <;> try (exfalso; omega) | with_reducible refine iJ fun hc => ?_ | refine vcq (k := ?_) | refine dr 9 (k := ?_)))); all_goals ((try conv => whnf); try with_reducible exact trivial)
      exact ⟨⟨fun h => ⟨by omega, fun b hb => h2 b (by omega)⟩, fun h => by omega⟩, trivial⟩
def RS.same (n : Nat) (a c : RS) : Prop := (∀ b, b < n → a.M b = c.M b) ∧ a.E.length = c.E.length ∧ ∀ e, e < a.E.length → ∀ b, b < n → a.ep e b = c.ep e b
theorem SameState108 (n : Nat) (hn : n ≤ 1000) (a c : RS) (ha : a.E.length ≤ 1000000) (hc' : c.E.length ≤ 1000000) : PureC Try.prog 108 false [a.v n, c.v n] (· = .prop (RS.same n a c) (Classical.propDecidable _)) := by
  refine pureC_of_exec Try.E_ok Try.func108 rfl (by kernel_rfl) ?_
  (repeat' ((conv => whnf); (first | (with_reducible first | apply spl | apply spl') <;> intro hc <;> try (exfalso; omega) | with_reducible refine iJ fun hc => ?_ | refine vcq (k := ?_) | refine dr 12 (k := ?_)))); all_goals ((try conv => whnf); try with_reducible exact trivial)
  refine callee_fo (sameInts83 n n (by omega) (by omega) a.M c.M) rfl ?_
  rintro _ rfl
  (repeat' ((conv => whnf); (first | (with_reducible first | apply spl | apply spl') <;> intro hc <;> try (exfalso; omega) | with_reducible refine iJ fun hc => ?_ | refine vcq (k := ?_) | refine dr 12 (k := ?_)))); all_goals ((try conv => whnf); try with_reducible exact trivial)
  · refine ⟨_, rfl, ?_⟩
    (repeat' ((conv => whnf); (first | (with_reducible first | apply spl | apply spl') <;> intro hc <;> try (exfalso; omega) | with_reducible refine iJ fun hc => ?_ | refine vcq (k := ?_) | refine dr 12 (k := ?_)))); all_goals ((try conv => whnf); try with_reducible exact trivial)
    exact ⟨fun h => hc.elim (fun g => g ⟨rfl, h.1⟩) (fun g => g (by rw [h.2.1])), trivial⟩
  · have hM : ∀ b, b < n → a.M b = c.M b := fun b hb => Classical.byContradiction fun g => hc (.inl fun k => g (k.2 b hb))
    have hl : a.E.length = c.E.length := Classical.byContradiction fun g => hc (.inr fun k => g (by omega))
    refine ⟨Nat, fun i => i ≤ a.E.length ∧ ∀ e, e < i → ∀ b, b < n → a.ep e b = c.ep e b, fun i => a.E.length - i, fun i => [(5, .int .i64 (i : Nat)), (13, .any), (14, .any), (15, .any), (16, .any), (17, .any), (18, .any), (19, .any), (20, .any)], fun _ => [], fun _ => [], 0, ⟨⟨by omega, fun b hb => by omega⟩, none, ?_⟩, ?_⟩
    · (repeat' ((conv => whnf); (first | (with_reducible first | apply spl | apply spl') <;> intro hc <;> try (exfalso; omega) | with_reducible refine iJ fun hc => ?_ | refine vcq (k := ?_) | refine dr 12 (k := ?_)))); all_goals ((try conv => whnf); try with_reducible exact trivial)
    · rintro i ⟨h1, h2⟩
      have hti : (i : Int).toNat = i := Int.toNat_natCast i
      (repeat' ((conv => whnf); (first | (with_reducible first | apply spl | apply spl') <;> intro hc <;> try (exfalso; omega) | with_reducible refine iJ fun hc => ?_ | refine vcq (k := ?_) | refine dr 12 (k := ?_)))); all_goals ((try conv => whnf); try with_reducible exact trivial)
      · refine pcall_intro (sameInts83 n n (by omega) (by omega) (a.ep i) (c.ep i)) rfl ?_
        (repeat' ((conv => whnf); (first | (with_reducible first | apply spl | apply spl') <;> intro hc <;> try (exfalso; omega) | with_reducible refine iJ fun hc => ?_ | refine vcq (k := ?_) | refine dr 12 (k := ?_)))); all_goals ((try conv => whnf); try with_reducible exact trivial)
        · refine ⟨_, rfl, ?_⟩
          (repeat' ((conv => whnf); (first | (with_reducible first | apply spl | apply spl') <;> intro hc <;> try (exfalso; omega) | with_reducible refine iJ fun hc => ?_ | refine vcq (k := ?_) | refine dr 12 (k := ?_)))); all_goals ((try conv => whnf); try with_reducible exact trivial)
          exact ⟨fun h => hc ⟨rfl, h.2.2 i (by omega)⟩, trivial⟩
        · have hi := Classical.not_not.1 hc
          refine ⟨i + 1, ⟨⟨by omega, fun e he => ?_⟩, by dsimp only; omega⟩, none, ?_⟩
          · rcases Nat.lt_or_eq_of_le (show e ≤ i by omega) with h | rfl
            · exact h2 e h
            · exact hi.2
          · (repeat' ((conv => whnf); (first | (with_reducible first | apply spl | apply spl') <;> intro hc <;> try (exfalso; omega) | with_reducible refine iJ fun hc => ?_ | refine vcq (k := ?_) | refine dr 12 (k := ?_)))); all_goals ((try conv => whnf); try with_reducible exact trivial)
      · refine ⟨_, rfl, ?_⟩
        (repeat' ((conv => whnf); (first | (with_reducible first | apply spl | apply spl') <;> intro hc <;> try (exfalso; omega) | with_reducible refine iJ fun hc => ?_ | refine vcq (k := ?_) | refine dr 12 (k := ?_)))); all_goals ((try conv => whnf); try with_reducible exact trivial)
        exact ⟨⟨hM, hl, fun e he => h2 e (by omega)⟩, trivial⟩
noncomputable def addR (n : Nat) (L : List RS) (s : RS) : List RS := @ite _ (∃ t ∈ L, RS.same n t s) (Classical.propDecidable _) L (L ++ [s])
theorem added95 (n : Nat) (hn : n ≤ 1000) (L : List RS) (hL : L.length ≤ 1000000) (hE : ∀ t ∈ L, t.E.length ≤ 1000000) (s : RS) (hs : s.E.length ≤ 1000000) (nz : Bool) :
    Sx.Callee Try.prog 95 [.osl 0 L.length, s.v n] [.row 34 3 L.length (rowOf (RS.c n) RS.begin L) nz]
      (fun v H => v = .osl 1 (addR n L s).length ∧ H = [.gone, .row 34 3 (addR n L s).length (rowOf (RS.c n) RS.begin (addR n L s)) nz]) := by
  refine callee_ent Try.E_ok Try.func95 rfl (by kernel_rfl) ?_
  (repeat' ((conv => whnf); (first | (with_reducible first | apply spl | apply spl') <;> intro hc <;> try (exfalso; omega) | with_reducible refine iJ fun hc => ?_ | refine vcq (k := ?_) | refine dr 6 (k := ?_)))); all_goals ((try conv => whnf); try with_reducible exact trivial)
  refine ⟨Nat, fun i => i ≤ L.length ∧ ∀ j, j < i → ¬ RS.same n (L.getD j RS.begin) s, fun i => L.length - i, fun i => [(5, .int .i64 (i : Nat)), (14, .any)], fun _ => [], fun _ => [], 0, ⟨⟨by omega, fun b hb => by omega⟩, none, ?_⟩, ?_⟩
  · (repeat' ((conv => whnf); (first | (with_reducible first | apply spl | apply spl') <;> intro hc <;> try (exfalso; omega) | with_reducible refine iJ fun hc => ?_ | refine vcq (k := ?_) | refine dr 6 (k := ?_)))); all_goals ((try conv => whnf); try with_reducible exact trivial)
  · rintro i ⟨h1, h2⟩
    have hti : (i : Int).toNat = i := Int.toNat_natCast i
    (repeat' ((conv => whnf); (first | (with_reducible first | apply spl | apply spl') <;> intro hc <;> try (exfalso; omega) | with_reducible refine iJ fun hc => ?_ | refine vcq (k := ?_) | refine dr 6 (k := ?_)))); all_goals ((try conv => whnf); try with_reducible exact trivial)
    · have hi : i < L.length := by omega
      have hm : L.getD i RS.begin ∈ L := by simp [List.getD_eq_getElem?_getD, hi]
      refine pcall_intro (SameState108 n hn (L.getD i RS.begin) s (hE _ hm) hs) rfl ?_
      (repeat' ((conv => whnf); (first | (with_reducible first | apply spl | apply spl') <;> intro hc <;> try (exfalso; omega) | with_reducible refine iJ fun hc => ?_ | refine vcq (k := ?_) | refine dr 6 (k := ?_)))); all_goals ((try conv => whnf); try with_reducible exact trivial)
      · have e : addR n L s = L := if_pos ⟨_, hm, hc⟩
        rw [e]
        refine ⟨_, _, ⟨rfl, rfl⟩, some [some 0, some 0], ?_⟩
        cases nz
        · (repeat' ((conv => whnf); (first | (with_reducible first | apply spl | apply spl') <;> intro hc <;> try (exfalso; omega) | with_reducible refine iJ fun hc => ?_ | refine vcq (k := ?_) | refine dr 6 (k := ?_)))); all_goals ((try conv => whnf); try with_reducible exact trivial)
        · (repeat' ((conv => whnf); (first | (with_reducible first | apply spl | apply spl') <;> intro hc <;> try (exfalso; omega) | with_reducible refine iJ fun hc => ?_ | refine vcq (k := ?_) | refine dr 6 (k := ?_)))); all_goals ((try conv => whnf); try with_reducible exact trivial)
      · refine ⟨i + 1, ⟨⟨by omega, fun j hj => ?_⟩, by dsimp only; omega⟩, none, ?_⟩
        · rcases Nat.lt_or_eq_of_le (show j ≤ i by omega) with h | rfl
          · exact h2 j h
          · exact hc
        · (repeat' ((conv => whnf); (first | (with_reducible first | apply spl | apply spl') <;> intro hc <;> try (exfalso; omega) | with_reducible refine iJ fun hc => ?_ | refine vcq (k := ?_) | refine dr 6 (k := ?_)))); all_goals ((try conv => whnf); try with_reducible exact trivial)
    · have e : addR n L s = L ++ [s] := if_neg (by
        rintro ⟨t, ht, hsm⟩
        obtain ⟨j, hj, rfl⟩ := List.getElem_of_mem ht
        refine h2 j (by omega) ?_
        have : L.getD j RS.begin = L[j] := by simp [List.getD_eq_getElem?_getD, hj]
        rw [this]
        exact hsm)
      rw [e]
      refine ⟨_, _, ⟨rfl, rfl⟩, some [some 0, some 3], ?_⟩
      (repeat' ((conv => whnf); (first | (with_reducible first | apply spl | apply spl') <;> intro hc <;> try (exfalso; omega) | with_reducible refine iJ fun hc => ?_ | refine vcq (k := ?_) | refine dr 6 (k := ?_)))); all_goals ((try conv => whnf); try with_reducible exact trivial)
      refine ⟨by simp, by simp, rowOf_snoc (c := RS.c n) (a := s) (l := L) rfl (fun _ _ => rfl), ?_⟩
      cases nz
      · (repeat' ((conv => whnf); (first | (with_reducible first | apply spl | apply spl') <;> intro hc <;> try (exfalso; omega) | with_reducible refine iJ fun hc => ?_ | refine vcq (k := ?_) | refine dr 6 (k := ?_)))); all_goals ((try conv => whnf); try with_reducible exact trivial)
      · (repeat' ((conv => whnf); (first | (with_reducible first | apply spl | apply spl') <;> intro hc <;> try (exfalso; omega) | with_reducible refine iJ fun hc => ?_ | refine vcq (k := ?_) | refine dr 6 (k := ?_)))); all_goals ((try conv => whnf); try with_reducible exact trivial)
noncomputable def addM (n : Nat) (L : List (Nat → Int)) (f : Nat → Int) : List (Nat → Int) := @ite _ (∃ g ∈ L, ∀ b, b < n → g b = f b) (Classical.propDecidable _) L (L ++ [f])
def mC (n : Nat) (f : Nat → Int) : List V := [.sl 1 n (iF f)]
theorem image61 (n : Nat) (hn : n ≤ 1000) (L : List (Nat → Int)) (hL : L.length ≤ 1000000) (f : Nat → Int) (nz : Bool) :
    Sx.Callee Try.prog 61 [.osl 0 L.length, .sl 1 n (iF f)] [.row 31 1 L.length (rowOf (mC n) (fun _ => 0) L) nz]
      (fun v H => v = .osl 1 (addM n L f).length ∧ H = [.gone, .row 31 1 (addM n L f).length (rowOf (mC n) (fun _ => 0) (addM n L f)) nz]) := by
  refine callee_ent Try.E_ok Try.func61 rfl (by kernel_rfl) ?_
  (repeat' ((conv => whnf); (first | (with_reducible first | apply spl | apply spl') <;> intro hc <;> try (exfalso; omega) | with_reducible refine iJ fun hc => ?_ | refine vcq (k := ?_) | refine dr 6 (k := ?_)))); all_goals ((try conv => whnf); try with_reducible exact trivial)
  refine ⟨Nat, fun i => i ≤ L.length ∧ ∀ j, j < i → ¬ ∀ b, b < n → L.getD j (fun _ => 0) b = f b, fun i => L.length - i, fun i => [(5, .int .i64 (i : Nat)), (14, .any)], fun _ => [], fun _ => [], 0, ⟨⟨by omega, fun b hb => by omega⟩, none, ?_⟩, ?_⟩
  · (repeat' ((conv => whnf); (first | (with_reducible first | apply spl | apply spl') <;> intro hc <;> try (exfalso; omega) | with_reducible refine iJ fun hc => ?_ | refine vcq (k := ?_) | refine dr 6 (k := ?_)))); all_goals ((try conv => whnf); try with_reducible exact trivial)
  · rintro i ⟨h1, h2⟩
    have hti : (i : Int).toNat = i := Int.toNat_natCast i
    (repeat' ((conv => whnf); (first | (with_reducible first | apply spl | apply spl') <;> intro hc <;> try (exfalso; omega) | with_reducible refine iJ fun hc => ?_ | refine vcq (k := ?_) | refine dr 6 (k := ?_)))); all_goals ((try conv => whnf); try with_reducible exact trivial)
    · have hi : i < L.length := by omega
      have hm : L.getD i (fun _ => 0) ∈ L := by simp [List.getD_eq_getElem?_getD, hi]
      refine callee_fo (sameInts83 n n (by omega) (by omega) (L.getD i (fun _ => 0)) f) rfl ?_
      rintro _ rfl
      (repeat' ((conv => whnf); (first | (with_reducible first | apply spl | apply spl') <;> intro hc <;> try (exfalso; omega) | with_reducible refine iJ fun hc => ?_ | refine vcq (k := ?_) | refine dr 6 (k := ?_)))); all_goals ((try conv => whnf); try with_reducible exact trivial)
      · have e : addM n L f = L := if_pos ⟨_, hm, hc.2⟩
        rw [e]
        refine ⟨_, _, ⟨rfl, rfl⟩, some [some 0, some 0], ?_⟩
        cases nz
        · (repeat' ((conv => whnf); (first | (with_reducible first | apply spl | apply spl') <;> intro hc <;> try (exfalso; omega) | with_reducible refine iJ fun hc => ?_ | refine vcq (k := ?_) | refine dr 6 (k := ?_)))); all_goals ((try conv => whnf); try with_reducible exact trivial)
        · (repeat' ((conv => whnf); (first | (with_reducible first | apply spl | apply spl') <;> intro hc <;> try (exfalso; omega) | with_reducible refine iJ fun hc => ?_ | refine vcq (k := ?_) | refine dr 6 (k := ?_)))); all_goals ((try conv => whnf); try with_reducible exact trivial)
      · refine ⟨i + 1, ⟨⟨by omega, fun j hj => ?_⟩, by dsimp only; omega⟩, none, ?_⟩
        · rcases Nat.lt_or_eq_of_le (show j ≤ i by omega) with h | rfl
          · exact h2 j h
          · exact fun g => hc ⟨rfl, g⟩
        · (repeat' ((conv => whnf); (first | (with_reducible first | apply spl | apply spl') <;> intro hc <;> try (exfalso; omega) | with_reducible refine iJ fun hc => ?_ | refine vcq (k := ?_) | refine dr 6 (k := ?_)))); all_goals ((try conv => whnf); try with_reducible exact trivial)
    · have e : addM n L f = L ++ [f] := if_neg (by
        rintro ⟨t, ht, hsm⟩
        obtain ⟨j, hj, rfl⟩ := List.getElem_of_mem ht
        refine h2 j (by omega) ?_
        have : L.getD j (fun _ => 0) = L[j] := by simp [List.getD_eq_getElem?_getD, hj]
        rw [this]
        exact hsm)
      rw [e]
      refine ⟨_, _, ⟨rfl, rfl⟩, some [some 0, some 2], ?_⟩
      (repeat' ((conv => whnf); (first | (with_reducible first | apply spl | apply spl') <;> intro hc <;> try (exfalso; omega) | with_reducible refine iJ fun hc => ?_ | refine vcq (k := ?_) | refine dr 6 (k := ?_)))); all_goals ((try conv => whnf); try with_reducible exact trivial)
      refine ⟨by simp, by simp, rowOf_snoc (c := mC n) (a := f) (l := L) rfl (fun _ _ => rfl), ?_⟩
      cases nz
      · (repeat' ((conv => whnf); (first | (with_reducible first | apply spl | apply spl') <;> intro hc <;> try (exfalso; omega) | with_reducible refine iJ fun hc => ?_ | refine vcq (k := ?_) | refine dr 6 (k := ?_)))); all_goals ((try conv => whnf); try with_reducible exact trivial)
      · (repeat' ((conv => whnf); (first | (with_reducible first | apply spl | apply spl') <;> intro hc <;> try (exfalso; omega) | with_reducible refine iJ fun hc => ?_ | refine vcq (k := ?_) | refine dr 6 (k := ?_)))); all_goals ((try conv => whnf); try with_reducible exact trivial)
end Go.Proofs


namespace Go.Proofs
open Go Go.Sx
set_option maxRecDepth 100000
set_option maxHeartbeats 40000000
def RS.run (n : Nat) (l : List (Int × Int)) : Nat → RS
  | 0 => RS.begin
  | k + 1 => (RS.run n l k).order n k (l.getD k (0, 0))
theorem Cache.Ok.blkn {x : Cache} (hx : x.Ok) {n : Nat} (hn : x.n = n) {k : Nat} (hk : k < x.l.length) : (x.l.getD k (0, 0)).1 = 1 ∨ (x.l.getD k (0, 0)).1 = 2 → 0 ≤ (x.l.getD k (0, 0)).2 ∧ (x.l.getD k (0, 0)).2 < n := by
  intro g
  have := hx.ord _ (show x.l.getD k (0, 0) ∈ x.l by
    rw [show x.l.getD k (0, 0) = x.l[k] by simp [List.getD_eq_getElem?_getD, hk]]
    exact List.getElem_mem hk)
  unfold Cache.OkO at this
  omega
theorem Sim.run {x : Cache} (hx : x.Ok) {n : Nat} (hn : x.n = n) : ∀ k, k ≤ x.l.length → Sim n (RS.run n x.l k) (runU x.l k)
  | 0, _ => Sim.begin (by have := hx.n; omega)
  | k + 1, hk => by
    have hl : 0 < (runU x.l k).E.length := by rw [((runU_rch x k (by omega)).inv hx).len]; omega
    exact (Sim.run hx hn k (by omega)).order (by have := hx.n; omega) hl (by omega) (hx.blkn hn (by omega))
theorem Sim.bnd {x : Cache} (hx : x.Ok) {n : Nat} (hn : x.n = n) {k : Nat} {r : RS} {u : PS} {D : List (Int × Int)} (hs : Sim n r u) (h2 : RchU x k u D) : 0 ≤ r.W ∧ r.W ≤ k ∧ 0 < r.E.length ∧ r.E.length ≤ k + 1 ∧ 0 ≤ r.entries n ∧ r.entries n ≤ k := by
  have hi := h2.inv hx
  have h3 := cntL_nonneg u.E
  have h1 := hi.tot
  have h4 := hi.len
  have h5 := nb_le x k
  have h6 := hi.D
  have h7 := hs.W
  have h8 := hs.len
  have h9 := hs.entries (by have := hx.n; omega)
  unfold PS.tot at h1
  omega
end Go.Proofs


namespace Go.Proofs
open Go Go.Sx
set_option maxRecDepth 100000
set_option maxHeartbeats 4000000
namespace PS.same
theorem orderU {s s' : PS} (h : s.same s') (n : Int) (o : Int × Int) : (s.orderU n o).same (s'.orderU n o) := by
  unfold PS.orderU
  rw [h.len]
  split
  · exact h.put _ _
  split
  · exact ((h.put _ _).wrE _).wr _ _
  split
  · exact ⟨h.1, by show s.E ++ _ = s'.E ++ _; rw [h.2]⟩
  split
  · exact h.wrE _
  · exact h
theorem drainU {s s' : PS} (h : s.same s') (b : Nat) : (s.drainU b).same (s'.drainU b) := by
  unfold PS.drainU
  rw [h.2]
  exact h.wr _ _
end PS.same
theorem rI_inj {a b : Int} (ha : a = -3 ∨ 0 ≤ a) (hb : b = -3 ∨ 0 ≤ b) (h : rI a = rI b) : a = b := by unfold rI at h; split at h <;> split at h <;> omega
theorem Sim.same_iff {x : Cache} (hx : x.Ok) {n : Nat} (hn : x.n = n) {k : Nat} (hk : k ≤ x.l.length) {r r' : RS} {u u' : PS} (h : Sim n r u) (h' : Sim n r' u') (hi : InvC x k u) (hi' : InvC x k u') : RS.same n r r' ↔ u.same u' := by
  have hn6 := hx.n
  have hi3 : ∀ {u : PS}, InvC x k u → ∀ b, n ≤ b → b < 6 → u.M.get b = -1 := fun hi b h1 h2 => by
    rcases hi.med b h2 with g | ⟨q, g1, _, g2, g4⟩
    · exact g
    · have := hx.blkn hn (show q < x.l.length by omega) g2
      omega
  constructor
  · rintro ⟨h1, h2, h3⟩
    refine ⟨C6.ext' fun b hb => ?_, List.ext_getElem (by rw [← h.len, ← h'.len, h2]) fun e g1 g2 => C6.ext' fun b hb => ?_⟩
    · by_cases hbn : b < n
      · rw [← h.M b hbn, ← h'.M b hbn, h1 b hbn]
      · rw [hi3 hi b (by omega) hb, hi3 hi' b (by omega) hb]
    · have e1 : u.ep e = u.E[e] := by unfold PS.ep; simp [List.getD_eq_getElem?_getD, g1]
      have e2 : u'.ep e = u'.E[e] := by unfold PS.ep; simp [List.getD_eq_getElem?_getD, g2]
      rw [← e1, ← e2]
      by_cases hbn : b < n
      · have := h3 e (by rw [h.len]; exact g1) b hbn
        rw [h.ep e b hbn, h'.ep e b hbn] at this
        exact rI_inj (h.nn e b hb) (h'.nn e b hb) this
      · rw [h.hi e b (by omega) hb, h'.hi e b (by omega) hb]
  · rintro ⟨h1, h2⟩
    refine ⟨fun b hb => by rw [h.M b hb, h'.M b hb, h1], by rw [h.len, h'.len, h2], fun e _ b hb => ?_⟩
    have : u.ep e = u'.ep e := by unfold PS.ep; rw [h2]
    rw [h.ep e b hb, h'.ep e b hb, this]
def GdR (x : Cache) (n k : Nat) (r : RS) : Prop := ∃ u D, RchU x k u D ∧ Sim n r u
namespace GdR
variable {x : Cache} {n k : Nat} {r : RS}
theorem bnd (hx : x.Ok) (hn : x.n = n) (h : GdR x n k r) : 0 ≤ r.W ∧ r.W ≤ k ∧ 0 < r.E.length ∧ r.E.length ≤ k + 1 := by
  obtain ⟨u, D, h1, h2⟩ := h
  have := h2.bnd hx hn h1
  omega
theorem begin (hx : x.Ok) (hn : x.n = n) : GdR x n 0 RS.begin := ⟨_, _, .begin, Sim.begin (by have := hx.n; omega)⟩
theorem drain (hx : x.Ok) (hn : x.n = n) (h : GdR x n k r) {b : Nat} (hc : canR n r b) : GdR x n k (drS n r b) := by
  have hn6 := hx.n
  obtain ⟨u, D, h1, h2⟩ := h
  have hc2 := (h2.canR_iff (by omega)).1 hc
  exact ⟨_, _, h1.drain (b := b) (by omega) hc2.2.2, h2.drain' (by omega) hc⟩
theorem order (hx : x.Ok) (hn : x.n = n) (h : GdR x n k r) (hk : k < x.l.length) : GdR x n (k + 1) (r.order n k (x.l.getD k (0, 0))) := by
  have hn6 := hx.n
  obtain ⟨u, D, h1, h2⟩ := h
  exact ⟨_, _, h1.order hk, h2.order (by omega) (by rw [(h1.inv hx).len]; omega) (by omega) (hx.blkn hn hk)⟩
end GdR
theorem capR {x : Cache} (hx : x.Small) {n : Nat} (hn : x.n = n) (k : Nat) (L : List RS) (hL : ∀ r ∈ L, GdR x n k r) (hnd : L.Pairwise fun a c => ¬ RS.same n a c) : L.length ≤ 65536 := by
  classical
  let uO : RS → PS := fun r => if h : GdR x n k r then h.choose else PS.begin
  have hu : ∀ r ∈ L, (∃ D, RchU x k (uO r) D) ∧ Sim n r (uO r) := fun r hr => by
    have hg := hL r hr
    show (∃ D, RchU x k (if h : GdR x n k r then h.choose else PS.begin) D) ∧ Sim n r (if h : GdR x n k r then h.choose else PS.begin)
    rw [dif_pos hg]
    obtain ⟨D, h1, h2⟩ := hg.choose_spec
    exact ⟨⟨D, h1⟩, h2⟩
  have h1 : (L.map fun r => codeU x (uO r)).Nodup := by
    rw [List.Nodup, List.pairwise_map]
    refine List.Pairwise.imp_of_mem ?_ hnd
    intro a b ha hb hne hc
    obtain ⟨⟨D, ga⟩, sa⟩ := hu a ha
    obtain ⟨⟨D', gb⟩, sb⟩ := hu b hb
    have hs := code_inj hx.ok hx.n hx.l ga.le (ga.inv hx.ok) (gb.inv hx.ok) hc
    exact hne ((Sim.same_iff hx.ok hn ga.le sa sb (ga.inv hx.ok).inv (gb.inv hx.ok).inv).2 hs)
  have := nodup_length_le (m := List.range 65536) h1 (fun c hc => by
    obtain ⟨r, hr, rfl⟩ := List.mem_map.1 hc
    obtain ⟨⟨D, ga⟩, _⟩ := hu r hr
    exact List.mem_range.2 (code_lt hx.l ga.le (ga.inv hx.ok).inv))
  simpa using this
structure LstR (x : Cache) (n k : Nat) (L : List RS) : Prop where
  good : ∀ r ∈ L, GdR x n k r
  nd : L.Pairwise fun a c => ¬ RS.same n a c
theorem LstR.nil (x : Cache) (n k : Nat) : LstR x n k [] := ⟨by simp, by simp⟩
theorem mem_addR {n : Nat} {L : List RS} {s t : RS} : t ∈ addR n L s → t ∈ L ∨ t = s := by
  unfold addR
  split
  · exact .inl
  · intro h; rcases List.mem_append.1 h with h | h
    · exact .inl h
    · exact .inr (by simpa using h)
theorem addR_pre (n : Nat) (L : List RS) (s : RS) : L <+: addR n L s := by
  unfold addR
  split
  · exact List.prefix_rfl
  · exact List.prefix_append _ _
theorem RS.same_rfl (n : Nat) (s : RS) : RS.same n s s := ⟨fun _ _ => rfl, rfl, fun _ _ _ _ => rfl⟩
theorem addR_has (n : Nat) (L : List RS) (s : RS) : ∃ t ∈ addR n L s, RS.same n t s := by
  unfold addR
  split
  · assumption
  · exact ⟨s, by simp, RS.same_rfl n s⟩
theorem LstR.add {x : Cache} {n k : Nat} {L : List RS} (h : LstR x n k L) {s : RS} (hs : GdR x n k s) : LstR x n k (addR n L s) := by
  refine ⟨fun t ht => (mem_addR ht).elim (h.good t) fun e => e ▸ hs, ?_⟩
  unfold addR
  split
  · exact h.nd
  · rename_i hno
    rw [List.pairwise_append]
    refine ⟨h.nd, by simp, fun a ha c hc => ?_⟩
    simp only [List.mem_singleton] at hc
    subst hc
    exact fun g => hno ⟨a, ha, g⟩
theorem getR {L : List RS} {i : Nat} (h : i < L.length) : L.getD i RS.begin = L[i] := by simp [List.getD_eq_getElem?_getD, h]
theorem getR_mem {L : List RS} {i : Nat} (h : i < L.length) : L.getD i RS.begin ∈ L := by rw [getR h]; exact List.getElem_mem h
theorem getR_pre {L L' : List RS} (hp : L <+: L') {i : Nat} (h : i < L.length) : L'.getD i RS.begin = L.getD i RS.begin := by
  obtain ⟨t, rfl⟩ := hp
  simp only [List.getD_eq_getElem?_getD]
  rw [List.getElem?_append_left h]
structure ClR (x : Cache) (n k : Nat) (L0 L : List RS) (i b : Nat) : Prop where
  pre : L0 <+: L
  ok : LstR x n k L
  le : i ≤ L.length
  lt : 0 < b → i < L.length
  all : ∀ j, j < L.length → ∀ b', (j < i ∧ b' < n ∨ j = i ∧ b' < b) → canR n (L.getD j RS.begin) (b' : Nat) → ∃ t ∈ L, RS.same n t (drS n (L.getD j RS.begin) (b' : Nat))
namespace ClR
variable {x : Cache} {n k : Nat} {L0 L : List RS} {i b : Nat}
theorem start (h : LstR x n k L0) : ClR x n k L0 L0 0 0 := ⟨List.prefix_rfl, h, by omega, by omega, fun j _ b' h => by omega⟩
theorem skip (h : ClR x n k L0 L i b) (hi : i < L.length) (hc : ¬ canR n (L.getD i RS.begin) (b : Nat)) : ClR x n k L0 L i (b + 1) :=
  ⟨h.pre, h.ok, h.le, fun _ => hi, fun j hj b' hb hcan => by
    rcases Nat.lt_or_ge j i with h1 | h1
    · exact h.all j hj b' (.inl ⟨h1, by omega⟩) hcan
    · obtain rfl : j = i := by omega
      rcases Nat.lt_or_eq_of_le (show b' ≤ b by omega) with h2 | rfl
      · exact h.all j hj b' (.inr ⟨rfl, h2⟩) hcan
      · exact absurd hcan hc⟩
theorem add (hx : x.Ok) (hn : x.n = n) (h : ClR x n k L0 L i b) (hi : i < L.length) (hc : canR n (L.getD i RS.begin) (b : Nat)) : ClR x n k L0 (addR n L (drS n (L.getD i RS.begin) (b : Nat))) i (b + 1) := by
  have hp := addR_pre n L (drS n (L.getD i RS.begin) (b : Nat))
  have hl := hp.length_le
  have hh := addR_has n L (drS n (L.getD i RS.begin) (b : Nat))
  have hok := h.ok.add ((h.ok.good _ (getR_mem hi)).drain hx hn hc)
  have hold : ∀ j, j < L.length → ∀ b', (j < i ∧ b' < n ∨ j = i ∧ b' < b) → canR n (L.getD j RS.begin) (b' : Nat) → ∃ t ∈ addR n L (drS n (L.getD i RS.begin) (b : Nat)), RS.same n t (drS n (L.getD j RS.begin) (b' : Nat)) := fun j hj b' hb hcan => by
    obtain ⟨t, h1, h2⟩ := h.all j hj b' hb hcan
    exact ⟨t, hp.subset h1, h2⟩
  refine ⟨h.pre.trans hp, hok, by have := h.le; omega, fun _ => by omega, fun j hj b' hb hcan => ?_⟩
  have hji : j < L.length := by omega
  rw [getR_pre hp hji] at hcan ⊢
  rcases Nat.lt_or_ge j i with h1 | h1
  · exact hold j hji b' (.inl ⟨h1, by omega⟩) hcan
  · obtain rfl : j = i := by omega
    rcases Nat.lt_or_eq_of_le (show b' ≤ b by omega) with h2 | rfl
    · exact hold j hji b' (.inr ⟨rfl, h2⟩) hcan
    · exact hh
theorem next (h : ClR x n k L0 L i n) (hi : i < L.length) : ClR x n k L0 L (i + 1) 0 :=
  ⟨h.pre, h.ok, by omega, by omega, fun j hj b' hb hcan => by
    rcases Nat.lt_or_eq_of_le (show j ≤ i by omega) with h1 | rfl
    · exact h.all j hj b' (.inl ⟨h1, by omega⟩) hcan
    · exact h.all j hj b' (.inr ⟨rfl, by omega⟩) hcan⟩
end ClR
def Stands (x : Cache) (n k : Nat) (r : RS) (u : PS) : Prop := ∃ u' D', RchU x k u' D' ∧ Sim n r u' ∧ u'.same u
def CoverR (x : Cache) (n k : Nat) (L : List RS) : Prop := ∀ u D, RchU x k u D → ∃ r ∈ L, Stands x n k r u
structure EntR (x : Cache) (n k : Nat) (L : List RS) : Prop where
  ok : LstR x n k L
  ne : 0 < L.length
  all : ∀ L', ClR x n k L L' L'.length 0 → CoverR x n k L'
theorem cover_ofR {x : Cache} (hx : x.Ok) {n : Nat} (hn : x.n = n) {k : Nat} {L L' : List RS} (hc : ClR x n k L L' L'.length 0)
    (he : ∀ u D, RchU x k u D → (k = 0 ∧ u = PS.begin) ∨ (∃ k' u' D', k = k' + 1 ∧ RchU x k' u' D' ∧ k' < x.l.length ∧ u = u'.orderU k' (x.l.getD k' (0, 0))) → ∃ r ∈ L, Stands x n k r u) : CoverR x n k L' := by
  have hn6 := hx.n
  intro u D h
  induction h with
  | begin =>
    obtain ⟨t, h1, h2⟩ := he _ _ .begin (.inl ⟨rfl, rfl⟩)
    exact ⟨t, hc.pre.subset h1, h2⟩
  | @drain k u D b hr hb hcan ih =>
    obtain ⟨r, h1, u', D', h2, h3, h4⟩ := ih hc he
    obtain ⟨i, hi, rfl⟩ := List.getElem_of_mem h1
    have hcan' := h4.can.2 hcan
    have hcr : canR n L'[i] (b : Nat) := (h3.canR_iff (by omega)).2 ⟨by omega, by omega, hcan'⟩
    rw [← getR hi] at hcr h3
    obtain ⟨t, h5, h6⟩ := hc.all i hi b (.inl ⟨hi, by omega⟩) hcr
    obtain ⟨v, Dv, h7, h8⟩ := hc.ok.good t h5
    have h9 : Sim n (drS n (L'.getD i RS.begin) (b : Nat)) (u'.drainU b) := h3.drain' (by omega) hcr
    have h10 := h2.drain (b := b) hb hcan'
    have h11 := (Sim.same_iff hx hn h7.le h8 h9 (h7.inv hx).inv (h10.inv hx).inv).1 h6
    exact ⟨t, h5, v, Dv, h7, h8, h11.trans (h4.drainU b)⟩
  | @order k u D hr hk ih =>
    obtain ⟨t, h1, h2⟩ := he _ _ (.order hr hk) (.inr ⟨k, u, D, rfl, hr, hk, rfl⟩)
    exact ⟨t, hc.pre.subset h1, h2⟩
theorem EntR.begin {x : Cache} (hx : x.Ok) {n : Nat} (hn : x.n = n) : EntR x n 0 [RS.begin] := by
  refine ⟨⟨fun r hr => by rw [List.mem_singleton.1 hr]; exact GdR.begin hx hn, by simp⟩, by simp, fun L' hc => cover_ofR hx hn hc ?_⟩
  rintro u D hr (⟨_, rfl⟩ | ⟨k', u', D', h0, _⟩)
  · exact ⟨RS.begin, by simp, _, _, hr, Sim.begin (by have := hx.n; omega), rfl, rfl⟩
  · omega
structure NxR (x : Cache) (n k : Nat) (L N : List RS) (j : Nat) : Prop where
  ok : LstR x n (k + 1) N
  all : ∀ i, i < j → ∃ t ∈ N, RS.same n t ((L.getD i RS.begin).order n k (x.l.getD k (0, 0)))
namespace NxR
variable {x : Cache} {n k : Nat} {L N : List RS} {j : Nat}
theorem start : NxR x n k L [] 0 := ⟨LstR.nil _ _ _, fun i hi => by omega⟩
theorem add (hx : x.Ok) (hn : x.n = n) (h : NxR x n k L N j) (hj : GdR x n k (L.getD j RS.begin)) (hk : k < x.l.length) : NxR x n k L (addR n N ((L.getD j RS.begin).order n k (x.l.getD k (0, 0)))) (j + 1) := by
  refine ⟨h.ok.add (hj.order hx hn hk), fun i hi => ?_⟩
  rcases Nat.lt_or_eq_of_le (show i ≤ j by omega) with h1 | rfl
  · obtain ⟨t, h2, h3⟩ := h.all i h1
    exact ⟨t, (addR_pre _ _ _).subset h2, h3⟩
  · exact addR_has _ _ _
theorem entry (hx : x.Ok) (hn : x.n = n) (h : NxR x n k L N L.length) (hL : LstR x n k L) (hk : k < x.l.length) (hpos : 0 < L.length) (hcov : CoverR x n k L) : EntR x n (k + 1) N := by
  have hn6 := hx.n
  refine ⟨h.ok, ?_, fun L'' hc => cover_ofR hx hn hc ?_⟩
  · obtain ⟨t, h1, _⟩ := h.all 0 hpos
    exact List.length_pos_of_mem h1
  · rintro u D hr (⟨h0, _⟩ | ⟨k', u', D', h0, hr', hk', rfl⟩)
    · omega
    · obtain rfl : k' = k := by omega
      obtain ⟨r, h1, v, Dv, h2, h3, h4⟩ := hcov u' D' hr'
      obtain ⟨i, hi, rfl⟩ := List.getElem_of_mem h1
      obtain ⟨t, h5, h6⟩ := h.all i hi
      rw [← getR hi] at h3
      obtain ⟨w, Dw, h7, h8⟩ := h.ok.good t h5
      have h9 : Sim n ((L.getD i RS.begin).order n k' (x.l.getD k' (0, 0))) (v.orderU k' (x.l.getD k' (0, 0))) := h3.order (by omega) (by rw [(h2.inv hx).len]; omega) (by omega) (hx.blkn hn hk)
      have h10 := h2.order hk
      have h11 := (Sim.same_iff hx hn h7.le h8 h9 (h7.inv hx).inv (h10.inv hx).inv).1 h6
      exact ⟨t, h5, w, Dw, h7, h8, h11.trans (h4.orderU _ _)⟩
end NxR
end Go.Proofs


namespace Go.Proofs
open Go Go.Sx
set_option maxRecDepth 100000
set_option maxHeartbeats 40000000
theorem ends82 (x : Cache) (hx : x.Small) (n : Nat) (hn : x.n = n) : PureC Try.prog 82 true [x.v] (fun r => ∃ L : List RS, (LstR x n x.l.length L ∧ 0 < L.length ∧ CoverR x n x.l.length L) ∧ r = .sl 3 L.length (rowOf (RS.c n) RS.begin L)) := by
  have hn6 := hx.ok.n
  have hn3 := hx.n
  have hl7 := hx.l
  refine pureC_of_exec Try.E_ok Try.func82 rfl (by kernel_rfl) ?_
  (repeat' ((conv => whnf); (first | (with_reducible first | apply spl | apply spl') <;> intro hc <;> try (exfalso; omega) | with_reducible refine iJ fun hc => ?_ | refine vcq (k := ?_) | refine dr 13 (k := ?_)))); all_goals ((try conv => whnf); try with_reducible exact trivial)
  refine callee_fo (begin16 x n hn (by omega)) rfl ?_
  rintro _ rfl
  (repeat' ((conv => whnf); (first | (with_reducible first | apply spl | apply spl') <;> intro hc <;> try (exfalso; omega) | with_reducible refine iJ fun hc => ?_ | refine vcq (k := ?_) | refine dr 13 (k := ?_)))); all_goals ((try conv => whnf); try with_reducible exact trivial)
  refine ⟨Nat × List RS, fun q => q.1 ≤ x.l.length ∧ EntR x n q.1 q.2, fun q => x.l.length - q.1, fun q => [(4, .int .i64 (q.1 : Nat)), (3, .osl 2 q.2.length)], fun q => [(1, .gone)], fun q => [.row 34 3 q.2.length (rowOf (RS.c n) RS.begin q.2) false], (0, [RS.begin]), ⟨⟨by dsimp only; omega, EntR.begin hx.ok hn⟩, some [some 0, some 1, some 1], ?_⟩, ?_⟩
  · (repeat' ((conv => whnf); (first | (with_reducible first | apply spl | apply spl') <;> intro hc <;> try (exfalso; omega) | with_reducible refine iJ fun hc => ?_ | refine vcq (k := ?_) | refine dr 13 (k := ?_) | refine dr 2005 (k := ?_)))); all_goals ((try conv => whnf); try with_reducible exact trivial)
    refine ⟨fun i hi => by obtain rfl : i = 0 := by omega
                           rfl, ?_⟩
    (repeat' ((conv => whnf); (first | (with_reducible first | apply spl | apply spl') <;> intro hc <;> try (exfalso; omega) | with_reducible refine iJ fun hc => ?_ | refine vcq (k := ?_) | refine dr 13 (k := ?_) | refine dr 2005 (k := ?_)))); all_goals ((try conv => whnf); try with_reducible exact trivial)
  · rintro ⟨k, L⟩ ⟨hk, hent⟩
    dsimp only at hk hent
    have hcapL := capR hx hn k L hent.ok.good hent.ok.nd
    (repeat' ((conv => whnf); (first | (with_reducible first | apply spl | apply spl') <;> intro hc <;> try (exfalso; omega) | with_reducible refine iJ fun hc => ?_ | refine vcq (k := ?_) | refine dr 13 (k := ?_)))); all_goals ((try conv => whnf); try with_reducible exact trivial)
    · refine ⟨Nat × List RS, fun q => ClR x n k L q.2 q.1 0, fun q => 65536 - q.1, fun q => [(5, .int .i64 (q.1 : Nat)), (3, .osl 3 q.2.length)], fun q => [(2, .gone)], fun q => [.row 34 3 q.2.length (rowOf (RS.c n) RS.begin q.2) false], (0, L), ⟨ClR.start hent.ok, some [some 0, some 1, some 2, some 2], ?_⟩, ?_⟩
      · (repeat' ((conv => whnf); (first | (with_reducible first | apply spl | apply spl') <;> intro hc <;> try (exfalso; omega) | with_reducible refine iJ fun hc => ?_ | refine vcq (k := ?_) | refine dr 13 (k := ?_) | refine dr 2005 (k := ?_)))); all_goals ((try conv => whnf); try with_reducible exact trivial)
      · rintro ⟨i, L1⟩ hcl
        dsimp only at hcl
        have hcap1 := capR hx hn k L1 hcl.ok.good hcl.ok.nd
        have hle := hcl.le
        (repeat' ((conv => whnf); (first | (with_reducible first | apply spl | apply spl') <;> intro hc <;> try (exfalso; omega) | with_reducible refine iJ fun hc => ?_ | refine vcq (k := ?_) | refine dr 13 (k := ?_)))); all_goals ((try conv => whnf); try with_reducible exact trivial)
        · have hi : i < L1.length := by dsimp only at hc; omega
          refine ⟨Nat × List RS, fun q => q.1 ≤ n ∧ ClR x n k L q.2 i q.1 ∧ i < q.2.length, fun q => n - q.1, fun q => [(6, .int .i64 (q.1 : Nat)), (3, .osl 4 q.2.length)], fun q => [(3, .gone)], fun q => [.row 34 3 q.2.length (rowOf (RS.c n) RS.begin q.2) false], (0, L1), ⟨⟨by dsimp only; omega, hcl, hi⟩, some [some 0, some 1, some 2, some 3, some 3], ?_⟩, ?_⟩
          · (repeat' ((conv => whnf); (first | (with_reducible first | apply spl | apply spl') <;> intro hc <;> try (exfalso; omega) | with_reducible refine iJ fun hc => ?_ | refine vcq (k := ?_) | refine dr 13 (k := ?_) | refine dr 2005 (k := ?_)))); all_goals ((try conv => whnf); try with_reducible exact trivial)
          · clear hcl hle hi hcap1 hc
            rintro ⟨b, L2⟩ ⟨hb, hcl, hi⟩
            dsimp only at hb hcl hi
            have hcap2 := capR hx hn k L2 hcl.ok.good hcl.ok.nd
            have hg := hcl.ok.good _ (getR_mem hi)
            have hbn := hg.bnd hx.ok hn
            have hti : (i : Int).toNat = i := Int.toNat_natCast i
            (repeat' ((conv => whnf); (first | (with_reducible first | apply spl | apply spl') <;> intro hc <;> try (exfalso; omega) | with_reducible refine iJ fun hc => ?_ | refine vcq (k := ?_) | refine dr 13 (k := ?_)))); all_goals ((try conv => whnf); try with_reducible exact trivial)
            · have hb1 : b < n := by dsimp only at hc; omega
              refine callee_fo (Drained17d n (by omega) (L2.getD i RS.begin) (by omega) (by omega) b) rfl ?_
              rintro _ rfl
              (repeat' ((conv => whnf); (first | (with_reducible first | apply spl | apply spl') <;> intro hc <;> try (exfalso; omega) | with_reducible refine iJ fun hc => ?_ | refine vcq (k := ?_) | refine dr 13 (k := ?_)))); all_goals ((try conv => whnf); try with_reducible exact trivial)
              · refine callee_frame [4] (added95 n (by omega) L2 (by omega) (fun t ht => by have := (hcl.ok.good t ht).bnd hx.ok hn; omega) (drS n (L2.getD i RS.begin) b) (by have := (hg.drain hx.ok hn hc).bnd hx.ok hn; omega) false) rfl ?_ ?_
                · (repeat' ((conv => whnf); (first | (with_reducible first | apply spl | apply spl') <;> intro hc <;> try (exfalso; omega) | with_reducible refine iJ fun hc => ?_ | refine vcq (k := ?_) | refine dr 13 (k := ?_) | refine dr 2005 (k := ?_)))); all_goals ((try conv => whnf); try with_reducible exact trivial)
                · rintro _ _ ⟨rfl, rfl⟩
                  have hcl' := hcl.add hx.ok hn hi hc
                  have hlt' := hcl'.lt (by omega)
                  generalize addR n L2 (drS n (L2.getD i RS.begin) b) = L3 at hcl' hlt' ⊢
                  (repeat' ((conv => whnf); (first | (with_reducible first | apply spl | apply spl') <;> intro hc <;> try (exfalso; omega) | with_reducible refine iJ fun hc => ?_ | refine vcq (k := ?_) | refine dr 13 (k := ?_) | refine dr 2005 (k := ?_)))); all_goals ((try conv => whnf); try with_reducible exact trivial)
                  refine ⟨(b + 1, L3), ⟨⟨by dsimp only; omega, hcl', hlt'⟩, by dsimp only; omega⟩, some [some 0, some 1, some 2, some 3, some 6], ?_⟩
                  (repeat' ((conv => whnf); (first | (with_reducible first | apply spl | apply spl') <;> intro hc <;> try (exfalso; omega) | with_reducible refine iJ fun hc => ?_ | refine vcq (k := ?_) | refine dr 13 (k := ?_) | refine dr 2005 (k := ?_)))); all_goals ((try conv => whnf); try with_reducible exact trivial)
              · have hcl' := hcl.skip hi hc
                refine ⟨(b + 1, L2), ⟨⟨by dsimp only; omega, hcl', hi⟩, by dsimp only; omega⟩, some [some 0, some 1, some 2, some 3, some 4], ?_⟩
                (repeat' ((conv => whnf); (first | (with_reducible first | apply spl | apply spl') <;> intro hc <;> try (exfalso; omega) | with_reducible refine iJ fun hc => ?_ | refine vcq (k := ?_) | refine dr 13 (k := ?_) | refine dr 2005 (k := ?_)))); all_goals ((try conv => whnf); try with_reducible exact trivial)
            · have hbe : b = n := by dsimp only at hc; omega
              subst hbe
              have hcl' := hcl.next hi
              refine ⟨(i + 1, L2), ⟨hcl', by dsimp only; omega⟩, some [some 0, some 1, some 2, some 4], ?_⟩
              (repeat' ((conv => whnf); (first | (with_reducible first | apply spl | apply spl') <;> intro hc <;> try (exfalso; omega) | with_reducible refine iJ fun hc => ?_ | refine vcq (k := ?_) | refine dr 13 (k := ?_) | refine dr 2005 (k := ?_)))); all_goals ((try conv => whnf); try with_reducible exact trivial)
        · have hie : i = L1.length := by have := (show ¬ ((i : Int) < L1.length) from by assumption); omega
          have hke : k = x.l.length := by have := (show ((k : Int) = x.l.length) from by assumption); omega
          subst hie hke
          have hcov := hent.all _ hcl
          have hne : 0 < L1.length := by have := hcl.pre.length_le; have := hent.ne; omega
          refine ⟨_, ⟨L1, ⟨hcl.ok, hne, hcov⟩, rfl⟩, ?_⟩
          (repeat' ((conv => whnf); (first | (with_reducible first | apply spl | apply spl') <;> intro hc <;> try (exfalso; omega) | with_reducible refine iJ fun hc => ?_ | refine vcq (k := ?_) | refine dr 13 (k := ?_) | refine dr 2005 (k := ?_)))); all_goals ((try conv => whnf); try with_reducible exact trivial)
        · have hie : i = L1.length := by have := (show ¬ ((i : Int) < L1.length) from by assumption); omega
          have hke : ¬ k = x.l.length := by have := (show ¬ ((k : Int) = x.l.length) from by assumption); omega
          subst hie
          have hcov := hent.all _ hcl
          have hne : 0 < L1.length := by have := hcl.pre.length_le; have := hent.ne; omega
          have hkl : k < x.l.length := by omega
          refine ⟨Nat × List RS, fun q => q.1 ≤ L1.length ∧ NxR x n k L1 q.2 q.1, fun q => L1.length - q.1, fun q => [(10, .int .i64 (q.1 : Nat)), (9, .osl 4 q.2.length)], fun q => [], fun q => [.row 34 3 q.2.length (rowOf (RS.c n) RS.begin q.2) true], (0, []), ⟨⟨by dsimp only; omega, NxR.start⟩, some [some 0, some 1, some 2, some 3, none], ?_⟩, ?_⟩
          · (repeat' ((conv => whnf); (first | (with_reducible first | apply spl | apply spl') <;> intro hc <;> try (exfalso; omega) | with_reducible refine iJ fun hc => ?_ | refine vcq (k := ?_) | refine dr 13 (k := ?_) | refine dr 2005 (k := ?_)))); all_goals ((try conv => whnf); try with_reducible exact trivial)
          · rintro ⟨j, N⟩ ⟨hj, hnx⟩
            dsimp only at hj hnx
            have hcapN := capR hx hn (k + 1) N hnx.ok.good hnx.ok.nd
            (repeat' ((conv => whnf); (first | (with_reducible first | apply spl | apply spl') <;> intro hc <;> try (exfalso; omega) | with_reducible refine iJ fun hc => ?_ | refine vcq (k := ?_) | refine dr 12 (k := ?_)))); all_goals ((try conv => whnf); try with_reducible exact trivial)
            · have hj1 : j < L1.length := by dsimp only at hc; omega
              have hgj := hcl.ok.good _ (getR_mem hj1)
              have hbj := hgj.bnd hx.ok hn
              have hord := hgj.order hx.ok hn hkl
              have hbo := hord.bnd hx.ok hn
              refine pcall_intro (do18 n (by omega) (L1.getD j RS.begin) (by omega) (by omega) k (x.l.getD k (0, 0)) (hx.ok.blkn hn hkl)) rfl ?_
              (repeat' ((conv => whnf); (first | (with_reducible first | apply spl | apply spl') <;> intro hc <;> try (exfalso; omega) | with_reducible refine iJ fun hc => ?_ | refine vcq (k := ?_) | refine dr 12 (k := ?_)))); all_goals ((try conv => whnf); try with_reducible exact trivial)
              refine callee_frame [4] (added95 n (by omega) N (by omega) (fun t ht => by have := (hnx.ok.good t ht).bnd hx.ok hn; omega) ((L1.getD j RS.begin).order n k (x.l.getD k (0, 0))) (by omega) true) rfl ?_ ?_
              · (repeat' ((conv => whnf); (first | (with_reducible first | apply spl | apply spl') <;> intro hc <;> try (exfalso; omega) | with_reducible refine iJ fun hc => ?_ | refine vcq (k := ?_) | refine dr 13 (k := ?_) | refine dr 2005 (k := ?_)))); all_goals ((try conv => whnf); try with_reducible exact trivial)
              · rintro _ _ ⟨rfl, rfl⟩
                have hnx' := hnx.add hx.ok hn hgj hkl
                generalize addR n N ((L1.getD j RS.begin).order n k (x.l.getD k (0, 0))) = N' at hnx' ⊢
                (repeat' ((conv => whnf); (first | (with_reducible first | apply spl | apply spl') <;> intro hc <;> try (exfalso; omega) | with_reducible refine iJ fun hc => ?_ | refine vcq (k := ?_) | refine dr 13 (k := ?_) | refine dr 2005 (k := ?_)))); all_goals ((try conv => whnf); try with_reducible exact trivial)
                refine ⟨(j + 1, N'), ⟨⟨by dsimp only; omega, hnx'⟩, by dsimp only; omega⟩, some [some 0, some 1, some 2, some 3, some 5], ?_⟩
                (repeat' ((conv => whnf); (first | (with_reducible first | apply spl | apply spl') <;> intro hc <;> try (exfalso; omega) | with_reducible refine iJ fun hc => ?_ | refine vcq (k := ?_) | refine dr 13 (k := ?_) | refine dr 2005 (k := ?_)))); all_goals ((try conv => whnf); try with_reducible exact trivial)
            · have hje : j = L1.length := by dsimp only at hc; omega
              subst hje
              have hent' := hnx.entry hx.ok hn hcl.ok hkl hne hcov
              refine ⟨(k + 1, N), ⟨⟨by dsimp only; omega, hent'⟩, by dsimp only; omega⟩, some [some 0, some 1, some 4], ?_⟩
              (repeat' ((conv => whnf); (first | (with_reducible first | apply spl | apply spl') <;> intro hc <;> try (exfalso; omega) | with_reducible refine iJ fun hc => ?_ | refine vcq (k := ?_) | refine dr 13 (k := ?_) | refine dr 2005 (k := ?_)))); all_goals ((try conv => whnf); try with_reducible exact trivial)
              refine ⟨hent'.ne, ?_⟩
              (repeat' ((conv => whnf); (first | (with_reducible first | apply spl | apply spl') <;> intro hc <;> try (exfalso; omega) | with_reducible refine iJ fun hc => ?_ | refine vcq (k := ?_) | refine dr 13 (k := ?_) | refine dr 2005 (k := ?_)))); all_goals ((try conv => whnf); try with_reducible exact trivial)
end Go.Proofs


namespace Go.Proofs
open Go Go.Sx
set_option maxRecDepth 100000
set_option maxHeartbeats 40000000
theorem image61n (n : Nat) (hn : n ≤ 1000) (L : List (Nat → Int)) (hL : L.length ≤ 1000000) (f : Nat → Int) (nz nz' : Bool) :
    Sx.Callee Try.prog 61 [.osl 0 L.length, .osl 1 n] [.row 31 1 L.length (rowOf (mC n) (fun _ => 0) L) nz, .row 3 1 n (iF f) nz']
      (fun v H => v = .osl 2 (addM n L f).length ∧ H = [.gone, .gone, .row 31 1 (addM n L f).length (rowOf (mC n) (fun _ => 0) (addM n L f)) nz]) := by
  refine callee_ent Try.E_ok Try.func61 rfl (by kernel_rfl) ?_
  (repeat' ((conv => whnf); (first | (with_reducible first | apply spl | apply spl') <;> intro hc <;> try (exfalso; omega) | with_reducible refine iJ fun hc => ?_ | refine vcq (k := ?_) | refine dr 6 (k := ?_)))); all_goals ((try conv => whnf); try with_reducible exact trivial)
  refine ⟨Nat, fun i => i ≤ L.length ∧ ∀ j, j < i → ¬ ∀ b, b < n → L.getD j (fun _ => 0) b = f b, fun i => L.length - i, fun i => [(5, .int .i64 (i : Nat)), (14, .any)], fun _ => [], fun _ => [], 0, ⟨⟨by omega, fun b hb => by omega⟩, none, ?_⟩, ?_⟩
  · (repeat' ((conv => whnf); (first | (with_reducible first | apply spl | apply spl') <;> intro hc <;> try (exfalso; omega) | with_reducible refine iJ fun hc => ?_ | refine vcq (k := ?_) | refine dr 6 (k := ?_)))); all_goals ((try conv => whnf); try with_reducible exact trivial)
  · rintro i ⟨h1, h2⟩
    have hti : (i : Int).toNat = i := Int.toNat_natCast i
    (repeat' ((conv => whnf); (first | (with_reducible first | apply spl | apply spl') <;> intro hc <;> try (exfalso; omega) | with_reducible refine iJ fun hc => ?_ | refine vcq (k := ?_) | refine dr 6 (k := ?_)))); all_goals ((try conv => whnf); try with_reducible exact trivial)
    · have hi : i < L.length := by omega
      have hm : L.getD i (fun _ => 0) ∈ L := by simp [List.getD_eq_getElem?_getD, hi]
      refine callee_view (sameInts83 n n (by omega) (by omega) (L.getD i (fun _ => 0)) f) ?_
      (repeat' ((conv => whnf); (first | (with_reducible first | apply spl | apply spl') <;> intro hc <;> try (exfalso; omega) | with_reducible refine iJ fun hc => ?_ | refine vcq (k := ?_) | refine dr 6 (k := ?_)))); all_goals ((try conv => whnf); try with_reducible exact trivial)
      rintro _ rfl
      (repeat' ((conv => whnf); (first | (with_reducible first | apply spl | apply spl') <;> intro hc <;> try (exfalso; omega) | with_reducible refine iJ fun hc => ?_ | refine vcq (k := ?_) | refine dr 6 (k := ?_)))); all_goals ((try conv => whnf); try with_reducible exact trivial)
      · have e : addM n L f = L := if_pos ⟨_, hm, hc.2⟩
        rw [e]
        refine ⟨_, _, ⟨rfl, rfl⟩, some [some 0, some 1, some 0], ?_⟩
        cases nz
        · (repeat' ((conv => whnf); (first | (with_reducible first | apply spl | apply spl') <;> intro hc <;> try (exfalso; omega) | with_reducible refine iJ fun hc => ?_ | refine vcq (k := ?_) | refine dr 6 (k := ?_)))); all_goals ((try conv => whnf); try with_reducible exact trivial)
        · (repeat' ((conv => whnf); (first | (with_reducible first | apply spl | apply spl') <;> intro hc <;> try (exfalso; omega) | with_reducible refine iJ fun hc => ?_ | refine vcq (k := ?_) | refine dr 6 (k := ?_)))); all_goals ((try conv => whnf); try with_reducible exact trivial)
      · refine ⟨i + 1, ⟨⟨by omega, fun j hj => ?_⟩, by dsimp only; omega⟩, none, ?_⟩
        · rcases Nat.lt_or_eq_of_le (show j ≤ i by omega) with h | rfl
          · exact h2 j h
          · exact fun g => hc ⟨rfl, g⟩
        · (repeat' ((conv => whnf); (first | (with_reducible first | apply spl | apply spl') <;> intro hc <;> try (exfalso; omega) | with_reducible refine iJ fun hc => ?_ | refine vcq (k := ?_) | refine dr 6 (k := ?_)))); all_goals ((try conv => whnf); try with_reducible exact trivial)
    · have e : addM n L f = L ++ [f] := if_neg (by
        rintro ⟨t, ht, hsm⟩
        obtain ⟨j, hj, rfl⟩ := List.getElem_of_mem ht
        refine h2 j (by omega) ?_
        have : L.getD j (fun _ => 0) = L[j] := by simp [List.getD_eq_getElem?_getD, hj]
        rw [this]
        exact hsm)
      rw [e]
      refine ⟨_, _, ⟨rfl, rfl⟩, some [some 0, some 1, some 3], ?_⟩
      (repeat' ((conv => whnf); (first | (with_reducible first | apply spl | apply spl') <;> intro hc <;> try (exfalso; omega) | with_reducible refine iJ fun hc => ?_ | refine vcq (k := ?_) | refine dr 6 (k := ?_)))); all_goals ((try conv => whnf); try with_reducible exact trivial)
      refine ⟨by simp, by simp, rowOf_snoc (c := mC n) (a := f) (l := L) rfl (fun _ _ => rfl), ?_⟩
      cases nz
      · (repeat' ((conv => whnf); (first | (with_reducible first | apply spl | apply spl') <;> intro hc <;> try (exfalso; omega) | with_reducible refine iJ fun hc => ?_ | refine vcq (k := ?_) | refine dr 6 (k := ?_)))); all_goals ((try conv => whnf); try with_reducible exact trivial)
      · (repeat' ((conv => whnf); (first | (with_reducible first | apply spl | apply spl') <;> intro hc <;> try (exfalso; omega) | with_reducible refine iJ fun hc => ?_ | refine vcq (k := ?_) | refine dr 6 (k := ?_)))); all_goals ((try conv => whnf); try with_reducible exact trivial)
end Go.Proofs


namespace Go.Proofs
open Go Go.Sx
set_option maxRecDepth 100000
set_option maxHeartbeats 4000000
theorem posI_u {x : Cache} (hx : x.Ok) {u : PS} {D : List (Int × Int)} (h : RchU x x.l.length u D) : PosI x u.M :=
  ⟨⟨⟨u.tidy, D⟩, u.M, false⟩, .inl ⟨rfl, u_rch hx h, rfl⟩, rfl⟩
theorem posI_torn {x : Cache} (hx : x.Ok) {u : PS} {D : List (Int × Int)} (h : RchU x x.l.length u D) {b : Nat} (hb : (b : Int) < x.n) (hc : u.can b) : PosI x (u.M.set b (-2)) := by
  have hl : 0 < u.E.length := by rw [(h.inv hx).len]; omega
  exact ⟨⟨⟨u.tidy.drain b, D ++ [((x.l.length : Int), (b : Int))]⟩, u.M.set b (-2), true⟩, .inr ⟨rfl, u.tidy, D, b, u_rch hx h, hb, (PS.can_tidy u hl b).2 hc, rfl, rfl⟩, rfl⟩
def Fits (n : Nat) (f : Nat → Int) (c : C6) : Prop := ∀ b, b < n → f b = c.get b
def tornF (f : Nat → Int) (b : Nat) : Nat → Int := fun j => if j = b then -2 else f j
structure ImgsR (x : Cache) (n : Nat) (L : List (Nat → Int)) : Prop where
  sound : ∀ f ∈ L, ∃ c, PosI x c ∧ Fits n f c
  cov : ∀ c, PosI x c → ∃ f ∈ L, Fits n f c
  len : L.length ≤ 900000
theorem mem_addM {n : Nat} {L : List (Nat → Int)} {s t : Nat → Int} : t ∈ addM n L s → t ∈ L ∨ t = s := by
  unfold addM
  split
  · exact .inl
  · intro h; rcases List.mem_append.1 h with h | h
    · exact .inl h
    · exact .inr (by simpa using h)
theorem addM_sub (n : Nat) (L : List (Nat → Int)) (s : Nat → Int) : ∀ f ∈ L, f ∈ addM n L s := by
  unfold addM
  split
  · exact fun f h => h
  · exact fun f h => List.mem_append_left _ h
theorem addM_has (n : Nat) (L : List (Nat → Int)) (s : Nat → Int) : ∃ t ∈ addM n L s, ∀ b, b < n → t b = s b := by
  unfold addM
  split
  · assumption
  · exact ⟨s, by simp, fun _ _ => rfl⟩
theorem addM_len (n : Nat) (L : List (Nat → Int)) (s : Nat → Int) : (addM n L s).length ≤ L.length + 1 := by
  unfold addM
  split <;> simp
def HasR (n : Nat) (r : RS) (Ms : List (Nat → Int)) (t : Nat) : Prop :=
  (0 < t → ∃ f ∈ Ms, ∀ b, b < n → f b = r.M b) ∧ ∀ b : Nat, b + 1 < t → canR n r b → ∃ f ∈ Ms, ∀ j, j < n → f j = tornF r.M b j
theorem HasR.sub {n : Nat} {r : RS} {Ms Ms' : List (Nat → Int)} {t : Nat} (h : HasR n r Ms t) (hs : ∀ f ∈ Ms, f ∈ Ms') : HasR n r Ms' t :=
  ⟨fun g => (h.1 g).imp fun _ k => ⟨hs _ k.1, k.2⟩, fun b g c => (h.2 b g c).imp fun _ k => ⟨hs _ k.1, k.2⟩⟩
structure MgR (x : Cache) (n : Nat) (L : List RS) (Ms : List (Nat → Int)) (k t : Nat) : Prop where
  sound : ∀ f ∈ Ms, ∃ c, PosI x c ∧ Fits n f c
  len : Ms.length ≤ k * (n + 1) + t
  old : ∀ i, i < k → HasR n (L.getD i RS.begin) Ms (n + 1)
  cur : HasR n (L.getD k RS.begin) Ms t
namespace MgR
variable {x : Cache} {n : Nat} {L : List RS} {Ms : List (Nat → Int)} {k t : Nat}
theorem start : MgR x n L [] 0 0 := ⟨by simp, by simp, fun i h => by omega, fun h => by omega, fun b h => by omega⟩
theorem med (hx : x.Ok) (h : MgR x n L Ms k 0) (hg : GdR x n x.l.length (L.getD k RS.begin)) : MgR x n L (addM n Ms (L.getD k RS.begin).M) k 1 := by
  have hs := addM_sub n Ms (L.getD k RS.begin).M
  refine ⟨fun f hf => ?_, ?_, fun i hi => (h.old i hi).sub hs, fun _ => addM_has _ _ _, fun b hb => by omega⟩
  · rcases mem_addM hf with hf | rfl
    · exact h.sound f hf
    · obtain ⟨u, D, h1, h2⟩ := hg
      exact ⟨u.M, posI_u hx h1, fun b hb => h2.M b hb⟩
  · have := h.len
    have := addM_len n Ms (L.getD k RS.begin).M
    omega
theorem skip {b : Nat} (h : MgR x n L Ms k (b + 1)) (hc : ¬ canR n (L.getD k RS.begin) b) : MgR x n L Ms k (b + 1 + 1) := by
  refine ⟨h.sound, by have := h.len; omega, h.old, fun _ => h.cur.1 (by omega), fun b' hb' hc' => ?_⟩
  rcases Nat.lt_or_eq_of_le (show b' ≤ b by omega) with g | rfl
  · exact h.cur.2 b' (by omega) hc'
  · exact absurd hc' hc
theorem torn {b : Nat} (hx : x.Ok) (hn : x.n = n) (h : MgR x n L Ms k (b + 1)) (hg : GdR x n x.l.length (L.getD k RS.begin)) (hc : canR n (L.getD k RS.begin) b) : MgR x n L (addM n Ms (tornF (L.getD k RS.begin).M b)) k (b + 1 + 1) := by
  have hn6 := hx.n
  have hs := addM_sub n Ms (tornF (L.getD k RS.begin).M b)
  have hc' := h.cur.sub hs
  refine ⟨fun f hf => ?_, ?_, fun i hi => (h.old i hi).sub hs, fun _ => hc'.1 (by omega), fun b' hb' hcan => ?_⟩
  · rcases mem_addM hf with hf | rfl
    · exact h.sound f hf
    · obtain ⟨u, D, h1, h2⟩ := hg
      have hcu := (h2.canR_iff (by omega)).1 hc
      refine ⟨u.M.set b (-2), posI_torn hx h1 (by omega) hcu.2.2, fun j hj => ?_⟩
      rw [C6.get_set (by omega) (by omega)]
      unfold tornF
      by_cases e : j = b
      · subst e; simp
      · rw [if_neg e, if_neg (by omega)]
        exact h2.M j hj
  · have := h.len
    have := addM_len n Ms (tornF (L.getD k RS.begin).M b)
    omega
  · rcases Nat.lt_or_eq_of_le (show b' ≤ b by omega) with g | rfl
    · exact hc'.2 b' (by omega) hcan
    · exact addM_has _ _ _
theorem next (h : MgR x n L Ms k (n + 1)) : MgR x n L Ms (k + 1) 0 := by
  refine ⟨h.sound, ?_, fun i hi => ?_, fun g => by omega, fun b g => by omega⟩
  · have := h.len
    have e : (k + 1) * (n + 1) = k * (n + 1) + (n + 1) := Nat.succ_mul _ _
    omega
  · rcases Nat.lt_or_eq_of_le (show i ≤ k by omega) with g | rfl
    · exact h.old i g
    · exact h.cur
theorem len4 (h : MgR x n L Ms k t) (hn : n ≤ 3) : Ms.length ≤ k * 4 + t := by
  have := h.len
  have h2 : k * (n + 1) ≤ k * 4 := Nat.mul_le_mul_left _ (by omega)
  omega
theorem fin (hx : x.Small) (hn : x.n = n) (h : MgR x n L Ms L.length 0) (hcov : CoverR x n x.l.length L) (hcap : L.length ≤ 65536) : ImgsR x n Ms := by
  have hn6 := hx.ok.n
  have hn3 := hx.n
  refine ⟨h.sound, fun c hp => ?_, by have := h.len4 (by omega); omega⟩
  obtain ⟨u, D, h1, h2⟩ := hp.u hx.ok
  obtain ⟨r, hr, u', D', g1, g2, g3⟩ := hcov u D h1
  obtain ⟨i, hi, rfl⟩ := List.getElem_of_mem hr
  have ho := h.old i hi
  rw [getR hi] at ho
  rcases h2 with rfl | ⟨b, hb, hc, rfl⟩
  · obtain ⟨f, f1, f2⟩ := ho.1 (by omega)
    exact ⟨f, f1, fun j hj => by rw [f2 j hj, g2.M j hj, g3.1]⟩
  · have hcr : canR n L[i] (b : Nat) := (g2.canR_iff (by omega)).2 ⟨by omega, by omega, g3.can.2 hc⟩
    obtain ⟨f, f1, f2⟩ := ho.2 b (by omega) hcr
    refine ⟨f, f1, fun j hj => ?_⟩
    rw [f2 j hj, C6.get_set (by omega) (by omega)]
    unfold tornF
    by_cases e : j = b
    · subst e; simp
    · rw [if_neg e, if_neg (by omega), g2.M j hj, g3.1]
end MgR
namespace ImgsR
variable {x : Cache} {n : Nat} {L : List (Nat → Int)}
theorem val (h : ImgsR x n L) {b : Nat} (hb : b < n) (v : Int) : PosV x b v ↔ ∃ i, i < L.length ∧ L.getD i (fun _ => 0) b = v := by
  constructor
  · rintro ⟨c, h1, rfl⟩
    obtain ⟨f, f1, f2⟩ := h.cov c h1
    obtain ⟨i, hi, rfl⟩ := List.getElem_of_mem f1
    refine ⟨i, hi, ?_⟩
    rw [show L.getD i (fun _ => 0) = L[i] by simp [List.getD_eq_getElem?_getD, hi]]
    exact f2 b hb
  · rintro ⟨i, hi, rfl⟩
    rw [show L.getD i (fun _ => 0) = L[i] by simp [List.getD_eq_getElem?_getD, hi]]
    obtain ⟨c, h1, h2⟩ := h.sound _ (List.getElem_mem hi)
    exact ⟨c, h1, (h2 b hb).symm⟩
theorem pos (h : ImgsR x n L) {l : List Int} (hl : l.length = n) : (addM n L (fun b => l.getD b 0)).length = L.length ↔ IsPos x l := by
  have e : (addM n L (fun b => l.getD b 0)).length = L.length ↔ ∃ g ∈ L, ∀ b, b < n → g b = l.getD b 0 := by
    unfold addM
    split
    · rename_i g; exact ⟨fun _ => g, fun _ => rfl⟩
    · rename_i g
      exact ⟨fun k => by simp at k, fun k => absurd k g⟩
  rw [e]
  constructor
  · rintro ⟨g, h1, h2⟩
    obtain ⟨c, h3, h4⟩ := h.sound g h1
    exact ⟨c, h3, fun b hb => by rw [← h4 b (by omega), h2 b (by omega)]⟩
  · rintro ⟨c, h1, h2⟩
    obtain ⟨f, f1, f2⟩ := h.cov c h1
    exact ⟨f, f1, fun b hb => by rw [f2 b hb, h2 b (by omega)]⟩
theorem sure (h : ImgsR x n L) {i : Nat} (hb : (x.l.getD i (0, 0)).2.toNat < n) : (∀ c, PosI x c → c.get (x.l.getD i (0, 0)).2.toNat = -2 ∨ (i : Int) ≤ c.get (x.l.getD i (0, 0)).2.toNat) ↔ ∀ j, j < L.length → L.getD j (fun _ => 0) (x.l.getD i (0, 0)).2.toNat = -2 ∨ (i : Int) ≤ L.getD j (fun _ => 0) (x.l.getD i (0, 0)).2.toNat := by
  constructor
  · intro g j hj
    rw [show L.getD j (fun _ => 0) = L[j] by simp [List.getD_eq_getElem?_getD, hj]]
    obtain ⟨c, h1, h2⟩ := h.sound _ (List.getElem_mem hj)
    rw [h2 _ hb]
    exact g c h1
  · intro g c hc
    obtain ⟨f, f1, f2⟩ := h.cov c hc
    obtain ⟨j, hj, rfl⟩ := List.getElem_of_mem f1
    have := g j hj
    rw [show L.getD j (fun _ => 0) = L[j] by simp [List.getD_eq_getElem?_getD, hj], f2 _ hb] at this
    exact this
end ImgsR
end Go.Proofs


namespace Go.Proofs
open Go Go.Sx
set_option maxRecDepth 100000
set_option maxHeartbeats 40000000
theorem Images60 (x : Cache) (hx : x.Small) (n : Nat) (hn : x.n = n) : NewC Try.prog 60 [x.v] (fun r H => ∃ Ms, ImgsR x n Ms ∧ r = .osl 0 Ms.length ∧ H = [.row 31 1 Ms.length (rowOf (mC n) (fun _ => 0) Ms) true]) := by
  have hn6 := hx.ok.n
  have hn3 := hx.n
  have hl7 := hx.l
  refine newC_ent Try.E_ok Try.func60 rfl (by kernel_rfl) ?_
  (repeat' ((conv => whnf); (first | (with_reducible first | apply spl | apply spl') <;> intro hc <;> try (exfalso; omega) | with_reducible refine iJ fun hc => ?_ | refine vcq (k := ?_) | fail))); all_goals ((try conv => whnf); try with_reducible exact trivial)
  refine callee_fo (ends82 x hx n hn) rfl ?_
  rintro _ ⟨L, ⟨hok, hne, hcov⟩, rfl⟩
  have hcap := capR hx hn x.l.length L hok.good hok.nd
  (repeat' ((conv => whnf); (first | (with_reducible first | apply spl | apply spl') <;> intro hc <;> try (exfalso; omega) | with_reducible refine iJ fun hc => ?_ | refine vcq (k := ?_) | fail))); all_goals ((try conv => whnf); try with_reducible exact trivial)
  refine ⟨Nat × List (Nat → Int), fun q => q.1 ≤ L.length ∧ MgR x n L q.2 q.1 0, fun q => L.length - q.1, fun q => [(5, .int .i64 (q.1 : Nat)), (3, .osl 1 q.2.length)], fun _ => [], fun q => [.row 31 1 q.2.length (rowOf (mC n) (fun _ => 0) q.2) true], (0, []), ⟨⟨by dsimp only; omega, MgR.start⟩, some [some 0, none], ?_⟩, ?_⟩
  · (repeat' ((conv => whnf); (first | (with_reducible first | apply spl | apply spl') <;> intro hc <;> try (exfalso; omega) | with_reducible refine iJ fun hc => ?_ | refine vcq (k := ?_) | fail))); all_goals ((try conv => whnf); try with_reducible exact trivial)
  · rintro ⟨k, Ms⟩ ⟨hk, hm⟩
    dsimp only at hk hm
    have hml := hm.len4 (by omega)
    have htk : (k : Int).toNat = k := Int.toNat_natCast k
    (repeat' ((conv => whnf); (first | (with_reducible first | apply spl | apply spl') <;> intro hc <;> try (exfalso; omega) | with_reducible refine iJ fun hc => ?_ | refine vcq (k := ?_) | fail))); all_goals ((try conv => whnf); try with_reducible exact trivial)
    · have hkl : k < L.length := by dsimp only at hc; omega
      have hg := hok.good _ (getR_mem hkl)
      have hbn := hg.bnd hx.ok hn
      refine callee_frame [1] (image61 n (by omega) Ms (by omega) (L.getD k RS.begin).M true) rfl ?_ ?_
      · (repeat' ((conv => whnf); (first | (with_reducible first | apply spl | apply spl') <;> intro hc <;> try (exfalso; omega) | with_reducible refine iJ fun hc => ?_ | refine vcq (k := ?_) | fail))); all_goals ((try conv => whnf); try with_reducible exact trivial)
      · rintro _ _ ⟨rfl, rfl⟩
        have hm1 := hm.med hx.ok hg
        generalize addM n Ms (L.getD k RS.begin).M = M1 at hm1 ⊢
        (repeat' ((conv => whnf); (first | (with_reducible first | apply spl | apply spl') <;> intro hc <;> try (exfalso; omega) | with_reducible refine iJ fun hc => ?_ | refine vcq (k := ?_) | fail))); all_goals ((try conv => whnf); try with_reducible exact trivial)
        refine ⟨Nat × List (Nat → Int), fun q => q.1 ≤ n ∧ MgR x n L q.2 k (q.1 + 1), fun q => n - q.1, fun q => [(6, .int .i64 (q.1 : Nat)), (3, .osl 3 q.2.length)], fun _ => [(2, .gone)], fun q => [.row 31 1 q.2.length (rowOf (mC n) (fun _ => 0) q.2) true], (0, M1), ⟨⟨by dsimp only; omega, hm1⟩, some [some 0, some 1, some 2, some 2], ?_⟩, ?_⟩
        · (repeat' ((conv => whnf); (first | (with_reducible first | apply spl | apply spl') <;> intro hc <;> try (exfalso; omega) | with_reducible refine iJ fun hc => ?_ | refine vcq (k := ?_) | fail))); all_goals ((try conv => whnf); try with_reducible exact trivial)
        · clear hm1 hm hml hc
          rintro ⟨b, M2⟩ ⟨hb, hm⟩
          dsimp only at hb hm
          have hml := hm.len4 (by omega)
          have htb : (b : Int).toNat = b := Int.toNat_natCast b
          (repeat' ((conv => whnf); (first | (with_reducible first | apply spl | apply spl') <;> intro hc <;> try (exfalso; omega) | with_reducible refine iJ fun hc => ?_ | refine vcq (k := ?_) | fail))); all_goals ((try conv => whnf); try with_reducible exact trivial)
          · have hb1 : b < n := by dsimp only at hc; omega
            refine callee_fo (Drained17d n (by omega) (L.getD k RS.begin) (by omega) (by omega) b) rfl ?_
            rintro _ rfl
            (repeat' ((conv => whnf); (first | (with_reducible first | apply spl | apply spl') <;> intro hc <;> try (exfalso; omega) | with_reducible refine iJ fun hc => ?_ | refine vcq (k := ?_) | fail))); all_goals ((try conv => whnf); try with_reducible exact trivial)
            · refine callee_frame [3, 6] (image61n n (by omega) M2 (by omega) (tornF (L.getD k RS.begin).M b) true false) rfl ?_ ?_
              · (repeat' ((conv => whnf); (first | (with_reducible first | apply spl | apply spl') <;> intro hc <;> try (exfalso; omega) | with_reducible refine iJ fun hc => ?_ | refine vcq (k := ?_) | fail))); all_goals ((try conv => whnf); try with_reducible exact trivial)
                refine ⟨fun j _ => ?_, ?_⟩
                · dsimp only
                  rw [htb]
                  unfold tornF iF
                  dsimp only
                  by_cases e : j = b
                  · rw [spliceP_pos e, if_pos e]; rfl
                  · rw [spliceP_neg e, if_neg e]; rfl
                · (repeat' ((conv => whnf); (first | (with_reducible first | apply spl | apply spl') <;> intro hc <;> try (exfalso; omega) | with_reducible refine iJ fun hc => ?_ | refine vcq (k := ?_) | fail))); all_goals ((try conv => whnf); try with_reducible exact trivial)
              · rintro _ _ ⟨rfl, rfl⟩
                have hm' := hm.torn hx.ok hn hg hc
                generalize addM n M2 (tornF (L.getD k RS.begin).M b) = M3 at hm' ⊢
                (repeat' ((conv => whnf); (first | (with_reducible first | apply spl | apply spl') <;> intro hc <;> try (exfalso; omega) | with_reducible refine iJ fun hc => ?_ | refine vcq (k := ?_) | fail))); all_goals ((try conv => whnf); try with_reducible exact trivial)
                refine ⟨(b + 1, M3), ⟨⟨by dsimp only; omega, hm'⟩, by dsimp only; omega⟩, some [some 0, some 1, some 2, some 7], ?_⟩
                (repeat' ((conv => whnf); (first | (with_reducible first | apply spl | apply spl') <;> intro hc <;> try (exfalso; omega) | with_reducible refine iJ fun hc => ?_ | refine vcq (k := ?_) | fail))); all_goals ((try conv => whnf); try with_reducible exact trivial)
            · have hm' := hm.skip hc
              refine ⟨(b + 1, M2), ⟨⟨by dsimp only; omega, hm'⟩, by dsimp only; omega⟩, some [some 0, some 1, some 2, some 3], ?_⟩
              (repeat' ((conv => whnf); (first | (with_reducible first | apply spl | apply spl') <;> intro hc <;> try (exfalso; omega) | with_reducible refine iJ fun hc => ?_ | refine vcq (k := ?_) | fail))); all_goals ((try conv => whnf); try with_reducible exact trivial)
          · have hbe : b = n := by dsimp only at hc; omega
            subst hbe
            refine ⟨(k + 1, M2), ⟨⟨by dsimp only; omega, hm.next⟩, by dsimp only; omega⟩, some [some 0, some 3], ?_⟩
            (repeat' ((conv => whnf); (first | (with_reducible first | apply spl | apply spl') <;> intro hc <;> try (exfalso; omega) | with_reducible refine iJ fun hc => ?_ | refine vcq (k := ?_) | fail))); all_goals ((try conv => whnf); try with_reducible exact trivial)
    · have hke : k = L.length := by dsimp only at hc; omega
      subst hke
      refine ⟨_, _, ⟨Ms, hm.fin hx hn hcov hcap, rfl, rfl⟩, some [some 1], ?_⟩
      (repeat' ((conv => whnf); (first | (with_reducible first | apply spl | apply spl') <;> intro hc <;> try (exfalso; omega) | with_reducible refine iJ fun hc => ?_ | refine vcq (k := ?_) | fail))); all_goals ((try conv => whnf); try with_reducible exact trivial)
end Go.Proofs


namespace Go.Proofs
open Go Go.Sx
set_option maxRecDepth 100000
set_option maxHeartbeats 40000000
end Go.Proofs

