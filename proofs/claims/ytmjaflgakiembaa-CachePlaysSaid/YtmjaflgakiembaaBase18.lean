/- Own work: texts of the proof of a law (CaU5, CaC21, CaL2, CaR1, SyCfz, CaR2, CaR3, CaR4, CaK1, CaR5). No condition. -/
import Derived.Test.YtmjaflgakiembaaBase17
namespace Go.Proofs
open Go Go.Sx
set_option maxRecDepth 100000
set_option maxHeartbeats 1000000
theorem PosI.u {x : Cache} (hx : x.Ok) {h : C6} (hp : PosI x h) : ∃ u D, RchU x x.l.length u D ∧ (h = u.M ∨ ∃ b : Nat, (b : Int) < x.n ∧ u.can b ∧ h = u.M.set b (-2)) := by
  obtain ⟨im, h1, rfl⟩ := hp
  rcases h1 with ⟨_, h2, h3⟩ | ⟨_, s, D, b, h2, h3, h4, h5, _⟩
  · obtain ⟨u, g1, g2⟩ := rch_u hx h2
    exact ⟨u, _, g1, .inl (by rw [h3, g2]; rfl)⟩
  · obtain ⟨u, g1, g2⟩ := rch_u hx h2
    subst g2
    have hl : 0 < u.E.length := by rw [(g1.inv hx).len]; omega
    exact ⟨u, D, g1, .inr ⟨b, h3, (PS.can_tidy u hl b).1 h4, h5⟩⟩
theorem PosI.barrier {x : Cache} (hx : x.Ok) {h : C6} (hp : PosI x h) {i : Nat} (hi : i < x.l.length)
    (hb : (x.l.getD i (0, 0)).1 = 3 ∧ (∃ b, b < 6 ∧ (i : Int) < h.get b) ∨ (x.l.getD i (0, 0)).1 = 4) {q : Nat} (hq : q < i) {b : Nat} (hb6 : b < 6) (hpq : putQ x q b) : h.get b = -2 ∨ (q : Int) ≤ h.get b := by
  obtain ⟨u, D, h1, rfl | ⟨b0, h2, h3, rfl⟩⟩ := hp.u hx
  · exact .inr (h1.barrier hx hi hb hq hb6 hpq)
  · have hb0 : b0 < 6 := by have := hx.n; omega
    rw [C6.get_set hb0 hb6]
    split
    · exact .inl rfl
    · refine .inr (h1.barrier hx hi (hb.imp (fun g => ⟨g.1, ?_⟩) id) hq hb6 hpq)
      obtain ⟨_, b1, g1, g2⟩ := g
      rw [C6.get_set hb0 g1] at g2
      refine ⟨b1, g1, ?_⟩
      split at g2 <;> omega
theorem PosI.force {x : Cache} (hx : x.Ok) {h : C6} (hp : PosI x h) {i : Nat} (hi : i < x.l.length) (h2 : (x.l.getD i (0, 0)).1 = 2) {b : Nat} (hb : b < 6) (hpq : putQ x i b) : h.get b = -2 ∨ (i : Int) ≤ h.get b := by
  obtain ⟨u, D, h1, rfl | ⟨b0, h2, h3, rfl⟩⟩ := hp.u hx
  · exact .inr ((h1.invB hx).fo i hi h2 b hb hpq)
  · have hb0 : b0 < 6 := by have := hx.n; omega
    rw [C6.get_set hb0 hb]
    split
    · exact .inl rfl
    · exact .inr ((h1.invB hx).fo i hi (by assumption) b hb hpq)
theorem PosI.holds {x : Cache} (hx : x.Ok) {h : C6} (hp : PosI x h) {b : Nat} (hb : b < 6) : h.get b = -2 ∨ MP x x.l.length b (h.get b) := by
  obtain ⟨u, D, h1, rfl | ⟨b0, h2, h3, rfl⟩⟩ := hp.u hx
  · exact .inr ((h1.inv hx).inv.med b hb)
  · have hb0 : b0 < 6 := by have := hx.n; omega
    rw [C6.get_set hb0 hb]
    split
    · exact .inl rfl
    · exact .inr ((h1.inv hx).inv.med b hb)
theorem MP.ge {x : Cache} {K b : Nat} {v : Int} (h : MP x K b v) : -1 ≤ v := by rcases h with h | ⟨q, _, h, _⟩ <;> omega
theorem PosI.torn {x : Cache} (hx : x.Ok) {h : C6} (hp : PosI x h) : (∀ b, b < 6 → h.get b ≠ -2) ∨ ∃ b0 : Nat, (b0 : Int) < x.n ∧ ∀ b, b < 6 → (h.get b = -2 ↔ b = b0) := by
  obtain ⟨u, D, h1, rfl | ⟨b0, h2, h3, rfl⟩⟩ := hp.u hx
  · exact .inl fun b hb => by have := ((h1.inv hx).inv.med b hb).ge; omega
  · have hb0 : b0 < 6 := by have := hx.n; omega
    refine .inr ⟨b0, h2, fun b hb => ?_⟩
    rw [C6.get_set hb0 hb]
    split
    · rename_i g; exact ⟨fun _ => g, fun _ => rfl⟩
    · rename_i g
      have := ((h1.inv hx).inv.med b hb).ge
      exact ⟨fun g2 => by omega, fun g2 => absurd g2 g⟩
/-! ### plays -/
theorem C6.set_set (c : C6) {b : Nat} (hb : b < 6) (n m : Int) : (c.set b n).set b m = c.set b m := by
  refine C6.ext' fun j hj => ?_
  rw [C6.get_set hb hj, C6.get_set hb hj, C6.get_set hb hj]
  split <;> rfl
theorem drain_M {s : PS} {b : Nat} (h : s.can b) : ∃ n, (s.drain b).M = s.M.set b n := by
  unfold PS.drain
  rw [PS.wr_pos h.2]
  exact ⟨_, rfl⟩
/-! ### and back -/
theorem playD_pre (x : Cache) (D D' : List (Int × Int)) : ∀ j, j ≤ D.length → PS.playD x (D ++ D') j = PS.playD x D j
  | 0, _ => rfl
  | j + 1, hj => by
    have e : (D ++ D').getD j (0, 0) = D.getD j (0, 0) := by simp [List.getD_eq_getElem?_getD, List.getElem?_append_left (show j < D.length by omega)]
    simp only [PS.playD]
    rw [playD_pre x D D' j (by omega), e]
theorem from_from (l : List (Int × Int)) (s : PS) (k m : Nat) : PS.from l s k (m + 1) = (PS.from l s k m).order ((k + m : Nat) : Int) (l.getD (k + m) (0, 0)) := rfl
theorem rch_play {x : Cache} {k : Nat} {s : PS} {D : List (Int × Int)} (h : Rch x k s D) : k ≤ x.l.length ∧ ∃ s' k', PS.playD x D D.length = some (s', k') ∧ k' ≤ k ∧ PS.from x.l s' k' (k - k') = s := by
  induction h with
  | begin => exact ⟨by omega, _, _, rfl, Nat.le_refl _, rfl⟩
  | @drain k s D b hr hb hcan ih =>
    obtain ⟨h0, s', k', h1, h2, h3⟩ := ih
    refine ⟨h0, s.drain b, k, ?_, Nat.le_refl _, by rw [Nat.sub_self]; rfl⟩
    rw [List.length_append, List.length_singleton]
    have e : (D ++ [((k : Int), (b : Int))]).getD D.length (0, 0) = ((k : Int), (b : Int)) := by simp [List.getD_eq_getElem?_getD]
    simp only [PS.playD]
    rw [playD_pre x D _ D.length (Nat.le_refl _), h1, e]
    dsimp only
    rw [show (k : Int).toNat = k from Int.toNat_natCast k, show (b : Int).toNat = b from Int.toNat_natCast b, h3]
    rw [if_pos ⟨⟨by omega, by omega⟩, ⟨by omega, by omega⟩, hcan⟩]
  | @order k s D hr hk ih =>
    obtain ⟨h0, s', k', h1, h2, h3⟩ := ih
    refine ⟨hk, s', k', h1, by omega, ?_⟩
    rw [show k + 1 - k' = (k - k') + 1 by omega, from_from, h3, show k' + (k - k') = k by omega]
theorem img_play {x : Cache} (hx : x.Ok) {im : Img} (h : ImgOk x im) : ¬ badPl x im.t.D im.torn ∧ ∃ s k, PS.playD x im.t.D im.t.D.length = some (s, k) ∧ PS.endP x im.t.D im.torn s k = im.h := by
  rcases h with ⟨h1, h2, h3⟩ | ⟨h1, s0, D, b, h2, h3, h4, h5, h6⟩
  · obtain ⟨_, s', k', g1, g2, g3⟩ := rch_play h2
    have hD := (rch_good hx _ _ _ h2)
    obtain ⟨u, q1, q2⟩ := rch_u hx h2
    have hi := q1.inv hx
    have hc := cntL_nonneg u.E
    have := hi.tot
    have := hi.D
    have := hx.len
    unfold PS.tot at *
    refine ⟨fun g => ?_, s', k', g1, ?_⟩
    · rcases g with g | ⟨g, _⟩
      · omega
      · rw [h1] at g; cases g
    · unfold PS.endP
      rw [h1, if_neg (by simp), g3, h3]
  · have h7 := Rch.drain h2 h3 h4
    obtain ⟨_, s', k', g1, g2, g3⟩ := rch_play h7
    obtain ⟨u, q1, q2⟩ := rch_u hx h7
    have hi := q1.inv hx
    have hc := cntL_nonneg u.E
    have := hi.tot
    have hDl := hi.D
    have := hx.len
    unfold PS.tot at *
    have e : im.t.D = D ++ [((x.l.length : Int), (b : Int))] := by rw [h6]
    have e2 : (D ++ [((x.l.length : Int), (b : Int))]).getD ((D ++ [((x.l.length : Int), (b : Int))]).length - 1) (0, 0) = ((x.l.length : Int), (b : Int)) := by simp [List.getD_eq_getElem?_getD]
    rw [e]
    refine ⟨fun g => ?_, s', k', g1, ?_⟩
    · rcases g with g | ⟨_, g | g⟩
      · omega
      · simp at g
      · rw [e2] at g; exact g rfl
    · unfold PS.endP
      rw [if_pos h1, g3, h5, e2]
      obtain ⟨n, hn⟩ := drain_M h4
      rw [hn]
      show (s0.M.set b n).set (b : Int).toNat (-2) = _
      rw [Int.toNat_natCast, C6.set_set _ (by have := hx.n; omega)]
end Go.Proofs


namespace Go.Proofs
open Go Go.Sx
set_option maxRecDepth 100000
set_option maxHeartbeats 40000000
def sureP (x : Cache) (i : Nat) : Prop := ((x.l.getD i (0, 0)).1 = 1 ∨ (x.l.getD i (0, 0)).1 = 2) ∧ ∀ h, PosI x h → h.get (x.l.getD i (0, 0)).2.toNat = -2 ∨ (i : Int) ≤ h.get (x.l.getD i (0, 0)).2.toNat
open Classical in
noncomputable def sureL (x : Cache) (k : Nat) : List Int := ((List.range k).filter fun i => decide (sureP x i)).map fun (i : Nat) => (i : Int)
theorem sureL_succ (x : Cache) (k : Nat) : (sureP x k → sureL x (k + 1) = sureL x k ++ [(k : Int)]) ∧ (¬ sureP x k → sureL x (k + 1) = sureL x k) := by
  unfold sureL
  rw [List.range_succ, List.filter_append, List.map_append]
  constructor
  · intro h; simp [h]
  · intro h; simp [h]
theorem sureL_len (x : Cache) (k : Nat) : (sureL x k).length ≤ k := by
  unfold sureL
  have := List.length_filter_le (fun i => @decide (sureP x i) (Classical.propDecidable _)) (List.range k)
  simpa using this
open Classical in
theorem Sure28 (x : Cache) (hl : x.l.length ≤ 1000000) (hs : x.chk = 0 → x.Small) : PureC Try.prog 28 false [x.v] (fun r => (x.chk = 0 → r = .tup [.sl 1 (sureL x x.l.length).length (rowOf intC 0 (sureL x x.l.length)), .int .i64 0]) ∧ (x.chk ≠ 0 → r = .tup [.lit (.slice none 0 0), .int .i64 x.chk])) := by
  refine pureC_of_exec Try.E_ok Try.func28 rfl (by kernel_rfl) ?_
  (repeat' ((conv => whnf); (first | (with_reducible first | refine spl (fun hc => ?_) fun hc => ?_ | refine spl' (fun hc => ?_) fun hc => ?_) <;> try (exfalso; omega) | with_reducible refine iJ fun hc => ?_ | refine vcq (k := ?_) | fail))); all_goals ((try conv => whnf); try with_reducible exact trivial); (repeat' ((first | (refine callee_fo (check36 x hl) rfl ?_; rintro _ rfl) | (refine pcall_intro (check36 x hl) rfl ?_) | (refine pcall_soft (fun _ => check36 x hl) rfl ?_)); (repeat' ((conv => whnf); (first | (with_reducible first | refine spl (fun hc => ?_) fun hc => ?_ | refine spl' (fun hc => ?_) fun hc => ?_) <;> try (exfalso; omega) | with_reducible refine iJ fun hc => ?_ | refine vcq (k := ?_) | fail))); all_goals ((try conv => whnf); try with_reducible exact trivial)))
  · have hk : x.chk ≠ 0 := hc
    refine ⟨_, ⟨fun h => absurd h hk, fun _ => rfl⟩, ?_⟩
    (repeat' ((conv => whnf); (first | (with_reducible first | refine spl (fun hc => ?_) fun hc => ?_ | refine spl' (fun hc => ?_) fun hc => ?_) <;> try (exfalso; omega) | with_reducible refine iJ fun hc => ?_ | refine vcq (k := ?_) | fail))); all_goals ((try conv => whnf); try with_reducible exact trivial)
  · have hk := Classical.not_not.1 hc
    have hx := hs hk
    have hn := hx.ok.n
    have hx16 := hx.ok.len
    refine callee_fo (images56s x hx) rfl ?_
    rintro _ ⟨L, hL, rfl⟩
    have hLl := hL.len
    (repeat' ((conv => whnf); (first | (with_reducible first | refine spl (fun hc => ?_) fun hc => ?_ | refine spl' (fun hc => ?_) fun hc => ?_) <;> try (exfalso; omega) | with_reducible refine iJ fun hc => ?_ | refine vcq (k := ?_) | fail))); all_goals ((try conv => whnf); try with_reducible exact trivial)
    refine ⟨Nat × List Int, fun q => q.1 ≤ x.l.length ∧ q.2 = sureL x q.1, fun q => x.l.length - q.1, fun q => [(22, .int .i64 (q.1 : Nat)), (6, .osl 1 q.2.length)], fun _ => [], fun q => [.row 3 1 q.2.length (rowOf intC 0 q.2) true], (0, []), ⟨⟨by dsimp only; omega, rfl⟩, some [some 0, none], ?_⟩, ?_⟩
    · (repeat' ((conv => whnf); (first | (with_reducible first | refine spl (fun hc => ?_) fun hc => ?_ | refine spl' (fun hc => ?_) fun hc => ?_) <;> try (exfalso; omega) | with_reducible refine iJ fun hc => ?_ | refine vcq (k := ?_) | fail))); all_goals ((try conv => whnf); try with_reducible exact trivial)
    · rintro ⟨i, l⟩ ⟨hi, hlq⟩
      dsimp only at hi hlq
      have hsl := sureL_len x i
      rw [← hlq] at hsl
      (repeat' ((conv => whnf); (first | (with_reducible first | refine spl (fun hc => ?_) fun hc => ?_ | refine spl' (fun hc => ?_) fun hc => ?_) <;> try (exfalso; omega) | with_reducible refine iJ fun hc => ?_ | refine vcq (k := ?_) | fail))); all_goals ((try conv => whnf); try with_reducible exact trivial)
      · have hi1 : i < x.l.length := by dsimp only at hc; omega
        have hblk := hx.ok.blk hi1
        refine callee_fo (puts62 (x.l.getD (i : Int).toNat (0, 0))) rfl ?_
        rintro _ rfl
        have hti : (i : Int).toNat = i := Int.toNat_natCast i
        have hsu := sureL_succ x i
        (repeat' ((conv => whnf); (first | (with_reducible first | refine spl (fun hc => ?_) fun hc => ?_ | refine spl' (fun hc => ?_) fun hc => ?_) <;> try (exfalso; omega) | with_reducible refine iJ fun hc => ?_ | refine vcq (k := ?_) | fail))); all_goals ((try conv => whnf); try with_reducible exact trivial)
        · have hno : ¬ sureP x i := fun h => hc h.1
          refine ⟨(i + 1, l), ⟨⟨by dsimp only; omega, by dsimp only; rw [hsu.2 hno]; exact hlq⟩, by dsimp only; omega⟩, some [some 0, some 1], ?_⟩
          (repeat' ((conv => whnf); (first | (with_reducible first | refine spl (fun hc => ?_) fun hc => ?_ | refine spl' (fun hc => ?_) fun hc => ?_) <;> try (exfalso; omega) | with_reducible refine iJ fun hc => ?_ | refine vcq (k := ?_) | fail))); all_goals ((try conv => whnf); try with_reducible exact trivial)
        · have hp : (x.l.getD i (0, 0)).1 = 1 ∨ (x.l.getD i (0, 0)).1 = 2 := Classical.not_not.1 hc
          have hok : ∀ im ∈ L, PosI x im.h := fun im h => (hL.pos hx.ok _).1 ⟨im, h, rfl⟩
          have hsp : sureP x i ↔ ∀ q, q < L.length → (L.getD q Img.none).h.get (x.l.getD i (0, 0)).2.toNat = -2 ∨ (i : Int) ≤ (L.getD q Img.none).h.get (x.l.getD i (0, 0)).2.toNat := by
            constructor
            · intro h q hq
              have e : L.getD q Img.none = L[q] := by simp [List.getD_eq_getElem?_getD, hq]
              rw [e]
              exact h.2 _ (hok _ (List.getElem_mem hq))
            · intro h
              refine ⟨hp, fun c hc => ?_⟩
              obtain ⟨im, h1, rfl⟩ := (hL.pos hx.ok _).2 hc
              obtain ⟨q, hq, rfl⟩ := List.getElem_of_mem h1
              have e : L.getD q Img.none = L[q] := by simp [List.getD_eq_getElem?_getD, hq]
              rw [← e]
              exact h q hq
          have hb3 : (x.l.getD i (0, 0)).2 = 0 ∨ (x.l.getD i (0, 0)).2 = 1 ∨ (x.l.getD i (0, 0)).2 = 2 := by
            have := hblk hp
            have h3 := hx.n
            have := hx.ok.ord (x.l.getD i (0, 0)) (by rw [show x.l.getD i (0, 0) = x.l[i] by simp [List.getD_eq_getElem?_getD, hi1]]; exact List.getElem_mem hi1)
            unfold Cache.OkO at this
            omega
          rcases hb3 with hb | hb | hb
          · rw [hb] at hsp
            refine ⟨Nat, fun j => j ≤ L.length ∧ ∀ q, q < j → (L.getD q Img.none).h.get (0 : Int).toNat = -2 ∨ (i : Int) ≤ (L.getD q Img.none).h.get (0 : Int).toNat, fun j => L.length - j, fun j => [(32, .int .i64 (j : Nat))], fun j => [(2, .cells 42 [.int .i64 (x.l.getD i (0, 0)).1, .int .i64 0])], fun _ => [], 0, ⟨⟨by omega, fun q hq => by omega⟩, some [some 0, some 1, some 2], ?_⟩, ?_⟩
            · (repeat' ((conv => whnf); (first | (with_reducible first | refine spl (fun hc => ?_) fun hc => ?_ | refine spl' (fun hc => ?_) fun hc => ?_) <;> try (exfalso; omega) | with_reducible refine iJ fun hc => ?_ | refine vcq (k := ?_) | fail))); all_goals ((try conv => whnf); try with_reducible exact trivial)
              refine ⟨by rw [hti]; exact hb, ?_⟩
              (repeat' ((conv => whnf); (first | (with_reducible first | refine spl (fun hc => ?_) fun hc => ?_ | refine spl' (fun hc => ?_) fun hc => ?_) <;> try (exfalso; omega) | with_reducible refine iJ fun hc => ?_ | refine vcq (k := ?_) | fail))); all_goals ((try conv => whnf); try with_reducible exact trivial)
            · rintro j ⟨h1, h2⟩
              have h1 : j ≤ L.length := h1
              have htj : (j : Int).toNat = j := Int.toNat_natCast j
              (repeat' ((conv => whnf); (first | (with_reducible first | refine spl (fun hc => ?_) fun hc => ?_ | refine spl' (fun hc => ?_) fun hc => ?_) <;> try (exfalso; omega) | with_reducible refine iJ fun hc => ?_ | refine vcq (k := ?_) | fail))); all_goals ((try conv => whnf); try with_reducible exact trivial)
              · have hj : j < L.length := by omega
                rw [htj] at hc
                have hno : ¬ sureP x i := fun h => by
                  rcases hsp.1 h j hj with g | g
                  · exact hc.1 g
                  · exact absurd (show (L.getD j Img.none).h.get (0 : Int).toNat < i from hc.2) (by omega)
                refine ⟨(i + 1, l), ⟨⟨by dsimp only; omega, by dsimp only; rw [hsu.2 hno]; exact hlq⟩, by dsimp only; omega⟩, some [some 0, some 1], ?_⟩
                (repeat' ((conv => whnf); (first | (with_reducible first | refine spl (fun hc => ?_) fun hc => ?_ | refine spl' (fun hc => ?_) fun hc => ?_) <;> try (exfalso; omega) | with_reducible refine iJ fun hc => ?_ | refine vcq (k := ?_) | fail))); all_goals ((try conv => whnf); try with_reducible exact trivial)
              · have hj : j < L.length := by omega
                rw [htj] at hc
                refine ⟨j + 1, ⟨⟨by omega, fun q hq => ?_⟩, by dsimp only; omega⟩, some [some 0, some 1, some 2], ?_⟩
                · rcases Nat.lt_or_eq_of_le (show q ≤ j by omega) with g | rfl
                  · exact h2 q g
                  · have e : (L.getD q Img.none).h.get (0 : Int).toNat = (L.getD q Img.none).h.a0 := rfl
                    rw [e]
                    omega
                · (repeat' ((conv => whnf); (first | (with_reducible first | refine spl (fun hc => ?_) fun hc => ?_ | refine spl' (fun hc => ?_) fun hc => ?_) <;> try (exfalso; omega) | with_reducible refine iJ fun hc => ?_ | refine vcq (k := ?_) | fail))); all_goals ((try conv => whnf); try with_reducible exact trivial)
              · obtain rfl : j = L.length := by omega
                have hyes : sureP x i := hsp.2 h2
                refine ⟨(i + 1, l ++ [(i : Int)]), ⟨⟨by dsimp only; omega, by dsimp only; rw [hsu.1 hyes, hlq]⟩, by dsimp only; omega⟩, some [some 0, some 4], ?_⟩
                (repeat' ((conv => whnf); (first | (with_reducible first | refine spl (fun hc => ?_) fun hc => ?_ | refine spl' (fun hc => ?_) fun hc => ?_) <;> try (exfalso; omega) | with_reducible refine iJ fun hc => ?_ | refine vcq (k := ?_) | fail))); all_goals ((try conv => whnf); try with_reducible exact trivial)
                refine ⟨by simp, ?_⟩
                (repeat' ((conv => whnf); (first | (with_reducible first | refine spl (fun hc => ?_) fun hc => ?_ | refine spl' (fun hc => ?_) fun hc => ?_) <;> try (exfalso; omega) | with_reducible refine iJ fun hc => ?_ | refine vcq (k := ?_) | fail))); all_goals ((try conv => whnf); try with_reducible exact trivial)
                refine ⟨by simp, rowOf_snoc (c := intC) (a := (i : Int)) (l := l) rfl (fun _ _ => rfl), ?_⟩
                (repeat' ((conv => whnf); (first | (with_reducible first | refine spl (fun hc => ?_) fun hc => ?_ | refine spl' (fun hc => ?_) fun hc => ?_) <;> try (exfalso; omega) | with_reducible refine iJ fun hc => ?_ | refine vcq (k := ?_) | fail))); all_goals ((try conv => whnf); try with_reducible exact trivial)
          · rw [hb] at hsp
            refine ⟨Nat, fun j => j ≤ L.length ∧ ∀ q, q < j → (L.getD q Img.none).h.get (1 : Int).toNat = -2 ∨ (i : Int) ≤ (L.getD q Img.none).h.get (1 : Int).toNat, fun j => L.length - j, fun j => [(32, .int .i64 (j : Nat))], fun j => [(2, .cells 42 [.int .i64 (x.l.getD i (0, 0)).1, .int .i64 1])], fun _ => [], 0, ⟨⟨by omega, fun q hq => by omega⟩, some [some 0, some 1, some 2], ?_⟩, ?_⟩
            · (repeat' ((conv => whnf); (first | (with_reducible first | refine spl (fun hc => ?_) fun hc => ?_ | refine spl' (fun hc => ?_) fun hc => ?_) <;> try (exfalso; omega) | with_reducible refine iJ fun hc => ?_ | refine vcq (k := ?_) | fail))); all_goals ((try conv => whnf); try with_reducible exact trivial)
              refine ⟨by rw [hti]; exact hb, ?_⟩
              (repeat' ((conv => whnf); (first | (with_reducible first | refine spl (fun hc => ?_) fun hc => ?_ | refine spl' (fun hc => ?_) fun hc => ?_) <;> try (exfalso; omega) | with_reducible refine iJ fun hc => ?_ | refine vcq (k := ?_) | fail))); all_goals ((try conv => whnf); try with_reducible exact trivial)
            · rintro j ⟨h1, h2⟩
              have h1 : j ≤ L.length := h1
              have htj : (j : Int).toNat = j := Int.toNat_natCast j
              (repeat' ((conv => whnf); (first | (with_reducible first | refine spl (fun hc => ?_) fun hc => ?_ | refine spl' (fun hc => ?_) fun hc => ?_) <;> try (exfalso; omega) | with_reducible refine iJ fun hc => ?_ | refine vcq (k := ?_) | fail))); all_goals ((try conv => whnf); try with_reducible exact trivial)
              · have hj : j < L.length := by omega
                rw [htj] at hc
                have hno : ¬ sureP x i := fun h => by
                  rcases hsp.1 h j hj with g | g
                  · exact hc.1 g
                  · exact absurd (show (L.getD j Img.none).h.get (1 : Int).toNat < i from hc.2) (by omega)
                refine ⟨(i + 1, l), ⟨⟨by dsimp only; omega, by dsimp only; rw [hsu.2 hno]; exact hlq⟩, by dsimp only; omega⟩, some [some 0, some 1], ?_⟩
                (repeat' ((conv => whnf); (first | (with_reducible first | refine spl (fun hc => ?_) fun hc => ?_ | refine spl' (fun hc => ?_) fun hc => ?_) <;> try (exfalso; omega) | with_reducible refine iJ fun hc => ?_ | refine vcq (k := ?_) | fail))); all_goals ((try conv => whnf); try with_reducible exact trivial)
              · have hj : j < L.length := by omega
                rw [htj] at hc
                refine ⟨j + 1, ⟨⟨by omega, fun q hq => ?_⟩, by dsimp only; omega⟩, some [some 0, some 1, some 2], ?_⟩
                · rcases Nat.lt_or_eq_of_le (show q ≤ j by omega) with g | rfl
                  · exact h2 q g
                  · have e : (L.getD q Img.none).h.get (1 : Int).toNat = (L.getD q Img.none).h.a1 := rfl
                    rw [e]
                    omega
                · (repeat' ((conv => whnf); (first | (with_reducible first | refine spl (fun hc => ?_) fun hc => ?_ | refine spl' (fun hc => ?_) fun hc => ?_) <;> try (exfalso; omega) | with_reducible refine iJ fun hc => ?_ | refine vcq (k := ?_) | fail))); all_goals ((try conv => whnf); try with_reducible exact trivial)
              · obtain rfl : j = L.length := by omega
                have hyes : sureP x i := hsp.2 h2
                refine ⟨(i + 1, l ++ [(i : Int)]), ⟨⟨by dsimp only; omega, by dsimp only; rw [hsu.1 hyes, hlq]⟩, by dsimp only; omega⟩, some [some 0, some 4], ?_⟩
                (repeat' ((conv => whnf); (first | (with_reducible first | refine spl (fun hc => ?_) fun hc => ?_ | refine spl' (fun hc => ?_) fun hc => ?_) <;> try (exfalso; omega) | with_reducible refine iJ fun hc => ?_ | refine vcq (k := ?_) | fail))); all_goals ((try conv => whnf); try with_reducible exact trivial)
                refine ⟨by simp, ?_⟩
                (repeat' ((conv => whnf); (first | (with_reducible first | refine spl (fun hc => ?_) fun hc => ?_ | refine spl' (fun hc => ?_) fun hc => ?_) <;> try (exfalso; omega) | with_reducible refine iJ fun hc => ?_ | refine vcq (k := ?_) | fail))); all_goals ((try conv => whnf); try with_reducible exact trivial)
                refine ⟨by simp, rowOf_snoc (c := intC) (a := (i : Int)) (l := l) rfl (fun _ _ => rfl), ?_⟩
                (repeat' ((conv => whnf); (first | (with_reducible first | refine spl (fun hc => ?_) fun hc => ?_ | refine spl' (fun hc => ?_) fun hc => ?_) <;> try (exfalso; omega) | with_reducible refine iJ fun hc => ?_ | refine vcq (k := ?_) | fail))); all_goals ((try conv => whnf); try with_reducible exact trivial)
          · rw [hb] at hsp
            refine ⟨Nat, fun j => j ≤ L.length ∧ ∀ q, q < j → (L.getD q Img.none).h.get (2 : Int).toNat = -2 ∨ (i : Int) ≤ (L.getD q Img.none).h.get (2 : Int).toNat, fun j => L.length - j, fun j => [(32, .int .i64 (j : Nat))], fun j => [(2, .cells 42 [.int .i64 (x.l.getD i (0, 0)).1, .int .i64 2])], fun _ => [], 0, ⟨⟨by omega, fun q hq => by omega⟩, some [some 0, some 1, some 2], ?_⟩, ?_⟩
            · (repeat' ((conv => whnf); (first | (with_reducible first | refine spl (fun hc => ?_) fun hc => ?_ | refine spl' (fun hc => ?_) fun hc => ?_) <;> try (exfalso; omega) | with_reducible refine iJ fun hc => ?_ | refine vcq (k := ?_) | fail))); all_goals ((try conv => whnf); try with_reducible exact trivial)
              refine ⟨by rw [hti]; exact hb, ?_⟩
              (repeat' ((conv => whnf); (first | (with_reducible first | refine spl (fun hc => ?_) fun hc => ?_ | refine spl' (fun hc => ?_) fun hc => ?_) <;> try (exfalso; omega) | with_reducible refine iJ fun hc => ?_ | refine vcq (k := ?_) | fail))); all_goals ((try conv => whnf); try with_reducible exact trivial)
            · rintro j ⟨h1, h2⟩
              have h1 : j ≤ L.length := h1
              have htj : (j : Int).toNat = j := Int.toNat_natCast j
              (repeat' ((conv => whnf); (first | (with_reducible first | refine spl (fun hc => ?_) fun hc => ?_ | refine spl' (fun hc => ?_) fun hc => ?_) <;> try (exfalso; omega) | with_reducible refine iJ fun hc => ?_ | refine vcq (k := ?_) | fail))); all_goals ((try conv => whnf); try with_reducible exact trivial)
              · have hj : j < L.length := by omega
                rw [htj] at hc
                have hno : ¬ sureP x i := fun h => by
                  rcases hsp.1 h j hj with g | g
                  · exact hc.1 g
                  · exact absurd (show (L.getD j Img.none).h.get (2 : Int).toNat < i from hc.2) (by omega)
                refine ⟨(i + 1, l), ⟨⟨by dsimp only; omega, by dsimp only; rw [hsu.2 hno]; exact hlq⟩, by dsimp only; omega⟩, some [some 0, some 1], ?_⟩
                (repeat' ((conv => whnf); (first | (with_reducible first | refine spl (fun hc => ?_) fun hc => ?_ | refine spl' (fun hc => ?_) fun hc => ?_) <;> try (exfalso; omega) | with_reducible refine iJ fun hc => ?_ | refine vcq (k := ?_) | fail))); all_goals ((try conv => whnf); try with_reducible exact trivial)
              · have hj : j < L.length := by omega
                rw [htj] at hc
                refine ⟨j + 1, ⟨⟨by omega, fun q hq => ?_⟩, by dsimp only; omega⟩, some [some 0, some 1, some 2], ?_⟩
                · rcases Nat.lt_or_eq_of_le (show q ≤ j by omega) with g | rfl
                  · exact h2 q g
                  · have e : (L.getD q Img.none).h.get (2 : Int).toNat = (L.getD q Img.none).h.a2 := rfl
                    rw [e]
                    omega
                · (repeat' ((conv => whnf); (first | (with_reducible first | refine spl (fun hc => ?_) fun hc => ?_ | refine spl' (fun hc => ?_) fun hc => ?_) <;> try (exfalso; omega) | with_reducible refine iJ fun hc => ?_ | refine vcq (k := ?_) | fail))); all_goals ((try conv => whnf); try with_reducible exact trivial)
              · obtain rfl : j = L.length := by omega
                have hyes : sureP x i := hsp.2 h2
                refine ⟨(i + 1, l ++ [(i : Int)]), ⟨⟨by dsimp only; omega, by dsimp only; rw [hsu.1 hyes, hlq]⟩, by dsimp only; omega⟩, some [some 0, some 4], ?_⟩
                (repeat' ((conv => whnf); (first | (with_reducible first | refine spl (fun hc => ?_) fun hc => ?_ | refine spl' (fun hc => ?_) fun hc => ?_) <;> try (exfalso; omega) | with_reducible refine iJ fun hc => ?_ | refine vcq (k := ?_) | fail))); all_goals ((try conv => whnf); try with_reducible exact trivial)
                refine ⟨by simp, ?_⟩
                (repeat' ((conv => whnf); (first | (with_reducible first | refine spl (fun hc => ?_) fun hc => ?_ | refine spl' (fun hc => ?_) fun hc => ?_) <;> try (exfalso; omega) | with_reducible refine iJ fun hc => ?_ | refine vcq (k := ?_) | fail))); all_goals ((try conv => whnf); try with_reducible exact trivial)
                refine ⟨by simp, rowOf_snoc (c := intC) (a := (i : Int)) (l := l) rfl (fun _ _ => rfl), ?_⟩
                (repeat' ((conv => whnf); (first | (with_reducible first | refine spl (fun hc => ?_) fun hc => ?_ | refine spl' (fun hc => ?_) fun hc => ?_) <;> try (exfalso; omega) | with_reducible refine iJ fun hc => ?_ | refine vcq (k := ?_) | fail))); all_goals ((try conv => whnf); try with_reducible exact trivial)
      · obtain rfl : i = x.l.length := by dsimp only at hc; omega
        rw [← hlq]
        refine ⟨_, ⟨fun _ => rfl, fun h => absurd hk h⟩, ?_⟩
        (repeat' ((conv => whnf); (first | (with_reducible first | refine spl (fun hc => ?_) fun hc => ?_ | refine spl' (fun hc => ?_) fun hc => ?_) <;> try (exfalso; omega) | with_reducible refine iJ fun hc => ?_ | refine vcq (k := ?_) | fail))); all_goals ((try conv => whnf); try with_reducible exact trivial)
end Go.Proofs


namespace Go.Proofs
open Go Go.Sx
set_option maxRecDepth 100000
set_option maxHeartbeats 40000000
def iF (F : Nat → Int) (b : Nat) : List V := [.int .i64 (F b)]
theorem sameInts30 (n m : Nat) (hn : n ≤ 1000000) (_hm : m ≤ 1000000) (F G : Nat → Int) : PureC Try.prog 30 false [.sl 1 n (iF F), .sl 1 m (iF G)] (· = .prop (n = m ∧ ∀ b, b < n → F b = G b) (Classical.propDecidable _)) := by
  refine pureC_of_exec Try.E_ok Try.func30 rfl (by kernel_rfl) ?_
  (repeat' ((conv => whnf); (first | (with_reducible first | refine spl (fun hc => ?_) fun hc => ?_ | refine spl' (fun hc => ?_) fun hc => ?_) <;> try (exfalso; omega) | with_reducible refine iJ fun hc => ?_ | refine vcq (k := ?_) | refine dr 9 (k := ?_)))); all_goals ((try conv => whnf); try with_reducible exact trivial)
  · refine ⟨_, rfl, ?_⟩
    (repeat' ((conv => whnf); (first | (with_reducible first | refine spl (fun hc => ?_) fun hc => ?_ | refine spl' (fun hc => ?_) fun hc => ?_) <;> try (exfalso; omega) | with_reducible refine iJ fun hc => ?_ | refine vcq (k := ?_) | refine dr 9 (k := ?_)))); all_goals ((try conv => whnf); try with_reducible exact trivial)
  · have hnl : n = m := by omega
    refine ⟨Nat, fun i => i ≤ n ∧ ∀ b, b < i → F b = G b, fun i => n - i, fun i => [(5, .int .i64 (i : Nat))], fun _ => [], fun _ => [], 0, ⟨⟨by omega, fun b hb => by omega⟩, none, ?_⟩, ?_⟩
    · (repeat' ((conv => whnf); (first | (with_reducible first | refine spl (fun hc => ?_) fun hc => ?_ | refine spl' (fun hc => ?_) fun hc => ?_) <;> try (exfalso; omega) | with_reducible refine iJ fun hc => ?_ | refine vcq (k := ?_) | refine dr 9 (k := ?_)))); all_goals ((try conv => whnf); try with_reducible exact trivial)
    · rintro i ⟨h1, h2⟩
      have hti : (i : Int).toNat = i := Int.toNat_natCast i
      (repeat' ((conv => whnf); (first | (with_reducible first | refine spl (fun hc => ?_) fun hc => ?_ | refine spl' (fun hc => ?_) fun hc => ?_) <;> try (exfalso; omega) | with_reducible refine iJ fun hc => ?_ | refine vcq (k := ?_) | refine dr 9 (k := ?_)))); all_goals ((try conv => whnf); try with_reducible exact trivial)
      · refine ⟨_, rfl, ?_⟩
        (repeat' ((conv => whnf); (first | (with_reducible first | refine spl (fun hc => ?_) fun hc => ?_ | refine spl' (fun hc => ?_) fun hc => ?_) <;> try (exfalso; omega) | with_reducible refine iJ fun hc => ?_ | refine vcq (k := ?_) | refine dr 9 (k := ?_)))); all_goals ((try conv => whnf); try with_reducible exact trivial)
        refine ⟨fun h => ?_, trivial⟩
        rw [hti] at hc
        exact hc (h.2 i (by omega))
      · rw [hti] at hc
        refine ⟨i + 1, ⟨⟨by omega, fun b hb => ?_⟩, by dsimp only; omega⟩, none, ?_⟩
        · rcases Nat.lt_or_eq_of_le (show b ≤ i by omega) with h | rfl
          · exact h2 b h
          · exact Classical.not_not.1 hc
        · (repeat' ((conv => whnf); (first | (with_reducible first | refine spl (fun hc => ?_) fun hc => ?_ | refine spl' (fun hc => ?_) fun hc => ?_) <;> try (exfalso; omega) | with_reducible refine iJ fun hc => ?_ | refine vcq (k := ?_) | refine dr 9 (k := ?_)))); all_goals ((try conv => whnf); try with_reducible exact trivial)
      · refine ⟨_, rfl, ?_⟩
        (repeat' ((conv => whnf); (first | (with_reducible first | refine spl (fun hc => ?_) fun hc => ?_ | refine spl' (fun hc => ?_) fun hc => ?_) <;> try (exfalso; omega) | with_reducible refine iJ fun hc => ?_ | refine vcq (k := ?_) | refine dr 9 (k := ?_)))); all_goals ((try conv => whnf); try with_reducible exact trivial)
        exact ⟨⟨hnl, fun b hb => h2 b (by omega)⟩, trivial⟩
def ex : Cache := ⟨3, [(1, 0), (1, 1), (3, 0), (1, 0), (2, 2), (1, 1)]⟩
theorem ex_ok : ex.Ok := by
  refine ⟨by decide, by decide, fun o ho => ?_⟩
  simp only [ex, List.mem_cons, List.not_mem_nil, or_false] at ho
  unfold Cache.OkO
  rcases ho with rfl | rfl | rfl | rfl | rfl | rfl <;> decide
theorem ex_chk : ex.chk = 0 := if_pos ex_ok
theorem ex_small : ex.Small := ⟨ex_ok, by decide, by decide⟩
theorem Example41 : PureC Try.prog 41 false [] (· = ex.v) := by
  refine pureC_of_exec Try.E_ok Try.func41 rfl (by kernel_rfl) ?_
  (repeat' ((conv => whnf); (first | (with_reducible first | refine spl (fun hc => ?_) fun hc => ?_ | refine spl' (fun hc => ?_) fun hc => ?_) <;> try (exfalso; omega) | with_reducible refine iJ fun hc => ?_ | refine vcq (k := ?_) | refine dr 9 (k := ?_)))); all_goals ((try conv => whnf); try with_reducible exact trivial)
  refine ⟨_, rfl, ?_⟩
  (repeat' ((conv => whnf); (first | (with_reducible first | refine spl (fun hc => ?_) fun hc => ?_ | refine spl' (fun hc => ?_) fun hc => ?_) <;> try (exfalso; omega) | with_reducible refine iJ fun hc => ?_ | refine vcq (k := ?_) | refine dr 9 (k := ?_)))); all_goals ((try conv => whnf); try with_reducible exact trivial)
  refine ⟨fun i hi => ?_, .inr fun i hi => ?_, trivial⟩
  · have : i = 0 ∨ i = 1 ∨ i = 2 ∨ i = 3 ∨ i = 4 ∨ i = 5 := by omega
    rcases this with rfl | rfl | rfl | rfl | rfl | rfl <;> rfl
  · rfl
theorem run_rch (x : Cache) : ∀ k, k ≤ x.l.length → Rch x k (PS.run x.l k) []
  | 0, _ => .begin
  | k + 1, h => (run_rch x k (by omega)).order (by omega)
theorem ex_run : (PS.run ex.l 6).M = ⟨0, 1, 4, -1, -1, -1⟩ ∧ (PS.run ex.l 6).E = [⟨3, 5, -3, -3, -3, -3⟩] ∧ (PS.run ex.l 6).W + (PS.run ex.l 6).waits = 5 := by
  decide +kernel
theorem ex_can : (PS.run ex.l 6).can 0 := by
  unfold PS.can PS.ep
  rw [ex_run.2.1]
  decide
theorem ex_rch : Rch ex ex.l.length (PS.run ex.l 6) [] := run_rch ex 6 (by decide)
theorem ex_w1 : PosI ex ⟨0, 1, 4, -1, -1, -1⟩ := ⟨⟨⟨_, _⟩, _, false⟩, .inl ⟨rfl, ex_rch, rfl⟩, ex_run.1⟩
theorem ex_w2 : PosI ex (((PS.run ex.l 6).drain 0).M) := ⟨⟨⟨_, _⟩, _, false⟩, .inl ⟨rfl, ex_rch.drain (b := 0) (by decide) ex_can, rfl⟩, rfl⟩
theorem ex_w3 : PosI ex ((PS.run ex.l 6).M.set 0 (-2)) := ⟨⟨⟨_, _⟩, _, true⟩, .inr ⟨rfl, _, _, 0, ex_rch, by decide, ex_can, rfl, rfl⟩, rfl⟩
theorem ex_drain : ((PS.run ex.l 6).drain 0).M.get 0 = 3 := by decide +kernel
theorem ex_all {h : C6} (hp : PosI ex h) : (h.get 0 = -2 ∨ h.get 0 = 0 ∨ h.get 0 = 3) ∧ (h.get 1 = -2 ∨ 1 ≤ h.get 1) ∧ (h.get 2 = -2 ∨ 4 ≤ h.get 2) := by
  have hput : ∀ q b, putQ ex q b → q < 6 → b = 0 → q = 0 ∨ q = 3 := by
    rintro q b ⟨h1, h2⟩ hq rfl
    have : q = 0 ∨ q = 1 ∨ q = 2 ∨ q = 3 ∨ q = 4 ∨ q = 5 := by omega
    rcases this with rfl | rfl | rfl | rfl | rfl | rfl
    · exact .inl rfl
    · exact absurd h2 (by decide)
    · exact absurd h1 (by decide)
    · exact .inr rfl
    · exact absurd h2 (by decide)
    · exact absurd h2 (by decide)
  obtain ⟨u, D, h1, h2⟩ := hp.u ex_ok
  have hB := h1.invB ex_ok
  have m2 : (4 : Int) ≤ u.M.get 2 := hB.fo 4 (by decide) rfl 2 (by omega) ⟨.inr rfl, rfl⟩
  have bar := fun q hq b hb hp => h1.barrier ex_ok (i := 2) (by decide) (.inl ⟨rfl, 2, by omega, by omega⟩) (q := q) hq (b := b) hb hp
  have m0 : (0 : Int) ≤ u.M.get 0 := bar 0 (by omega) 0 (by omega) ⟨.inl rfl, rfl⟩
  have m1 : (1 : Int) ≤ u.M.get 1 := bar 1 (by omega) 1 (by omega) ⟨.inl rfl, rfl⟩
  have m0' : u.M.get 0 = 0 ∨ u.M.get 0 = 3 := by
    rcases (h1.inv ex_ok).inv.med 0 (by omega) with g | ⟨q, g1, g2, g3⟩
    · omega
    · have := hput q 0 g3 g1 rfl
      omega
  have key : ∀ b, b < 6 → h.get b = -2 ∨ h.get b = u.M.get b := by
    intro b hb
    rcases h2 with rfl | ⟨b0, g1, g2, rfl⟩
    · exact .inr rfl
    · have : (ex.n : Int) = 3 := rfl
      rw [C6.get_set (by omega) hb]
      split
      · exact .inl rfl
      · exact .inr rfl
  have k0 := key 0 (by omega)
  have k1 := key 1 (by omega)
  have k2 := key 2 (by omega)
  omega
theorem ex_canL : canL ex 0 = [-2, 0, 3] := by
  have h : ∀ n ∈ vals9, (@decide (PosV ex 0 n) (Classical.propDecidable _)) = decide (n = -2 ∨ n = 0 ∨ n = 3) := by
    intro n _
    rw [decide_eq_decide]
    constructor
    · rintro ⟨c, h1, rfl⟩
      exact (ex_all h1).1
    · rintro (rfl | rfl | rfl)
      · exact ⟨_, ex_w3, by rw [C6.get_set (by omega) (by omega), if_pos rfl]⟩
      · exact ⟨_, ex_w1, rfl⟩
      · exact ⟨_, ex_w2, ex_drain⟩
  unfold canL
  rw [List.filter_congr h]
  decide
theorem ex_sureL : sureL ex 6 = [0, 1, 4] := by
  have h : ∀ i ∈ List.range 6, (@decide (sureP ex i) (Classical.propDecidable _)) = decide (i = 0 ∨ i = 1 ∨ i = 4) := by
    intro i hi
    rw [decide_eq_decide]
    have : i = 0 ∨ i = 1 ∨ i = 2 ∨ i = 3 ∨ i = 4 ∨ i = 5 := by have := List.mem_range.1 hi; omega
    rcases this with rfl | rfl | rfl | rfl | rfl | rfl
    · refine ⟨fun _ => by decide, fun _ => ⟨.inl rfl, fun h hp => ?_⟩⟩
      show h.get 0 = -2 ∨ _ ≤ h.get 0
      have := (ex_all hp).1
      omega
    · refine ⟨fun _ => by decide, fun _ => ⟨.inl rfl, fun h hp => ?_⟩⟩
      exact (ex_all hp).2.1
    · refine ⟨fun g => absurd g.1 (by decide), fun g => absurd g (by decide)⟩
    · refine ⟨fun g => absurd (g.2 _ ex_w1) (by decide), fun g => absurd g (by decide)⟩
    · refine ⟨fun _ => by decide, fun _ => ⟨.inr rfl, fun h hp => ?_⟩⟩
      exact (ex_all hp).2.2
    · refine ⟨fun g => absurd (g.2 _ ex_w1) (by decide), fun g => absurd g (by decide)⟩
  unfold sureL
  rw [List.filter_congr h]
  decide
theorem can_ex : PureC Try.prog 25 false [ex.v, .int .i64 0] (· = .tup [.sl 1 3 (rowOf intC 0 [-2, 0, 3]), .int .i64 0]) := by
  have h := Can25 ex (by decide) (fun _ => ex_small) 0
  have e : canV ex 0 = [.sl 1 3 (rowOf intC 0 [-2, 0, 3]), .int .i64 0] := by
    unfold canV
    rw [if_pos ex_chk, if_pos (by decide)]
    rw [show (0 : Int).toNat = 0 from rfl, ex_canL]
    rfl
  rw [e] at h
  exact h
theorem sure_ex : PureC Try.prog 28 false [ex.v] (· = .tup [.sl 1 3 (rowOf intC 0 [0, 1, 4]), .int .i64 0]) := by
  refine (Sure28 ex (by decide) (fun _ => ex_small)).mono fun r hr => ?_
  have := hr.1 ex_chk
  rw [show ex.l.length = 6 from rfl, ex_sureL] at this
  exact this
theorem writes_ex : PureC Try.prog 14 false [ex.v] (· = .tup [.int .i64 5, .int .i64 0]) := by
  have h := Writes14 ex (by decide)
  rw [if_pos ex_chk, show ex.l.length = 6 from rfl, ex_run.2.2] at h
  exact h
theorem play_ex : PureC Try.prog 20 false [ex.v, .sl 2 1 (rowOf oC (0, 0) [(6, 0)]), .prop (true = true) inferInstance] (· = .tup [.sl 1 3 (fun b => [.int .i64 ((⟨-2, 1, 4, -1, -1, -1⟩ : C6).get b)]), .int .i64 0]) := by
  have h := Play20 ex (by decide) [(6, 0)] (by decide) true
  have e : playV ex [(6, 0)] true = [.sl 1 3 (fun b => [.int .i64 ((⟨-2, 1, 4, -1, -1, -1⟩ : C6).get b)]), .int .i64 0] := by
    unfold playV
    have hc : (((0 : Nat) : Int) ≤ (([(6, 0)] : List (Int × Int)).getD 0 (0, 0)).1 ∧ (([(6, 0)] : List (Int × Int)).getD 0 (0, 0)).1 ≤ ex.l.length) ∧ (0 ≤ (([(6, 0)] : List (Int × Int)).getD 0 (0, 0)).2 ∧ (([(6, 0)] : List (Int × Int)).getD 0 (0, 0)).2 ≤ ex.n - 1) ∧
        (PS.from ex.l PS.begin 0 ((([(6, 0)] : List (Int × Int)).getD 0 (0, 0)).1.toNat - 0)).can (([(6, 0)] : List (Int × Int)).getD 0 (0, 0)).2.toNat := ⟨by decide, by decide, ex_can⟩
    have hp : PS.playD ex [(6, 0)] 1 = some ((PS.run ex.l 6).drain 0, 6) := by
      simp only [PS.playD]
      rw [if_pos hc]
      rfl
    have he : PS.endP ex [(6, 0)] true ((PS.run ex.l 6).drain 0) 6 = ⟨-2, 1, 4, -1, -1, -1⟩ := by decide +kernel
    rw [if_pos ex_chk, if_neg (by unfold badPl; decide), show ([(6, 0)] : List (Int × Int)).length = 1 from rfl, hp]
    dsimp only
    rw [he]
    rfl
  rw [e] at h
  exact h
theorem works13 : PureC Try.prog 13 false [] (· = .prop True inferInstance) := by
  refine pureC_of_exec Try.E_ok Try.func13 rfl (by kernel_rfl) ?_
  (repeat' ((conv => whnf); (first | (with_reducible first | refine spl (fun hc => ?_) fun hc => ?_ | refine spl' (fun hc => ?_) fun hc => ?_) <;> try (exfalso; omega) | with_reducible refine iJ fun hc => ?_ | refine vcq (k := ?_) | refine dr 9 (k := ?_)))); all_goals ((try conv => whnf); try with_reducible exact trivial); (repeat' ((first | (refine callee_fo (Example41) rfl ?_; rintro _ rfl) | (refine pcall_intro (Example41) rfl ?_) | (refine pcall_soft (fun _ => Example41) rfl ?_) | (refine callee_fo (can_ex) rfl ?_; rintro _ rfl) | (refine pcall_intro (can_ex) rfl ?_) | (refine pcall_soft (fun _ => can_ex) rfl ?_) | (refine callee_fo (sure_ex) rfl ?_; rintro _ rfl) | (refine pcall_intro (sure_ex) rfl ?_) | (refine pcall_soft (fun _ => sure_ex) rfl ?_) | (refine callee_fo (writes_ex) rfl ?_; rintro _ rfl) | (refine pcall_intro (writes_ex) rfl ?_) | (refine pcall_soft (fun _ => writes_ex) rfl ?_) | (refine callee_fo (play_ex) rfl ?_; rintro _ rfl) | (refine pcall_intro (play_ex) rfl ?_) | (refine pcall_soft (fun _ => play_ex) rfl ?_)); (repeat' ((conv => whnf); (first | (with_reducible first | refine spl (fun hc => ?_) fun hc => ?_ | refine spl' (fun hc => ?_) fun hc => ?_) <;> try (exfalso; omega) | with_reducible refine iJ fun hc => ?_ | refine vcq (k := ?_) | refine dr 9 (k := ?_)))); all_goals ((try conv => whnf); try with_reducible exact trivial)))
  refine callee_view play_ex ?_
  (repeat' ((conv => whnf); (first | (with_reducible first | refine spl (fun hc => ?_) fun hc => ?_ | refine spl' (fun hc => ?_) fun hc => ?_) <;> try (exfalso; omega) | with_reducible refine iJ fun hc => ?_ | refine vcq (k := ?_) | refine dr 9 (k := ?_)))); all_goals ((try conv => whnf); try with_reducible exact trivial)
  refine ⟨fun i hi => by have : i = 0 := by omega
                         subst this
                         rfl, .inl rfl, ?_⟩
  (repeat' ((conv => whnf); (first | (with_reducible first | refine spl (fun hc => ?_) fun hc => ?_ | refine spl' (fun hc => ?_) fun hc => ?_) <;> try (exfalso; omega) | with_reducible refine iJ fun hc => ?_ | refine vcq (k := ?_) | refine dr 9 (k := ?_)))); all_goals ((try conv => whnf); try with_reducible exact trivial)
  rintro _ rfl
  (repeat' ((conv => whnf); (first | (with_reducible first | refine spl (fun hc => ?_) fun hc => ?_ | refine spl' (fun hc => ?_) fun hc => ?_) <;> try (exfalso; omega) | with_reducible refine iJ fun hc => ?_ | refine vcq (k := ?_) | refine dr 9 (k := ?_)))); all_goals ((try conv => whnf); try with_reducible exact trivial)
  have th : ∀ {p : Nat → Prop}, p 0 → p 1 → p 2 → ∀ i, i < 3 → p i := by
    intro p h0 h1 h2 i hi
    have : i = 0 ∨ i = 1 ∨ i = 2 := by omega
    rcases this with rfl | rfl | rfl <;> assumption
  refine callee_view (sameInts30 3 3 (by omega) (by omega) (fun b => ([-2, 0, 3] : List Int).getD b 0) (fun b => ([-2, 0, 3] : List Int).getD b 0)) ?_
  (repeat' ((conv => whnf); (first | (with_reducible first | refine spl (fun hc => ?_) fun hc => ?_ | refine spl' (fun hc => ?_) fun hc => ?_) <;> try (exfalso; omega) | with_reducible refine iJ fun hc => ?_ | refine vcq (k := ?_) | refine dr 9 (k := ?_)))); all_goals ((try conv => whnf); try with_reducible exact trivial)
  refine ⟨th rfl rfl rfl, .inl rfl, ?_⟩
  (repeat' ((conv => whnf); (first | (with_reducible first | refine spl (fun hc => ?_) fun hc => ?_ | refine spl' (fun hc => ?_) fun hc => ?_) <;> try (exfalso; omega) | with_reducible refine iJ fun hc => ?_ | refine vcq (k := ?_) | refine dr 9 (k := ?_)))); all_goals ((try conv => whnf); try with_reducible exact trivial)
  rintro _ rfl
  (repeat' ((conv => whnf); (first | (with_reducible first | refine spl (fun hc => ?_) fun hc => ?_ | refine spl' (fun hc => ?_) fun hc => ?_) <;> try (exfalso; omega) | with_reducible refine iJ fun hc => ?_ | refine vcq (k := ?_) | refine dr 9 (k := ?_)))); all_goals ((try conv => whnf); try with_reducible exact trivial)
  · refine callee_view (sameInts30 3 3 (by omega) (by omega) (fun b => ([0, 1, 4] : List Int).getD b 0) (fun b => ([0, 1, 4] : List Int).getD b 0)) ?_
    (repeat' ((conv => whnf); (first | (with_reducible first | refine spl (fun hc => ?_) fun hc => ?_ | refine spl' (fun hc => ?_) fun hc => ?_) <;> try (exfalso; omega) | with_reducible refine iJ fun hc => ?_ | refine vcq (k := ?_) | refine dr 9 (k := ?_)))); all_goals ((try conv => whnf); try with_reducible exact trivial)
    refine ⟨th rfl rfl rfl, .inl rfl, ?_⟩
    (repeat' ((conv => whnf); (first | (with_reducible first | refine spl (fun hc => ?_) fun hc => ?_ | refine spl' (fun hc => ?_) fun hc => ?_) <;> try (exfalso; omega) | with_reducible refine iJ fun hc => ?_ | refine vcq (k := ?_) | refine dr 9 (k := ?_)))); all_goals ((try conv => whnf); try with_reducible exact trivial)
    rintro _ rfl
    (repeat' ((conv => whnf); (first | (with_reducible first | refine spl (fun hc => ?_) fun hc => ?_ | refine spl' (fun hc => ?_) fun hc => ?_) <;> try (exfalso; omega) | with_reducible refine iJ fun hc => ?_ | refine vcq (k := ?_) | refine dr 9 (k := ?_)))); all_goals ((try conv => whnf); try with_reducible exact trivial)
    · refine callee_view (sameInts30 3 3 (by omega) (by omega) (fun b => ((⟨-2, 1, 4, -1, -1, -1⟩ : C6).get b)) (fun b => ([-2, 1, 4] : List Int).getD b 0)) ?_
      (repeat' ((conv => whnf); (first | (with_reducible first | refine spl (fun hc => ?_) fun hc => ?_ | refine spl' (fun hc => ?_) fun hc => ?_) <;> try (exfalso; omega) | with_reducible refine iJ fun hc => ?_ | refine vcq (k := ?_) | refine dr 9 (k := ?_)))); all_goals ((try conv => whnf); try with_reducible exact trivial)
      refine ⟨th rfl rfl rfl, .inl rfl, ?_⟩
      (repeat' ((conv => whnf); (first | (with_reducible first | refine spl (fun hc => ?_) fun hc => ?_ | refine spl' (fun hc => ?_) fun hc => ?_) <;> try (exfalso; omega) | with_reducible refine iJ fun hc => ?_ | refine vcq (k := ?_) | refine dr 9 (k := ?_)))); all_goals ((try conv => whnf); try with_reducible exact trivial)
      rintro _ rfl
      (repeat' ((conv => whnf); (first | (with_reducible first | refine spl (fun hc => ?_) fun hc => ?_ | refine spl' (fun hc => ?_) fun hc => ?_) <;> try (exfalso; omega) | with_reducible refine iJ fun hc => ?_ | refine vcq (k := ?_) | refine dr 9 (k := ?_)))); all_goals ((try conv => whnf); try with_reducible exact trivial)
      refine ⟨_, rfl, ?_⟩
      (repeat' ((conv => whnf); (first | (with_reducible first | refine spl (fun hc => ?_) fun hc => ?_ | refine spl' (fun hc => ?_) fun hc => ?_) <;> try (exfalso; omega) | with_reducible refine iJ fun hc => ?_ | refine vcq (k := ?_) | refine dr 9 (k := ?_)))); all_goals ((try conv => whnf); try with_reducible exact trivial)
      exact ⟨⟨fun _ => trivial, fun _ => ⟨rfl, th rfl rfl rfl⟩⟩, trivial⟩
    · exact absurd ⟨rfl, fun _ _ => rfl⟩ hc
  · exact absurd ⟨rfl, fun _ _ => rfl⟩ hc
end Go.Proofs


namespace Go.Proofs
open Go Go.Sx
set_option maxRecDepth 100000
set_option maxHeartbeats 40000000
def rI (v : Int) : Int := if v = -3 then -1 else v
structure RS where
  M : Nat → Int
  E : List (Nat → Int)
  W : Int
namespace RS
def ep (s : RS) (e : Nat) : Nat → Int := s.E.getD e (fun _ => -1)
def medF (s : RS) : Nat → List V := fun b => [.int .i64 (s.M b)]
def epF (n : Nat) (s : RS) : Nat → List V := fun e => [.sl 1 n (fun b => [.int .i64 (s.ep e b)])]
def c (n : Nat) (s : RS) : List V := [.sl 1 n s.medF, .sl 1 s.E.length (s.epF n), .int .i64 s.W]
def v (n : Nat) (s : RS) : V := .agg (s.c n)
end RS
theorem old45 (x : Cache) (n : Nat) (hn : x.n = n) (hn6 : n ≤ 1000000) : NewC Try.prog 45 [x.v] (fun r H => r = .osl 0 n ∧ H = [.row 3 1 n (fun _ => [.int .i64 (-1)]) true]) := by
  refine newC_ent Try.E_ok Try.func45 rfl (by kernel_rfl) ?_
  rw [show x.v = .agg [.int .i64 n, .sl 2 x.l.length (rowOf oC (0, 0) x.l)] from by unfold Cache.v; rw [hn]]
  (repeat' ((conv => whnf); (first | (with_reducible first | refine spl (fun hc => ?_) fun hc => ?_ | refine spl' (fun hc => ?_) fun hc => ?_) <;> try (exfalso; omega) | with_reducible refine iJ fun hc => ?_ | refine vcq (k := ?_) | refine dr 6 (k := ?_) | refine dr 508040603052006 (k := ?_) | refine dr 2008 (k := ?_)))); all_goals ((try conv => whnf); try with_reducible exact trivial)
  refine ⟨Nat, fun i => i ≤ n, fun i => n - i, fun i => [(4, .int .i64 (i : Nat)), (3, .osl 1 i)], fun _ => [], fun i => [.row 3 1 i (fun _ => [.int .i64 (-1)]) true], 0, ⟨by omega, some [some 0, none], ?_⟩, ?_⟩
  · (repeat' ((conv => whnf); (first | (with_reducible first | refine spl (fun hc => ?_) fun hc => ?_ | refine spl' (fun hc => ?_) fun hc => ?_) <;> try (exfalso; omega) | with_reducible refine iJ fun hc => ?_ | refine vcq (k := ?_) | refine dr 6 (k := ?_) | refine dr 508040603052006 (k := ?_) | refine dr 2008 (k := ?_)))); all_goals ((try conv => whnf); try with_reducible exact trivial)
  · intro i hi
    have hi : i ≤ n := hi
    (repeat' ((conv => whnf); (first | (with_reducible first | refine spl (fun hc => ?_) fun hc => ?_ | refine spl' (fun hc => ?_) fun hc => ?_) <;> try (exfalso; omega) | with_reducible refine iJ fun hc => ?_ | refine vcq (k := ?_) | refine dr 6 (k := ?_) | refine dr 508040603052006 (k := ?_) | refine dr 2008 (k := ?_)))); all_goals ((try conv => whnf); try with_reducible exact trivial)
    · refine ⟨i + 1, ⟨by omega, by dsimp only; omega⟩, some [some 0, some 3], ?_⟩
      (repeat' ((conv => whnf); (first | (with_reducible first | refine spl (fun hc => ?_) fun hc => ?_ | refine spl' (fun hc => ?_) fun hc => ?_) <;> try (exfalso; omega) | with_reducible refine iJ fun hc => ?_ | refine vcq (k := ?_) | refine dr 6 (k := ?_) | refine dr 508040603052006 (k := ?_) | refine dr 2008 (k := ?_)))); all_goals ((try conv => whnf); try with_reducible exact trivial)
      refine ⟨appF_one rfl, ?_⟩
      (repeat' ((conv => whnf); (first | (with_reducible first | refine spl (fun hc => ?_) fun hc => ?_ | refine spl' (fun hc => ?_) fun hc => ?_) <;> try (exfalso; omega) | with_reducible refine iJ fun hc => ?_ | refine vcq (k := ?_) | refine dr 6 (k := ?_) | refine dr 508040603052006 (k := ?_) | refine dr 2008 (k := ?_)))); all_goals ((try conv => whnf); try with_reducible exact trivial)
    · obtain rfl : i = n := by omega
      refine ⟨_, _, ⟨rfl, rfl⟩, some [some 1], ?_⟩
      (repeat' ((conv => whnf); (first | (with_reducible first | refine spl (fun hc => ?_) fun hc => ?_ | refine spl' (fun hc => ?_) fun hc => ?_) <;> try (exfalso; omega) | with_reducible refine iJ fun hc => ?_ | refine vcq (k := ?_) | refine dr 6 (k := ?_) | refine dr 508040603052006 (k := ?_) | refine dr 2008 (k := ?_)))); all_goals ((try conv => whnf); try with_reducible exact trivial)
theorem old45p (x : Cache) (n : Nat) (hn : x.n = n) (hn6 : n ≤ 1000000) : PureC Try.prog 45 false [x.v] (· = .sl 1 n (fun _ => [.int .i64 (-1)])) := by
  refine (old45 x n hn hn6).pure ?_
  rintro _ _ ⟨rfl, rfl⟩
  refine ⟨_, rfl, ?_⟩
  (repeat' ((conv => whnf); (first | (with_reducible first | refine spl (fun hc => ?_) fun hc => ?_ | refine spl' (fun hc => ?_) fun hc => ?_) <;> try (exfalso; omega) | with_reducible refine iJ fun hc => ?_ | refine vcq (k := ?_) | refine dr 6 (k := ?_) | refine dr 508040603052006 (k := ?_) | refine dr 2008 (k := ?_)))); all_goals ((try conv => whnf); try with_reducible exact trivial)
def RS.begin : RS := ⟨fun _ => -1, [fun _ => -1], 0⟩
theorem begin16 (x : Cache) (n : Nat) (hn : x.n = n) (hn6 : n ≤ 1000000) : PureC Try.prog 16 true [x.v] (· = RS.begin.v n) := by
  refine pureC_of_exec Try.E_ok Try.func16 rfl (by kernel_rfl) ?_
  (repeat' ((conv => whnf); (first | (with_reducible first | refine spl (fun hc => ?_) fun hc => ?_ | refine spl' (fun hc => ?_) fun hc => ?_) <;> try (exfalso; omega) | with_reducible refine iJ fun hc => ?_ | refine vcq (k := ?_) | refine dr 6 (k := ?_)))); all_goals ((try conv => whnf); try with_reducible exact trivial)
  refine pcall_intro (old45p x n hn hn6) rfl ?_
  (repeat' ((conv => whnf); (first | (with_reducible first | refine spl (fun hc => ?_) fun hc => ?_ | refine spl' (fun hc => ?_) fun hc => ?_) <;> try (exfalso; omega) | with_reducible refine iJ fun hc => ?_ | refine vcq (k := ?_) | refine dr 6 (k := ?_)))); all_goals ((try conv => whnf); try with_reducible exact trivial)
  refine pcall_intro (old45p x n hn hn6) rfl ?_
  (repeat' ((conv => whnf); (first | (with_reducible first | refine spl (fun hc => ?_) fun hc => ?_ | refine spl' (fun hc => ?_) fun hc => ?_) <;> try (exfalso; omega) | with_reducible refine iJ fun hc => ?_ | refine vcq (k := ?_) | refine dr 6 (k := ?_)))); all_goals ((try conv => whnf); try with_reducible exact trivial)
  refine ⟨_, rfl, ?_⟩
  (repeat' ((conv => whnf); (first | (with_reducible first | refine spl (fun hc => ?_) fun hc => ?_ | refine spl' (fun hc => ?_) fun hc => ?_) <;> try (exfalso; omega) | with_reducible refine iJ fun hc => ?_ | refine vcq (k := ?_) | refine dr 6 (k := ?_) | refine dr 508040603052006 (k := ?_) | refine dr 2008 (k := ?_)))); all_goals ((try conv => whnf); try with_reducible exact trivial)
  refine ⟨fun i hi => by obtain rfl : i = 0 := by omega
                         rfl, .inl rfl, ?_⟩
  (repeat' ((conv => whnf); (first | (with_reducible first | refine spl (fun hc => ?_) fun hc => ?_ | refine spl' (fun hc => ?_) fun hc => ?_) <;> try (exfalso; omega) | with_reducible refine iJ fun hc => ?_ | refine vcq (k := ?_) | refine dr 6 (k := ?_) | refine dr 508040603052006 (k := ?_) | refine dr 2008 (k := ?_)))); all_goals ((try conv => whnf); try with_reducible exact trivial)
def RS.h (n : Nat) (s : RS) (β : Nat → Option Nat × Nat) : List O := [.row 3 1 n s.medF false, .grid 31 3 1 s.E.length (fun _ => n) (fun e b => [.int .i64 (s.ep e b)]) β none true]
theorem copied49 (n : Nat) (hn : 1 ≤ n ∧ n ≤ 1000) (s : RS) (hE : s.E.length ≤ 1000) : NewC Try.prog 49 [s.v n] (fun r H => ∃ β, r = .agg [.osl 0 n, .osl 1 s.E.length, .int .i64 s.W] ∧ H = s.h n β) := by
  refine newC_ent Try.E_ok Try.func49 rfl (by kernel_rfl) ?_
  (repeat' ((conv => whnf); (first | (with_reducible first | refine spl (fun hc => ?_) fun hc => ?_ | refine spl' (fun hc => ?_) fun hc => ?_) <;> try (exfalso; omega) | with_reducible refine iJ fun hc => ?_ | refine vcq (k := ?_) | refine dr 508040603052006 (k := ?_)))); all_goals ((try conv => whnf); try with_reducible exact trivial)
  refine ⟨Nat × (Nat → Option Nat × Nat), fun q => q.1 ≤ s.E.length, fun q => s.E.length - q.1, fun q => [(4, .int .i64 (q.1 : Nat)), (5, .any), (8, .any)], fun q => [(3, .cells 34 [.osl 4 n, .osl 5 q.1, .int .i64 s.W]), (4, .row 3 1 n s.medF false)], fun q => [.grid 31 3 1 q.1 (fun _ => n) (fun e b => [.int .i64 (s.ep e b)]) q.2 none true], (0, fun _ => (none, 0)), ⟨by dsimp only; omega, some [some 0, some 1, some 2, some 3, some 4, none], ?_⟩, ?_⟩
  · (repeat' ((conv => whnf); (first | (with_reducible first | refine spl (fun hc => ?_) fun hc => ?_ | refine spl' (fun hc => ?_) fun hc => ?_) <;> try (exfalso; omega) | with_reducible refine iJ fun hc => ?_ | refine vcq (k := ?_) | refine dr 6 (k := ?_) | refine dr 508040603052006 (k := ?_) | refine dr 2008 (k := ?_)))); all_goals ((try conv => whnf); try with_reducible exact trivial)
  · rintro ⟨i, β⟩ hi
    dsimp only at hi
    (repeat' ((conv => whnf); (first | (with_reducible first | refine spl (fun hc => ?_) fun hc => ?_ | refine spl' (fun hc => ?_) fun hc => ?_) <;> try (exfalso; omega) | with_reducible refine iJ fun hc => ?_ | refine vcq (k := ?_) | refine dr 2008 (k := ?_)))); all_goals ((try conv => whnf); try with_reducible exact trivial)
    · intro β1
      (repeat' ((conv => whnf); (first | (with_reducible first | refine spl (fun hc => ?_) fun hc => ?_ | refine spl' (fun hc => ?_) fun hc => ?_) <;> try (exfalso; omega) | with_reducible refine iJ fun hc => ?_ | refine vcq (k := ?_) | refine dr 2008 (k := ?_)))); all_goals ((try conv => whnf); try with_reducible exact trivial)
      refine ⟨⟨rfl, rfl, rfl, rfl, by omega, by dsimp only; omega⟩, fun β2 => ?_⟩
      (repeat' ((conv => whnf); (first | (with_reducible first | refine spl (fun hc => ?_) fun hc => ?_ | refine spl' (fun hc => ?_) fun hc => ?_) <;> try (exfalso; omega) | with_reducible refine iJ fun hc => ?_ | refine vcq (k := ?_) | refine dr 2008 (k := ?_)))); all_goals ((try conv => whnf); try with_reducible exact trivial)
      have hi1 : i < s.E.length := by dsimp only at hc; omega
      refine ⟨(i + 1, β2), ⟨by dsimp only; omega, by dsimp only; omega⟩, some [some 0, some 1, some 2, some 3, some 4, some 9], ?_⟩
      (repeat' ((conv => whnf); (first | (with_reducible first | refine spl (fun hc => ?_) fun hc => ?_ | refine spl' (fun hc => ?_) fun hc => ?_) <;> try (exfalso; omega) | with_reducible refine iJ fun hc => ?_ | refine vcq (k := ?_) | refine dr 6 (k := ?_) | refine dr 508040603052006 (k := ?_) | refine dr 2008 (k := ?_)))); all_goals ((try conv => whnf); try with_reducible exact trivial)
      refine ⟨fun e he => ⟨?_, rfl, fun j _ => ?_⟩, ?_⟩
      · dsimp only
        split
        · rfl
        · omega
      · dsimp only
        split
        · rfl
        · rename_i hlt
          have he' : e < i + 1 := he
          obtain rfl : e = i := by omega
          unfold appF
          rw [if_neg (by omega)]
          rfl
      (repeat' ((conv => whnf); (first | (with_reducible first | refine spl (fun hc => ?_) fun hc => ?_ | refine spl' (fun hc => ?_) fun hc => ?_) <;> try (exfalso; omega) | with_reducible refine iJ fun hc => ?_ | refine vcq (k := ?_) | refine dr 6 (k := ?_) | refine dr 508040603052006 (k := ?_) | refine dr 2008 (k := ?_)))); all_goals ((try conv => whnf); try with_reducible exact trivial)
    · have hi : i = s.E.length := by dsimp only at hc; omega
      subst hi
      refine ⟨_, _, ⟨β, rfl, rfl⟩, some [some 4, some 5], ?_⟩
      (repeat' ((conv => whnf); (first | (with_reducible first | refine spl (fun hc => ?_) fun hc => ?_ | refine spl' (fun hc => ?_) fun hc => ?_) <;> try (exfalso; omega) | with_reducible refine iJ fun hc => ?_ | refine vcq (k := ?_) | refine dr 6 (k := ?_) | refine dr 508040603052006 (k := ?_) | refine dr 2008 (k := ?_)))); all_goals ((try conv => whnf); try with_reducible exact trivial)
      exact ⟨fun _ _ => ⟨rfl, rfl, fun _ _ => rfl⟩, trivial⟩
namespace RS
def wr (s : RS) (e b : Nat) : RS := if s.ep e b = -1 then s else ⟨fun b' => if b' = b then s.ep e b else s.M b', s.E.set e (fun b' => if b' = b then -1 else s.ep e b'), s.W + 1⟩
theorem wr_pos {s : RS} {e b : Nat} (h : s.ep e b ≠ -1) : s.wr e b = ⟨fun b' => if b' = b then s.ep e b else s.M b', s.E.set e (fun b' => if b' = b then -1 else s.ep e b'), s.W + 1⟩ := if_neg h
theorem wr_neg {s : RS} {e b : Nat} (h : s.ep e b = -1) : s.wr e b = s := if_pos h
theorem ep_set {E : List (Nat → Int)} {e e' : Nat} {f : Nat → Int} (he : e < E.length) : (E.set e f).getD e' (fun _ => -1) = if e' = e then f else E.getD e' (fun _ => -1) := by
  simp only [List.getD_eq_getElem?_getD, List.getElem?_set]
  by_cases h : e = e'
  · subst h; simp [he]
  · rw [if_neg h, if_neg (fun g => h g.symm)]
theorem ep_wr {s : RS} {e b : Nat} (he : e < s.E.length) (e' j : Nat) : (⟨fun b' => if b' = b then s.ep e b else s.M b', s.E.set e (fun b' => if b' = b then -1 else s.ep e b'), s.W + 1⟩ : RS).ep e' j = if e' = e ∧ j = b then -1 else s.ep e' j := by
  show ((s.E.set e _).getD e' (fun _ => -1)) j = _
  rw [ep_set he]
  by_cases h : e' = e
  · subst h
    rw [if_pos rfl]
    by_cases h2 : j = b
    · simp [h2]
    · simp [h2]
  · rw [if_neg h, if_neg (fun g => h g.1)]; rfl
end RS
theorem write48 (n : Nat) (hn : 1 ≤ n ∧ n ≤ 1000) (s : RS) (hE : s.E.length ≤ 1000) (hW : 0 ≤ s.W ∧ s.W ≤ 1000000) (e b : Nat) (he : e < s.E.length) (hb : b < n) : PureC Try.prog 48 true [s.v n, .int .i64 e, .int .i64 b] (· = (s.wr e b).v n) := by
  refine pureC_of_exec Try.E_ok Try.func48 rfl (by kernel_rfl) ?_
  (repeat' ((conv => whnf); (first | (with_reducible first | refine spl (fun hc => ?_) fun hc => ?_ | refine spl' (fun hc => ?_) fun hc => ?_) <;> try (exfalso; omega) | with_reducible refine iJ fun hc => ?_ | refine vcq (k := ?_) | refine dr 6 (k := ?_) | refine dr 508040603052006 (k := ?_) | refine dr 2008 (k := ?_)))); all_goals ((try conv => whnf); try with_reducible exact trivial)
  refine callee_new (copied49 n hn s hE) rfl ?_
  rintro _ _ ⟨β, rfl, rfl⟩
  (repeat' ((conv => whnf); (first | (with_reducible first | refine spl (fun hc => ?_) fun hc => ?_ | refine spl' (fun hc => ?_) fun hc => ?_) <;> try (exfalso; omega) | with_reducible refine iJ fun hc => ?_ | refine vcq (k := ?_) | refine dr 6 (k := ?_) | refine dr 508040603052006 (k := ?_) | refine dr 2008 (k := ?_)))); all_goals ((try conv => whnf); try with_reducible exact trivial)
  (repeat' ((first | (refine And.intro ⟨by omega, rfl⟩ ?_) | (refine And.intro ⟨by omega, rfl, rfl, by dsimp only; omega⟩ ?_)); (repeat' ((conv => whnf); (first | (with_reducible first | refine spl (fun hc => ?_) fun hc => ?_ | refine spl' (fun hc => ?_) fun hc => ?_) <;> try (exfalso; omega) | with_reducible refine iJ fun hc => ?_ | refine vcq (k := ?_) | refine dr 6 (k := ?_) | refine dr 508040603052006 (k := ?_) | refine dr 2008 (k := ?_)))); all_goals ((try conv => whnf); try with_reducible exact trivial)))
  · rw [Int.toNat_natCast, Int.toNat_natCast] at hc
    refine ⟨_, rfl, ?_⟩
    rw [RS.wr_pos hc]
    have hep := RS.ep_wr (s := s) (e := e) (b := b) he
    unfold RS.v RS.c
    (repeat' ((conv => whnf); (first | (with_reducible first | refine spl (fun hc => ?_) fun hc => ?_ | refine spl' (fun hc => ?_) fun hc => ?_) <;> try (exfalso; omega) | with_reducible refine iJ fun hc => ?_ | refine vcq (k := ?_) | refine dr 6 (k := ?_) | refine dr 508040603052006 (k := ?_) | refine dr 2008 (k := ?_)))); all_goals ((try conv => whnf); try with_reducible exact trivial)
    refine ⟨fun i _ => ?_, .inl rfl, ?_⟩
    · show spliceP (i = b) [V.int .i64 (s.M i)] 0 [V.int .i64 (s.ep e b)] = [V.int .i64 (if i = b then s.ep e b else s.M i)]
      by_cases h : i = b
      · rw [spliceP_pos h, if_pos h]; rfl
      · rw [spliceP_neg h, if_neg h]
    (repeat' ((conv => whnf); (first | (with_reducible first | refine spl (fun hc => ?_) fun hc => ?_ | refine spl' (fun hc => ?_) fun hc => ?_) <;> try (exfalso; omega) | with_reducible refine iJ fun hc => ?_ | refine vcq (k := ?_) | refine dr 6 (k := ?_) | refine dr 508040603052006 (k := ?_) | refine dr 2008 (k := ?_)))); all_goals ((try conv => whnf); try with_reducible exact trivial)
    refine ⟨by simp, rfl, fun e' he' => ⟨_, rfl, fun j _ => ?_⟩, .inl rfl, ?_⟩
    · show spliceP (e' = e ∧ j = b) [V.int .i64 (s.ep e' j)] 0 [V.int .i64 (-1)] = [V.int .i64 (RS.ep _ e' j)]
      rw [hep]
      by_cases h : e' = e ∧ j = b
      · rw [spliceP_pos h, if_pos h]; rfl
      · rw [spliceP_neg h, if_neg h]
    (repeat' ((conv => whnf); (first | (with_reducible first | refine spl (fun hc => ?_) fun hc => ?_ | refine spl' (fun hc => ?_) fun hc => ?_) <;> try (exfalso; omega) | with_reducible refine iJ fun hc => ?_ | refine vcq (k := ?_) | refine dr 6 (k := ?_) | refine dr 508040603052006 (k := ?_) | refine dr 2008 (k := ?_)))); all_goals ((try conv => whnf); try with_reducible exact trivial)
  · rw [Int.toNat_natCast, Int.toNat_natCast] at hc
    refine ⟨_, rfl, ?_⟩
    rw [RS.wr_neg (Classical.not_not.1 hc)]
    (repeat' ((conv => whnf); (first | (with_reducible first | refine spl (fun hc => ?_) fun hc => ?_ | refine spl' (fun hc => ?_) fun hc => ?_) <;> try (exfalso; omega) | with_reducible refine iJ fun hc => ?_ | refine vcq (k := ?_) | refine dr 6 (k := ?_) | refine dr 508040603052006 (k := ?_) | refine dr 2008 (k := ?_)))); all_goals ((try conv => whnf); try with_reducible exact trivial)
    refine ⟨fun e' _ => ⟨_, rfl, fun j _ => rfl⟩, .inl rfl, ?_⟩
    (repeat' ((conv => whnf); (first | (with_reducible first | refine spl (fun hc => ?_) fun hc => ?_ | refine spl' (fun hc => ?_) fun hc => ?_) <;> try (exfalso; omega) | with_reducible refine iJ fun hc => ?_ | refine vcq (k := ?_) | refine dr 6 (k := ?_) | refine dr 508040603052006 (k := ?_) | refine dr 2008 (k := ?_)))); all_goals ((try conv => whnf); try with_reducible exact trivial)
end Go.Proofs


namespace Go.Sx
open Go
variable {P : Program}
theorem callee_frz {g : FuncId} {keep : Bool} {args args' : List V} {R0 : V → Prop} {H : List O} {K : V → List O → Prop} {ps : List Prop} {ids : List Nat} (h : PureC P g keep args' R0)
    (hf : frzL (frzV 8 H) args = some (ps, ids, args')) (hp : ∀ p ∈ ps, p) (hk : ∀ ret, R0 ret → K ret (goneAt ids H)) : Callee P g args H K := by
  unfold Callee
  refine ⟨h.1, fun I η w vals hS hd => ?_⟩
  obtain ⟨s1, m1, st1⟩ := hS.freeze ids
  have hd' : DenL (frzI I η H ids) [] w args' vals :=
    frzL_sound (C := fun id => ∀ e o b, η[id]? = some e → H[id]? = some o → o.has e b → frzI I η H ids b) (fun v v' ps ids x => frzV_sound hS.obj (fun b hb => .inl hb) 8 v v' ps ids x) args args' ps ids vals hf hp
      (fun id hid e o b he ho hb => .inr ⟨id, hid, e, o, he, ho, hb⟩) hd
  refine (h.2 _ w vals s1.ilt hd').mono ?_
  rintro e w' ⟨ret, v, rfl, hr, hden, hpr⟩
  obtain ⟨s2, m2, st2⟩ := s1.pres hpr
  refine ⟨grow (frzI I η H ids) w w', η, goneAt ids H, ret, v, rfl, hk ret hr, s2, ?_, m1.trans m2, st1.trans st2⟩
  refine Den.mono ⟨fun _ _ he _ => by simp at he, fun b hb => ?_, fun _ _ => rfl⟩ _ _ hden
  rcases hb with hb | hb
  · exact .inl hb.2
  · exact .inr hb
end Go.Sx


namespace Go.Proofs
open Go Go.Sx
set_option maxRecDepth 100000
set_option maxHeartbeats 40000000
namespace RS
def wrB (s : RS) (e : Nat) : Nat → RS
  | 0 => s
  | b + 1 => (s.wrB e b).wr e b
def wrE (n : Nat) (s : RS) : Nat → RS
  | 0 => s
  | e + 1 => (s.wrE n e).wrB e n
theorem wr_len (s : RS) (e b : Nat) : (s.wr e b).E.length = s.E.length := by unfold wr; split <;> simp
theorem wr_W (s : RS) (e b : Nat) : s.W ≤ (s.wr e b).W ∧ (s.wr e b).W ≤ s.W + 1 := by
  unfold wr
  split
  · omega
  · exact ⟨by show s.W ≤ s.W + 1; omega, Int.le_refl _⟩
theorem wrB_len (s : RS) (e : Nat) : ∀ b, (s.wrB e b).E.length = s.E.length
  | 0 => rfl
  | b + 1 => by simp only [wrB]; rw [wr_len, wrB_len s e b]
theorem wrB_W (s : RS) (e : Nat) : ∀ b : Nat, s.W ≤ (s.wrB e b).W ∧ (s.wrB e b).W ≤ s.W + b
  | 0 => by simp [wrB]
  | b + 1 => by have := wrB_W s e b; have := wr_W (s.wrB e b) e b; simp only [wrB]; omega
theorem wrE_len (n : Nat) (s : RS) : ∀ e, (s.wrE n e).E.length = s.E.length
  | 0 => rfl
  | e + 1 => by simp only [wrE]; rw [wrB_len, wrE_len n s e]
theorem wrE_W (n : Nat) (s : RS) : ∀ e : Nat, s.W ≤ (s.wrE n e).W ∧ (s.wrE n e).W ≤ s.W + e * n
  | 0 => by simp [wrE]
  | e + 1 => by
    have := wrE_W n s e; have := wrB_W (s.wrE n e) e n
    simp only [wrE]
    have : ((e + 1 : Nat) : Int) * n = e * n + n := by rw [Int.natCast_add, Int.add_mul]; simp
    omega
end RS
theorem writeAll50 (n : Nat) (hn : 1 ≤ n ∧ n ≤ 1000) (s : RS) (hE : s.E.length ≤ 100) (hW : 0 ≤ s.W ∧ s.W ≤ 10000) (e : Nat) (he : e ≤ s.E.length) : PureC Try.prog 50 true [s.v n, .int .i64 e] (· = (s.wrE n e).v n) := by
  refine pureC_of_exec Try.E_ok Try.func50 rfl (by kernel_rfl) ?_
  (repeat' ((conv => whnf); (first | (with_reducible first | refine spl (fun hc => ?_) fun hc => ?_ | refine spl' (fun hc => ?_) fun hc => ?_) <;> try (exfalso; omega) | with_reducible refine iJ fun hc => ?_ | refine vcq (k := ?_) | refine dr 9 (k := ?_) | refine dr 406030502042005 (k := ?_)))); all_goals ((try conv => whnf); try with_reducible exact trivial)
  refine ⟨Nat, fun i => i ≤ e, fun i => e - i, fun i => [(5, .int .i64 (i : Nat))], fun i => [(0, .cells 34 ((s.wrE n i).c n))], fun _ => [], 0, ⟨by omega, some [some 0, some 1], ?_⟩, ?_⟩
  · (repeat' ((conv => whnf); (first | (with_reducible first | refine spl (fun hc => ?_) fun hc => ?_ | refine spl' (fun hc => ?_) fun hc => ?_) <;> try (exfalso; omega) | with_reducible refine iJ fun hc => ?_ | refine vcq (k := ?_) | refine dr 9 (k := ?_) | refine dr 406030502042005 (k := ?_)))); all_goals ((try conv => whnf); try with_reducible exact trivial)
  · intro i hi
    have hi : i ≤ e := hi
    have hwl := RS.wrE_len n s i
    have hww := RS.wrE_W n s i
    have hin : (i : Int) * n ≤ 100 * 1000 := by
      have : i * n ≤ 100 * 1000 := Nat.mul_le_mul (by omega) hn.2
      exact_mod_cast this
    (repeat' ((conv => whnf); (first | (with_reducible first | refine spl (fun hc => ?_) fun hc => ?_ | refine spl' (fun hc => ?_) fun hc => ?_) <;> try (exfalso; omega) | with_reducible refine iJ fun hc => ?_ | refine vcq (k := ?_) | refine dr 9 (k := ?_) | refine dr 406030502042005 (k := ?_)))); all_goals ((try conv => whnf); try with_reducible exact trivial)
    · have hi1 : i < e := by omega
      refine ⟨Nat, fun b => b ≤ n, fun b => n - b, fun b => [(6, .int .i64 (b : Nat))], fun b => [(0, .cells 34 (((s.wrE n i).wrB i b).c n))], fun _ => [], 0, ⟨by omega, some [some 0, some 1], ?_⟩, ?_⟩
      · (repeat' ((conv => whnf); (first | (with_reducible first | refine spl (fun hc => ?_) fun hc => ?_ | refine spl' (fun hc => ?_) fun hc => ?_) <;> try (exfalso; omega) | with_reducible refine iJ fun hc => ?_ | refine vcq (k := ?_) | refine dr 9 (k := ?_) | refine dr 406030502042005 (k := ?_)))); all_goals ((try conv => whnf); try with_reducible exact trivial)
      · intro b hb
        have hb : b ≤ n := hb
        have hbl := RS.wrB_len (s.wrE n i) i b
        have hbw := RS.wrB_W (s.wrE n i) i b
        (repeat' ((conv => whnf); (first | (with_reducible first | refine spl (fun hc => ?_) fun hc => ?_ | refine spl' (fun hc => ?_) fun hc => ?_) <;> try (exfalso; omega) | with_reducible refine iJ fun hc => ?_ | refine vcq (k := ?_) | refine dr 9 (k := ?_) | refine dr 406030502042005 (k := ?_)))); all_goals ((try conv => whnf); try with_reducible exact trivial)
        · refine callee_fo (write48 n hn ((s.wrE n i).wrB i b) (by omega) (by omega) i b (by omega) (by omega)) rfl ?_
          rintro _ rfl
          (repeat' ((conv => whnf); (first | (with_reducible first | refine spl (fun hc => ?_) fun hc => ?_ | refine spl' (fun hc => ?_) fun hc => ?_) <;> try (exfalso; omega) | with_reducible refine iJ fun hc => ?_ | refine vcq (k := ?_) | refine dr 9 (k := ?_) | refine dr 406030502042005 (k := ?_)))); all_goals ((try conv => whnf); try with_reducible exact trivial)
          refine ⟨b + 1, ⟨by omega, by dsimp only; omega⟩, some [some 0, some 1], ?_⟩
          (repeat' ((conv => whnf); (first | (with_reducible first | refine spl (fun hc => ?_) fun hc => ?_ | refine spl' (fun hc => ?_) fun hc => ?_) <;> try (exfalso; omega) | with_reducible refine iJ fun hc => ?_ | refine vcq (k := ?_) | refine dr 9 (k := ?_) | refine dr 406030502042005 (k := ?_)))); all_goals ((try conv => whnf); try with_reducible exact trivial)
        · obtain rfl : b = n := by omega
          refine ⟨i + 1, ⟨by omega, by dsimp only; omega⟩, some [some 0, some 1], ?_⟩
          (repeat' ((conv => whnf); (first | (with_reducible first | refine spl (fun hc => ?_) fun hc => ?_ | refine spl' (fun hc => ?_) fun hc => ?_) <;> try (exfalso; omega) | with_reducible refine iJ fun hc => ?_ | refine vcq (k := ?_) | refine dr 9 (k := ?_) | refine dr 406030502042005 (k := ?_)))); all_goals ((try conv => whnf); try with_reducible exact trivial)
    · obtain rfl : i = e := by omega
      refine ⟨_, rfl, ?_⟩
      (repeat' ((conv => whnf); (first | (with_reducible first | refine spl (fun hc => ?_) fun hc => ?_ | refine spl' (fun hc => ?_) fun hc => ?_) <;> try (exfalso; omega) | with_reducible refine iJ fun hc => ?_ | refine vcq (k := ?_) | refine dr 9 (k := ?_) | refine dr 406030502042005 (k := ?_)))); all_goals ((try conv => whnf); try with_reducible exact trivial)
namespace RS
def setE (s : RS) (e b : Nat) (v : Int) : RS := ⟨s.M, s.E.set e (fun b' => if b' = b then v else s.ep e b'), s.W⟩
def order (n : Nat) (s : RS) (k : Int) (o : Int × Int) : RS :=
  if o.1 = 1 then s.setE (s.E.length - 1) o.2.toNat k
  else if o.1 = 2 then ((s.setE (s.E.length - 1) o.2.toNat k).wrE n (s.E.length - 1)).wr (s.E.length - 1) o.2.toNat
  else if o.1 = 3 then ⟨s.M, s.E ++ [fun _ => -1], s.W⟩
  else if o.1 = 4 then s.wrE n s.E.length
  else s
theorem ep_setE {s : RS} {e b : Nat} {v : Int} (he : e < s.E.length) (e' j : Nat) : (s.setE e b v).ep e' j = if e' = e ∧ j = b then v else s.ep e' j := by
  show ((s.E.set e _).getD e' (fun _ => -1)) j = _
  rw [ep_set he]
  by_cases h : e' = e
  · subst h
    rw [if_pos rfl]
    by_cases h2 : j = b
    · simp [h2]
    · simp [h2]
  · rw [if_neg h, if_neg (fun g => h g.1)]; rfl
theorem ep_snoc {s : RS} {e j : Nat} : (⟨s.M, s.E ++ [fun _ => -1], s.W⟩ : RS).ep e j = if e < s.E.length then s.ep e j else -1 := by
  show ((s.E ++ [fun _ => -1]).getD e (fun _ => -1)) j = _
  split
  · rename_i h
    simp only [List.getD_eq_getElem?_getD, List.getElem?_append_left h]
    rfl
  · rename_i h
    simp only [List.getD_eq_getElem?_getD, List.getElem?_append_right (Nat.le_of_not_lt h)]
    cases e - s.E.length <;> simp
end RS
theorem do18 (n : Nat) (hn : 1 ≤ n ∧ n ≤ 1000) (s : RS) (hE : 0 < s.E.length ∧ s.E.length ≤ 100) (hW : 0 ≤ s.W ∧ s.W ≤ 10000) (k : Int) (o : Int × Int) (ho : o.1 = 1 ∨ o.1 = 2 → 0 ≤ o.2 ∧ o.2 < n) : PureC Try.prog 18 true [s.v n, oV o, .int .i64 k] (· = (s.order n k o).v n) := by
  have hn1 : ((s.E.length : Int) - 1).toNat = s.E.length - 1 := by omega
  refine pureC_of_exec Try.E_ok Try.func18 rfl (by kernel_rfl) ?_
  by_cases c1 : o.1 = 1
  · obtain ⟨b, hb, e⟩ : ∃ b : Nat, b < n ∧ o.2 = b := ⟨o.2.toNat, by have := ho (.inl c1); omega, by have := ho (.inl c1); omega⟩
    obtain ⟨o1, o2⟩ := o
    dsimp only at c1 e
    subst c1 e
    have ho' : s.order n k (1, (b : Int)) = s.setE (s.E.length - 1) b k := rfl
    rw [ho']
    have hep := RS.ep_setE (s := s) (e := s.E.length - 1) (b := b) (v := k) (by omega)
    (repeat' ((conv => whnf); (first | (with_reducible first | refine spl (fun hc => ?_) fun hc => ?_ | refine spl' (fun hc => ?_) fun hc => ?_) <;> try (exfalso; omega) | with_reducible refine iJ fun hc => ?_ | refine vcq (k := ?_) | refine dr 9 (k := ?_) | refine dr 406030502042005 (k := ?_)))); all_goals ((try conv => whnf); try with_reducible exact trivial)
    refine callee_new (copied49 n hn s (by omega)) rfl ?_
    rintro _ _ ⟨β, rfl, rfl⟩
    (repeat' ((conv => whnf); (first | (with_reducible first | refine spl (fun hc => ?_) fun hc => ?_ | refine spl' (fun hc => ?_) fun hc => ?_) <;> try (exfalso; omega) | with_reducible refine iJ fun hc => ?_ | refine vcq (k := ?_) | refine dr 9 (k := ?_)))); all_goals ((try conv => whnf); try with_reducible exact trivial)
    (repeat' ((first | (refine And.intro ⟨by omega, rfl⟩ ?_) | (refine And.intro ⟨by omega, rfl, rfl, by dsimp only; omega⟩ ?_)); (repeat' ((conv => whnf); (first | (with_reducible first | refine spl (fun hc => ?_) fun hc => ?_ | refine spl' (fun hc => ?_) fun hc => ?_) <;> try (exfalso; omega) | with_reducible refine iJ fun hc => ?_ | refine vcq (k := ?_) | refine dr 9 (k := ?_)))); all_goals ((try conv => whnf); try with_reducible exact trivial)))
    refine ⟨_, rfl, ?_⟩
    (repeat' ((conv => whnf); (first | (with_reducible first | refine spl (fun hc => ?_) fun hc => ?_ | refine spl' (fun hc => ?_) fun hc => ?_) <;> try (exfalso; omega) | with_reducible refine iJ fun hc => ?_ | refine vcq (k := ?_) | refine dr 9 (k := ?_) | refine dr 406030502042005 (k := ?_)))); all_goals ((try conv => whnf); try with_reducible exact trivial)
    refine ⟨by simp [RS.setE], rfl, fun e' he' => ⟨_, rfl, fun j _ => ?_⟩, .inl rfl, ?_⟩
    · show spliceP (e' = ((s.E.length : Int) - 1).toNat ∧ j = b) [V.int .i64 (s.ep e' j)] 0 [V.int .i64 k] = [V.int .i64 (RS.ep _ e' j)]
      rw [hep, hn1]
      by_cases h : e' = s.E.length - 1 ∧ j = b
      · rw [spliceP_pos h, if_pos h]; rfl
      · rw [spliceP_neg h, if_neg h]
    (repeat' ((conv => whnf); (first | (with_reducible first | refine spl (fun hc => ?_) fun hc => ?_ | refine spl' (fun hc => ?_) fun hc => ?_) <;> try (exfalso; omega) | with_reducible refine iJ fun hc => ?_ | refine vcq (k := ?_) | refine dr 9 (k := ?_) | refine dr 406030502042005 (k := ?_)))); all_goals ((try conv => whnf); try with_reducible exact trivial)
  by_cases c2 : o.1 = 2
  · obtain ⟨b, hb, e⟩ : ∃ b : Nat, b < n ∧ o.2 = b := ⟨o.2.toNat, by have := ho (.inr c2); omega, by have := ho (.inr c2); omega⟩
    obtain ⟨o1, o2⟩ := o
    dsimp only at c1 c2 e
    subst c2 e
    have ho' : s.order n k (2, (b : Int)) = ((s.setE (s.E.length - 1) b k).wrE n (s.E.length - 1)).wr (s.E.length - 1) b := rfl
    rw [ho']
    have hep := RS.ep_setE (s := s) (e := s.E.length - 1) (b := b) (v := k) (by omega)
    have hl2 : (s.setE (s.E.length - 1) b k).E.length = s.E.length := by simp [RS.setE]
    have hwa := writeAll50 n hn (s.setE (s.E.length - 1) b k) (by omega) hW (s.E.length - 1) (by omega)
    have hwl := RS.wrE_len n (s.setE (s.E.length - 1) b k) (s.E.length - 1)
    have hww := RS.wrE_W n (s.setE (s.E.length - 1) b k) (s.E.length - 1)
    have hin : ((s.E.length - 1 : Nat) : Int) * n ≤ 100 * 1000 := by
      have : (s.E.length - 1) * n ≤ 100 * 1000 := Nat.mul_le_mul (by omega) hn.2
      exact_mod_cast this
    have hW2 : (s.setE (s.E.length - 1) b k).W = s.W := rfl
    have hw := write48 n hn ((s.setE (s.E.length - 1) b k).wrE n (s.E.length - 1)) (by omega) (by omega) (s.E.length - 1) b (by omega) hb
    have hc1 : ((s.E.length : Int) - 1) = ((s.E.length - 1 : Nat) : Int) := by omega
    rw [← hc1] at hwa hw
    (repeat' ((conv => whnf); (first | (with_reducible first | refine spl (fun hc => ?_) fun hc => ?_ | refine spl' (fun hc => ?_) fun hc => ?_) <;> try (exfalso; omega) | with_reducible refine iJ fun hc => ?_ | refine vcq (k := ?_) | refine dr 9 (k := ?_) | refine dr 406030502042005 (k := ?_)))); all_goals ((try conv => whnf); try with_reducible exact trivial)
    refine callee_new (copied49 n hn s (by omega)) rfl ?_
    rintro _ _ ⟨β, rfl, rfl⟩
    (repeat' ((conv => whnf); (first | (with_reducible first | refine spl (fun hc => ?_) fun hc => ?_ | refine spl' (fun hc => ?_) fun hc => ?_) <;> try (exfalso; omega) | with_reducible refine iJ fun hc => ?_ | refine vcq (k := ?_) | refine dr 9 (k := ?_) | refine dr 406030502042005 (k := ?_)))); all_goals ((try conv => whnf); try with_reducible exact trivial)
    (repeat' ((first | (refine And.intro ⟨by omega, rfl⟩ ?_) | (refine And.intro ⟨by omega, rfl, rfl, by dsimp only; omega⟩ ?_)); (repeat' ((conv => whnf); (first | (with_reducible first | refine spl (fun hc => ?_) fun hc => ?_ | refine spl' (fun hc => ?_) fun hc => ?_) <;> try (exfalso; omega) | with_reducible refine iJ fun hc => ?_ | refine vcq (k := ?_) | refine dr 9 (k := ?_) | refine dr 406030502042005 (k := ?_)))); all_goals ((try conv => whnf); try with_reducible exact trivial)))
    · refine callee_frz (PureC.view hwa ?_) rfl ?_ ?_
      · (repeat' ((conv => whnf); (first | (with_reducible first | refine spl (fun hc => ?_) fun hc => ?_ | refine spl' (fun hc => ?_) fun hc => ?_) <;> try (exfalso; omega) | with_reducible refine iJ fun hc => ?_ | refine vcq (k := ?_) | refine dr 9 (k := ?_) | refine dr 406030502042005 (k := ?_)))); all_goals ((try conv => whnf); try with_reducible exact trivial)
        refine ⟨fun e' he' => ?_, ?_⟩
        · show [V.sl 1 n fun j => spliceP (e' = ((s.E.length : Int) - 1).toNat ∧ j = b) [V.int .i64 (s.ep e' j)] 0 [V.int .i64 k]] = [V.sl 1 n fun j => [V.int .i64 (RS.ep _ e' j)]]
          congr 2
          funext j
          rw [hep, hn1]
          by_cases h : e' = s.E.length - 1 ∧ j = b
          · rw [spliceP_pos h, if_pos h]; rfl
          · rw [spliceP_neg h, if_neg h]
        (repeat' ((conv => whnf); (first | (with_reducible first | refine spl (fun hc => ?_) fun hc => ?_ | refine spl' (fun hc => ?_) fun hc => ?_) <;> try (exfalso; omega) | with_reducible refine iJ fun hc => ?_ | refine vcq (k := ?_) | refine dr 9 (k := ?_) | refine dr 406030502042005 (k := ?_)))); all_goals ((try conv => whnf); try with_reducible exact trivial)
      · simp [app]
      · rintro _ rfl
        (repeat' ((conv => whnf); (first | (with_reducible first | refine spl (fun hc => ?_) fun hc => ?_ | refine spl' (fun hc => ?_) fun hc => ?_) <;> try (exfalso; omega) | with_reducible refine iJ fun hc => ?_ | refine vcq (k := ?_) | refine dr 9 (k := ?_) | refine dr 406030502042005 (k := ?_)))); all_goals ((try conv => whnf); try with_reducible exact trivial)
        refine callee_fo hw rfl ?_
        rintro _ rfl
        (repeat' ((conv => whnf); (first | (with_reducible first | refine spl (fun hc => ?_) fun hc => ?_ | refine spl' (fun hc => ?_) fun hc => ?_) <;> try (exfalso; omega) | with_reducible refine iJ fun hc => ?_ | refine vcq (k := ?_) | refine dr 9 (k := ?_) | refine dr 406030502042005 (k := ?_)))); all_goals ((try conv => whnf); try with_reducible exact trivial)
        refine ⟨_, rfl, ?_⟩
        (repeat' ((conv => whnf); (first | (with_reducible first | refine spl (fun hc => ?_) fun hc => ?_ | refine spl' (fun hc => ?_) fun hc => ?_) <;> try (exfalso; omega) | with_reducible refine iJ fun hc => ?_ | refine vcq (k := ?_) | refine dr 9 (k := ?_) | refine dr 406030502042005 (k := ?_)))); all_goals ((try conv => whnf); try with_reducible exact trivial)
  by_cases c3 : o.1 = 3
  · have ho' : s.order n k o = ⟨s.M, s.E ++ [fun _ => -1], s.W⟩ := by unfold RS.order; rw [if_neg c1, if_neg c2, if_pos c3]
    rw [ho']
    have hep := fun e j => RS.ep_snoc (s := s) (e := e) (j := j)
    (repeat' ((conv => whnf); (first | (with_reducible first | refine spl (fun hc => ?_) fun hc => ?_ | refine spl' (fun hc => ?_) fun hc => ?_) <;> try (exfalso; omega) | with_reducible refine iJ fun hc => ?_ | refine vcq (k := ?_) | refine dr 9 (k := ?_) | refine dr 406030502042005 (k := ?_)))); all_goals ((try conv => whnf); try with_reducible exact trivial)
    refine callee_new (copied49 n hn s (by omega)) rfl ?_
    rintro _ _ ⟨β, rfl, rfl⟩
    (repeat' ((conv => whnf); (first | (with_reducible first | refine spl (fun hc => ?_) fun hc => ?_ | refine spl' (fun hc => ?_) fun hc => ?_) <;> try (exfalso; omega) | with_reducible refine iJ fun hc => ?_ | refine vcq (k := ?_) | refine dr 9 (k := ?_) | refine dr 406030502042005 (k := ?_)))); all_goals ((try conv => whnf); try with_reducible exact trivial)
    refine ⟨Nat, fun i => i ≤ n, fun i => n - i, fun i => [(9, .int .i64 (i : Nat)), (8, .osl 5 i)], fun _ => [], fun i => [.row 3 1 i (fun _ => [.int .i64 (-1)]) true], 0, ⟨by omega, some [some 0, some 1, some 2, some 3, some 4, none], ?_⟩, ?_⟩
    · (repeat' ((conv => whnf); (first | (with_reducible first | refine spl (fun hc => ?_) fun hc => ?_ | refine spl' (fun hc => ?_) fun hc => ?_) <;> try (exfalso; omega) | with_reducible refine iJ fun hc => ?_ | refine vcq (k := ?_) | refine dr 9 (k := ?_) | refine dr 406030502042005 (k := ?_)))); all_goals ((try conv => whnf); try with_reducible exact trivial)
      refine ⟨fun _ _ => ⟨rfl, rfl, fun _ _ => rfl⟩, ?_⟩
      (repeat' ((conv => whnf); (first | (with_reducible first | refine spl (fun hc => ?_) fun hc => ?_ | refine spl' (fun hc => ?_) fun hc => ?_) <;> try (exfalso; omega) | with_reducible refine iJ fun hc => ?_ | refine vcq (k := ?_) | refine dr 9 (k := ?_) | refine dr 406030502042005 (k := ?_)))); all_goals ((try conv => whnf); try with_reducible exact trivial)
    · intro i hi
      have hi : i ≤ n := hi
      (repeat' ((conv => whnf); (first | (with_reducible first | refine spl (fun hc => ?_) fun hc => ?_ | refine spl' (fun hc => ?_) fun hc => ?_) <;> try (exfalso; omega) | with_reducible refine iJ fun hc => ?_ | refine vcq (k := ?_) | refine dr 9 (k := ?_) | refine dr 406030502042005 (k := ?_)))); all_goals ((try conv => whnf); try with_reducible exact trivial)
      · refine ⟨i + 1, ⟨by omega, by dsimp only; omega⟩, some [some 0, some 1, some 2, some 3, some 4, some 7], ?_⟩
        (repeat' ((conv => whnf); (first | (with_reducible first | refine spl (fun hc => ?_) fun hc => ?_ | refine spl' (fun hc => ?_) fun hc => ?_) <;> try (exfalso; omega) | with_reducible refine iJ fun hc => ?_ | refine vcq (k := ?_) | refine dr 9 (k := ?_) | refine dr 406030502042005 (k := ?_)))); all_goals ((try conv => whnf); try with_reducible exact trivial)
        refine ⟨fun _ _ => ⟨rfl, rfl, fun _ _ => rfl⟩, ?_⟩
        (repeat' ((conv => whnf); (first | (with_reducible first | refine spl (fun hc => ?_) fun hc => ?_ | refine spl' (fun hc => ?_) fun hc => ?_) <;> try (exfalso; omega) | with_reducible refine iJ fun hc => ?_ | refine vcq (k := ?_) | refine dr 9 (k := ?_) | refine dr 406030502042005 (k := ?_)))); all_goals ((try conv => whnf); try with_reducible exact trivial)
        refine ⟨appF_one rfl, ?_⟩
        (repeat' ((conv => whnf); (first | (with_reducible first | refine spl (fun hc => ?_) fun hc => ?_ | refine spl' (fun hc => ?_) fun hc => ?_) <;> try (exfalso; omega) | with_reducible refine iJ fun hc => ?_ | refine vcq (k := ?_) | refine dr 9 (k := ?_) | refine dr 406030502042005 (k := ?_)))); all_goals ((try conv => whnf); try with_reducible exact trivial)
      · have hin : i = n := by omega
        subst hin
        intro β1
        (repeat' ((conv => whnf); (first | (with_reducible first | refine spl (fun hc => ?_) fun hc => ?_ | refine spl' (fun hc => ?_) fun hc => ?_) <;> try (exfalso; omega) | with_reducible refine iJ fun hc => ?_ | refine vcq (k := ?_) | refine dr 9 (k := ?_) | refine dr 406030502042005 (k := ?_)))); all_goals ((try conv => whnf); try with_reducible exact trivial)
        refine ⟨⟨rfl, rfl, rfl, rfl, by omega, by omega⟩, fun β2 => ?_⟩
        (repeat' ((conv => whnf); (first | (with_reducible first | refine spl (fun hc => ?_) fun hc => ?_ | refine spl' (fun hc => ?_) fun hc => ?_) <;> try (exfalso; omega) | with_reducible refine iJ fun hc => ?_ | refine vcq (k := ?_) | refine dr 9 (k := ?_) | refine dr 406030502042005 (k := ?_)))); all_goals ((try conv => whnf); try with_reducible exact trivial)
        refine ⟨_, rfl, ?_⟩
        (repeat' ((conv => whnf); (first | (with_reducible first | refine spl (fun hc => ?_) fun hc => ?_ | refine spl' (fun hc => ?_) fun hc => ?_) <;> try (exfalso; omega) | with_reducible refine iJ fun hc => ?_ | refine vcq (k := ?_) | refine dr 9 (k := ?_) | refine dr 406030502042005 (k := ?_)))); all_goals ((try conv => whnf); try with_reducible exact trivial)
        refine ⟨by simp, rfl, fun e' _ => ⟨fun j => [.int .i64 ((⟨s.M, s.E ++ [fun _ => -1], s.W⟩ : RS).ep e' j)], ?_, fun j _ => ?_⟩, .inl rfl, ?_⟩
        · show [V.sl 1 i _] = [V.sl 1 (if e' < s.E.length then i else i) _]
          rw [ite_self]
        · dsimp only
          rw [hep]
          by_cases h : e' < s.E.length
          · rw [if_pos h, if_pos h]
          · rw [if_neg h, if_neg h]
        (repeat' ((conv => whnf); (first | (with_reducible first | refine spl (fun hc => ?_) fun hc => ?_ | refine spl' (fun hc => ?_) fun hc => ?_) <;> try (exfalso; omega) | with_reducible refine iJ fun hc => ?_ | refine vcq (k := ?_) | refine dr 9 (k := ?_) | refine dr 406030502042005 (k := ?_)))); all_goals ((try conv => whnf); try with_reducible exact trivial)
  by_cases c4 : o.1 = 4
  · have ho' : s.order n k o = s.wrE n s.E.length := by unfold RS.order; rw [if_neg c1, if_neg c2, if_neg c3, if_pos c4]
    rw [ho']
    have hwa := writeAll50 n hn s (by omega) hW s.E.length (by omega)
    have hc1 : ((s.E.length : Int) - 1) + 1 = (s.E.length : Int) := by omega
    rw [← hc1] at hwa
    (repeat' ((conv => whnf); (first | (with_reducible first | refine spl (fun hc => ?_) fun hc => ?_ | refine spl' (fun hc => ?_) fun hc => ?_) <;> try (exfalso; omega) | with_reducible refine iJ fun hc => ?_ | refine vcq (k := ?_) | refine dr 9 (k := ?_) | refine dr 406030502042005 (k := ?_)))); all_goals ((try conv => whnf); try with_reducible exact trivial)
    refine callee_new (copied49 n hn s (by omega)) rfl ?_
    rintro _ _ ⟨β, rfl, rfl⟩
    (repeat' ((conv => whnf); (first | (with_reducible first | refine spl (fun hc => ?_) fun hc => ?_ | refine spl' (fun hc => ?_) fun hc => ?_) <;> try (exfalso; omega) | with_reducible refine iJ fun hc => ?_ | refine vcq (k := ?_) | refine dr 9 (k := ?_) | refine dr 406030502042005 (k := ?_)))); all_goals ((try conv => whnf); try with_reducible exact trivial)
    refine callee_frz (PureC.view hwa ?_) rfl ?_ ?_
    · (repeat' ((conv => whnf); (first | (with_reducible first | refine spl (fun hc => ?_) fun hc => ?_ | refine spl' (fun hc => ?_) fun hc => ?_) <;> try (exfalso; omega) | with_reducible refine iJ fun hc => ?_ | refine vcq (k := ?_) | refine dr 9 (k := ?_) | refine dr 406030502042005 (k := ?_)))); all_goals ((try conv => whnf); try with_reducible exact trivial)
    · simp [app]
    · rintro _ rfl
      (repeat' ((conv => whnf); (first | (with_reducible first | refine spl (fun hc => ?_) fun hc => ?_ | refine spl' (fun hc => ?_) fun hc => ?_) <;> try (exfalso; omega) | with_reducible refine iJ fun hc => ?_ | refine vcq (k := ?_) | refine dr 9 (k := ?_) | refine dr 406030502042005 (k := ?_)))); all_goals ((try conv => whnf); try with_reducible exact trivial)
      refine ⟨_, rfl, ?_⟩
      (repeat' ((conv => whnf); (first | (with_reducible first | refine spl (fun hc => ?_) fun hc => ?_ | refine spl' (fun hc => ?_) fun hc => ?_) <;> try (exfalso; omega) | with_reducible refine iJ fun hc => ?_ | refine vcq (k := ?_) | refine dr 9 (k := ?_) | refine dr 406030502042005 (k := ?_)))); all_goals ((try conv => whnf); try with_reducible exact trivial)
  · have ho' : s.order n k o = s := by unfold RS.order; rw [if_neg c1, if_neg c2, if_neg c3, if_neg c4]
    rw [ho']
    (repeat' ((conv => whnf); (first | (with_reducible first | refine spl (fun hc => ?_) fun hc => ?_ | refine spl' (fun hc => ?_) fun hc => ?_) <;> try (exfalso; omega) | with_reducible refine iJ fun hc => ?_ | refine vcq (k := ?_) | refine dr 9 (k := ?_) | refine dr 406030502042005 (k := ?_)))); all_goals ((try conv => whnf); try with_reducible exact trivial)
    refine callee_new (copied49 n hn s (by omega)) rfl ?_
    rintro _ _ ⟨β, rfl, rfl⟩
    (repeat' ((conv => whnf); (first | (with_reducible first | refine spl (fun hc => ?_) fun hc => ?_ | refine spl' (fun hc => ?_) fun hc => ?_) <;> try (exfalso; omega) | with_reducible refine iJ fun hc => ?_ | refine vcq (k := ?_) | refine dr 9 (k := ?_) | refine dr 406030502042005 (k := ?_)))); all_goals ((try conv => whnf); try with_reducible exact trivial)
    refine ⟨_, rfl, ?_⟩
    (repeat' ((conv => whnf); (first | (with_reducible first | refine spl (fun hc => ?_) fun hc => ?_ | refine spl' (fun hc => ?_) fun hc => ?_) <;> try (exfalso; omega) | with_reducible refine iJ fun hc => ?_ | refine vcq (k := ?_) | refine dr 9 (k := ?_) | refine dr 406030502042005 (k := ?_)))); all_goals ((try conv => whnf); try with_reducible exact trivial)
    refine ⟨fun e' _ => ⟨_, rfl, fun j _ => rfl⟩, .inl rfl, ?_⟩
    (repeat' ((conv => whnf); (first | (with_reducible first | refine spl (fun hc => ?_) fun hc => ?_ | refine spl' (fun hc => ?_) fun hc => ?_) <;> try (exfalso; omega) | with_reducible refine iJ fun hc => ?_ | refine vcq (k := ?_) | refine dr 9 (k := ?_) | refine dr 406030502042005 (k := ?_)))); all_goals ((try conv => whnf); try with_reducible exact trivial)
end Go.Proofs


namespace Go.Proofs
open Go Go.Sx
set_option maxRecDepth 100000
set_option maxHeartbeats 40000000
def noRow (n : Nat) (f : Nat → Int) : Prop := ∀ b, b < n → f b = -1
def RS.IsFirst (n : Nat) (s : RS) (e : Nat) : Prop := e < s.E.length ∧ ¬ noRow n (s.ep e) ∧ ∀ i, i < e → noRow n (s.ep i)
theorem first46 (n : Nat) (hn : 1 ≤ n ∧ n ≤ 1000) (s : RS) (hE : s.E.length ≤ 100) : PureC Try.prog 46 false [s.v n] (fun r => (∃ e : Nat, s.IsFirst n e ∧ r = .tup [.int .i64 e, .kb true]) ∨ ((∀ i, i < s.E.length → noRow n (s.ep i)) ∧ r = .tup [.int .i64 0, .kb false])) := by
  refine pureC_of_exec Try.E_ok Try.func46 rfl (by kernel_rfl) ?_
  (repeat' ((conv => whnf); (first | (with_reducible first | refine spl (fun hc => ?_) fun hc => ?_ | refine spl' (fun hc => ?_) fun hc => ?_) <;> try (exfalso; omega) | with_reducible refine iJ fun hc => ?_ | refine vcq (k := ?_) | fail))); all_goals ((try conv => whnf); try with_reducible exact trivial)
  refine ⟨Nat, fun i => i ≤ s.E.length ∧ ∀ j, j < i → noRow n (s.ep j), fun i => s.E.length - i, fun i => [(4, .int .i64 (i : Nat)), (2, .any), (3, .any)], fun _ => [], fun _ => [], 0, ⟨⟨by omega, fun j hj => by omega⟩, some [some 0], ?_⟩, ?_⟩
  · (repeat' ((conv => whnf); (first | (with_reducible first | refine spl (fun hc => ?_) fun hc => ?_ | refine spl' (fun hc => ?_) fun hc => ?_) <;> try (exfalso; omega) | with_reducible refine iJ fun hc => ?_ | refine vcq (k := ?_) | fail))); all_goals ((try conv => whnf); try with_reducible exact trivial)
  · rintro i ⟨h1, h2⟩
    have hti : (i : Int).toNat = i := Int.toNat_natCast i
    (repeat' ((conv => whnf); (first | (with_reducible first | refine spl (fun hc => ?_) fun hc => ?_ | refine spl' (fun hc => ?_) fun hc => ?_) <;> try (exfalso; omega) | with_reducible refine iJ fun hc => ?_ | refine vcq (k := ?_) | fail))); all_goals ((try conv => whnf); try with_reducible exact trivial)
    · have hi : i < s.E.length := by omega
      refine ⟨Nat, fun b => b ≤ n ∧ ∀ j, j < b → s.ep i j = -1, fun b => n - b, fun b => [(5, .int .i64 (b : Nat)), (2, .any), (3, .any)], fun _ => [], fun _ => [], 0, ⟨⟨by omega, fun j hj => by omega⟩, some [some 0], ?_⟩, ?_⟩
      · (repeat' ((conv => whnf); (first | (with_reducible first | refine spl (fun hc => ?_) fun hc => ?_ | refine spl' (fun hc => ?_) fun hc => ?_) <;> try (exfalso; omega) | with_reducible refine iJ fun hc => ?_ | refine vcq (k := ?_) | fail))); all_goals ((try conv => whnf); try with_reducible exact trivial)
      · rintro b ⟨h3, h4⟩
        have htb : (b : Int).toNat = b := Int.toNat_natCast b
        (repeat' ((conv => whnf); (first | (with_reducible first | refine spl (fun hc => ?_) fun hc => ?_ | refine spl' (fun hc => ?_) fun hc => ?_) <;> try (exfalso; omega) | with_reducible refine iJ fun hc => ?_ | refine vcq (k := ?_) | fail))); all_goals ((try conv => whnf); try with_reducible exact trivial)
        · rw [hti, htb] at hc
          refine ⟨_, .inl ⟨i, ⟨hi, fun h => hc (h b (by omega)), h2⟩, rfl⟩, ?_⟩
          (repeat' ((conv => whnf); (first | (with_reducible first | refine spl (fun hc => ?_) fun hc => ?_ | refine spl' (fun hc => ?_) fun hc => ?_) <;> try (exfalso; omega) | with_reducible refine iJ fun hc => ?_ | refine vcq (k := ?_) | fail))); all_goals ((try conv => whnf); try with_reducible exact trivial)
        · rw [hti, htb] at hc
          refine ⟨b + 1, ⟨⟨by omega, fun j hj => ?_⟩, by dsimp only; omega⟩, some [some 0], ?_⟩
          · rcases Nat.lt_or_eq_of_le (show j ≤ b by omega) with g | rfl
            · exact h4 j g
            · exact Classical.not_not.1 hc
          · (repeat' ((conv => whnf); (first | (with_reducible first | refine spl (fun hc => ?_) fun hc => ?_ | refine spl' (fun hc => ?_) fun hc => ?_) <;> try (exfalso; omega) | with_reducible refine iJ fun hc => ?_ | refine vcq (k := ?_) | fail))); all_goals ((try conv => whnf); try with_reducible exact trivial)
        · refine ⟨i + 1, ⟨⟨by omega, fun j hj => ?_⟩, by dsimp only; omega⟩, some [some 0], ?_⟩
          · rcases Nat.lt_or_eq_of_le (show j ≤ i by omega) with g | rfl
            · exact h2 j g
            · exact fun b' hb' => h4 b' (by omega)
          · (repeat' ((conv => whnf); (first | (with_reducible first | refine spl (fun hc => ?_) fun hc => ?_ | refine spl' (fun hc => ?_) fun hc => ?_) <;> try (exfalso; omega) | with_reducible refine iJ fun hc => ?_ | refine vcq (k := ?_) | fail))); all_goals ((try conv => whnf); try with_reducible exact trivial)
    · refine ⟨_, .inr ⟨fun j hj => h2 j (by omega), rfl⟩, ?_⟩
      (repeat' ((conv => whnf); (first | (with_reducible first | refine spl (fun hc => ?_) fun hc => ?_ | refine spl' (fun hc => ?_) fun hc => ?_) <;> try (exfalso; omega) | with_reducible refine iJ fun hc => ?_ | refine vcq (k := ?_) | fail))); all_goals ((try conv => whnf); try with_reducible exact trivial)
def cntF (f : Nat → Int) : Nat → Int
  | 0 => 0
  | b + 1 => cntF f b + if f b = -1 then 0 else 1
def cntFE (n : Nat) (s : RS) : Nat → Int
  | 0 => 0
  | e + 1 => cntFE n s e + cntF (s.ep e) n
def RS.entries (n : Nat) (s : RS) : Int := cntFE n s s.E.length
theorem cntF_le (f : Nat → Int) : ∀ b : Nat, 0 ≤ cntF f b ∧ cntF f b ≤ b
  | 0 => by simp [cntF]
  | b + 1 => by have := cntF_le f b; unfold cntF; split <;> omega
theorem cntFE_le (n : Nat) (s : RS) : ∀ e : Nat, 0 ≤ cntFE n s e ∧ cntFE n s e ≤ (e * n : Nat)
  | 0 => by simp [cntFE]
  | e + 1 => by
    have := cntFE_le n s e
    have := cntF_le (s.ep e) n
    unfold cntFE
    have : (e + 1) * n = e * n + n := Nat.succ_mul e n
    omega
theorem entries19 (n : Nat) (hn : 1 ≤ n ∧ n ≤ 1000) (s : RS) (hE : s.E.length ≤ 100) : PureC Try.prog 19 false [s.v n] (· = .int .i64 (s.entries n)) := by
  refine pureC_of_exec Try.E_ok Try.func19 rfl (by kernel_rfl) ?_
  (repeat' ((conv => whnf); (first | (with_reducible first | refine spl (fun hc => ?_) fun hc => ?_ | refine spl' (fun hc => ?_) fun hc => ?_) <;> try (exfalso; omega) | with_reducible refine iJ fun hc => ?_ | refine vcq (k := ?_) | fail))); all_goals ((try conv => whnf); try with_reducible exact trivial)
  refine ⟨Nat, fun i => i ≤ s.E.length, fun i => s.E.length - i, fun i => [(4, .int .i64 (i : Nat)), (3, .int .i64 (cntFE n s i))], fun _ => [], fun _ => [], 0, ⟨by omega, some [some 0], ?_⟩, ?_⟩
  · (repeat' ((conv => whnf); (first | (with_reducible first | refine spl (fun hc => ?_) fun hc => ?_ | refine spl' (fun hc => ?_) fun hc => ?_) <;> try (exfalso; omega) | with_reducible refine iJ fun hc => ?_ | refine vcq (k := ?_) | fail))); all_goals ((try conv => whnf); try with_reducible exact trivial)
  · intro i hi
    have hi : i ≤ s.E.length := hi
    have hle := cntFE_le n s i
    have hin : i * n ≤ 100 * 1000 := Nat.mul_le_mul (by omega) hn.2
    have hti : (i : Int).toNat = i := Int.toNat_natCast i
    have e0 : cntF (s.ep i) 0 = 0 := rfl
    have eS : cntFE n s (i + 1) = cntFE n s i + cntF (s.ep i) n := rfl
    (repeat' ((conv => whnf); (first | (with_reducible first | refine spl (fun hc => ?_) fun hc => ?_ | refine spl' (fun hc => ?_) fun hc => ?_) <;> try (exfalso; omega) | with_reducible refine iJ fun hc => ?_ | refine vcq (k := ?_) | fail))); all_goals ((try conv => whnf); try with_reducible exact trivial)
    · refine ⟨Nat, fun b => b ≤ n, fun b => n - b, fun b => [(5, .int .i64 (b : Nat)), (3, .int .i64 (cntFE n s i + cntF (s.ep i) b))], fun _ => [], fun _ => [], 0, ⟨by omega, some [some 0], ?_⟩, ?_⟩
      · (repeat' ((conv => whnf); (first | (with_reducible first | refine spl (fun hc => ?_) fun hc => ?_ | refine spl' (fun hc => ?_) fun hc => ?_) <;> try (exfalso; omega) | with_reducible refine iJ fun hc => ?_ | refine vcq (k := ?_) | fail))); all_goals ((try conv => whnf); try with_reducible exact trivial)
      · intro b hb
        have hb : b ≤ n := hb
        have hlb := cntF_le (s.ep i) b
        have htb : (b : Int).toNat = b := Int.toNat_natCast b
        (repeat' ((conv => whnf); (first | (with_reducible first | refine spl (fun hc => ?_) fun hc => ?_ | refine spl' (fun hc => ?_) fun hc => ?_) <;> try (exfalso; omega) | with_reducible refine iJ fun hc => ?_ | refine vcq (k := ?_) | fail))); all_goals ((try conv => whnf); try with_reducible exact trivial)
        · rw [hti, htb] at hc
          have eb : cntF (s.ep i) (b + 1) = cntF (s.ep i) b + 1 := by show cntF (s.ep i) b + (if _ then _ else _) = _; rw [if_neg hc]
          refine ⟨b + 1, ⟨by dsimp only; omega, by dsimp only; omega⟩, some [some 0], ?_⟩
          (repeat' ((conv => whnf); (first | (with_reducible first | refine spl (fun hc => ?_) fun hc => ?_ | refine spl' (fun hc => ?_) fun hc => ?_) <;> try (exfalso; omega) | with_reducible refine iJ fun hc => ?_ | refine vcq (k := ?_) | fail))); all_goals ((try conv => whnf); try with_reducible exact trivial)
        · rw [hti, htb] at hc
          have eb : cntF (s.ep i) (b + 1) = cntF (s.ep i) b := by show cntF (s.ep i) b + (if _ then _ else _) = _; rw [if_pos (Classical.not_not.1 hc)]; omega
          refine ⟨b + 1, ⟨by dsimp only; omega, by dsimp only; omega⟩, some [some 0], ?_⟩
          (repeat' ((conv => whnf); (first | (with_reducible first | refine spl (fun hc => ?_) fun hc => ?_ | refine spl' (fun hc => ?_) fun hc => ?_) <;> try (exfalso; omega) | with_reducible refine iJ fun hc => ?_ | refine vcq (k := ?_) | fail))); all_goals ((try conv => whnf); try with_reducible exact trivial)
        · obtain rfl : b = n := by omega
          refine ⟨i + 1, ⟨by dsimp only; omega, by dsimp only; omega⟩, some [some 0], ?_⟩
          (repeat' ((conv => whnf); (first | (with_reducible first | refine spl (fun hc => ?_) fun hc => ?_ | refine spl' (fun hc => ?_) fun hc => ?_) <;> try (exfalso; omega) | with_reducible refine iJ fun hc => ?_ | refine vcq (k := ?_) | fail))); all_goals ((try conv => whnf); try with_reducible exact trivial)
    · obtain rfl : i = s.E.length := by omega
      refine ⟨_, rfl, ?_⟩
      (repeat' ((conv => whnf); (first | (with_reducible first | refine spl (fun hc => ?_) fun hc => ?_ | refine spl' (fun hc => ?_) fun hc => ?_) <;> try (exfalso; omega) | with_reducible refine iJ fun hc => ?_ | refine vcq (k := ?_) | fail))); all_goals ((try conv => whnf); try with_reducible exact trivial)
end Go.Proofs


namespace Go.Proofs
open Go Go.Sx
set_option maxRecDepth 100000
set_option maxHeartbeats 40000000
inductive DrR (n : Nat) (s : RS) (z : Int) : V → Prop
  | yes (e : Nat) : 0 ≤ z → z < n → s.IsFirst n e → s.ep e z.toNat ≠ -1 → DrR n s z (.tup [(s.wr e z.toNat).v n, .prop True inferInstance])
  | no : (0 ≤ z → z < n → ∀ e, s.IsFirst n e → s.ep e z.toNat = -1) → DrR n s z (.tup [s.v n, .prop False inferInstance])
theorem IsFirst.uniq {n : Nat} {s : RS} {e e' : Nat} (h : s.IsFirst n e) (h' : s.IsFirst n e') : e = e' := by
  rcases Nat.lt_trichotomy e e' with g | g | g
  · exact absurd (h'.2.2 e g) h.2.1
  · exact g
  · exact absurd (h.2.2 e' g) h'.2.1
end Go.Proofs


namespace Go.Proofs
open Go Go.Sx
set_option maxRecDepth 100000
set_option maxHeartbeats 1000000
structure Sim (n : Nat) (r : RS) (u : PS) : Prop where
  len : r.E.length = u.E.length
  W : r.W = u.W
  M : ∀ b, b < n → r.M b = u.M.get b
  ep : ∀ e b, b < n → r.ep e b = rI ((u.ep e).get b)
  hi : ∀ e b, n ≤ b → b < 6 → (u.ep e).get b = -3
  nn : ∀ e b, b < 6 → (u.ep e).get b = -3 ∨ 0 ≤ (u.ep e).get b
theorem rI_no : rI (-3) = -1 := rfl
theorem rI_some {v : Int} (h : v ≠ -3) : rI v = v := if_neg h
namespace Sim
variable {n : Nat} {r : RS} {u : PS}
theorem none_iff (h : Sim n r u) {e b : Nat} (hb : b < n) (hn : n ≤ 6) : r.ep e b = -1 ↔ (u.ep e).get b = -3 := by
  rw [h.ep e b hb]
  rcases h.nn e b (by omega) with g | g
  · rw [g, rI_no]; simp
  · rw [rI_some (by omega)]; omega
theorem wr (h : Sim n r u) (hn : n ≤ 6) {e b : Nat} (hb : b < n) : Sim n (r.wr e b) (u.wr e b) := by
  have hb6 : b < 6 := by omega
  by_cases hc : (u.ep e).get b = -3
  · rw [PS.wr_neg hc, RS.wr_neg ((h.none_iff hb hn).2 hc)]
    exact h
  · have hr : r.ep e b ≠ -1 := fun g => hc ((h.none_iff hb hn).1 g)
    have hl := PS.ep_lt hb6 hc
    have hep := PS.wr_ep u hc hb6
    have hrep := RS.ep_wr (s := r) (e := e) (b := b) (by rw [h.len]; exact hl)
    have hv : r.ep e b = (u.ep e).get b := by rw [h.ep e b hb, rI_some hc]
    rw [PS.wr_pos hc] at hep ⊢
    rw [RS.wr_pos hr]
    refine ⟨by simp [h.len], by show r.W + 1 = u.W + 1; rw [h.W], fun b' hb' => ?_, fun e' b' hb' => ?_, fun e' b' h1 h2 => ?_, fun e' b' hb' => ?_⟩
    · show (if b' = b then r.ep e b else r.M b') = (u.M.set b _).get b'
      rw [C6.get_set hb6 (by omega), hv, h.M b' hb']
    · rw [hrep, hep]
      by_cases g : e' = e
      · subst g
        rw [if_pos rfl, C6.get_set hb6 (by omega)]
        by_cases g2 : b' = b
        · rw [if_pos ⟨rfl, g2⟩, if_pos g2, rI_no]
        · rw [if_neg (fun k => g2 k.2), if_neg g2]; exact h.ep e' b' hb'
      · rw [if_neg (fun k => g k.1), if_neg g]; exact h.ep e' b' hb'
    · rw [hep]
      split
      · rw [C6.get_set hb6 h2, if_neg (by omega)]; exact h.hi e b' h1 h2
      · exact h.hi e' b' h1 h2
    · rw [hep]
      split
      · rw [C6.get_set hb6 hb']
        split
        · exact .inl rfl
        · exact h.nn e b' hb'
      · exact h.nn e' b' hb'
theorem wrB (h : Sim n r u) (hn : n ≤ 6) (e : Nat) : ∀ b, b ≤ n → Sim n (r.wrB e b) (u.wrB e b)
  | 0, _ => h
  | b + 1, hb => (wrB h hn e b (by omega)).wr hn (by omega)
theorem wrB_hi (h : Sim n r u) (hn : n ≤ 6) (e : Nat) : ∀ m, n + m ≤ 6 → u.wrB e (n + m) = u.wrB e n
  | 0, _ => rfl
  | m + 1, hm => by
    have ih := wrB_hi h hn e m (by omega)
    show (u.wrB e (n + m)).wr e (n + m) = _
    rw [ih]
    exact PS.wr_neg ((wrB h hn e n (Nat.le_refl n)).hi e (n + m) (by omega) (by omega))
theorem wrB6 (h : Sim n r u) (hn : n ≤ 6) (e : Nat) : Sim n (r.wrB e n) (u.wrB e 6) := by
  have := wrB_hi h hn e (6 - n) (by omega)
  rw [show n + (6 - n) = 6 by omega] at this
  rw [this]
  exact wrB h hn e n (Nat.le_refl n)
theorem wrE (h : Sim n r u) (hn : n ≤ 6) : ∀ e, Sim n (r.wrE n e) (u.wrE e)
  | 0 => h
  | e + 1 => (wrE h hn e).wrB6 hn e
theorem put (h : Sim n r u) (hn : n ≤ 6) (hl : 0 < u.E.length) {b : Nat} (hb : b < n) {k : Int} (hk : 0 ≤ k) : Sim n (r.setE (r.E.length - 1) b k) (u.put b k) := by
  have hrep := RS.ep_setE (s := r) (e := r.E.length - 1) (b := b) (v := k) (by rw [h.len]; omega)
  have hep : ∀ e', (u.put b k).ep e' = if e' = u.E.length - 1 then (u.ep (u.E.length - 1)).set b k else u.ep e' := by
    intro e'
    show (u.E.set (u.E.length - 1) ((u.E.getD (u.E.length - 1) NO).set b k)).getD e' NO = _
    rw [Go.Proofs.ep_set]
    by_cases g : e' = u.E.length - 1
    · rw [if_pos ⟨g, by omega⟩, if_pos g]; rfl
    · rw [if_neg (fun g2 => g g2.1), if_neg g]; rfl
  refine ⟨by show (r.E.set _ _).length = (u.E.set _ _).length; simp [h.len], h.W, h.M, fun e' b' hb' => ?_, fun e' b' h1 h2 => ?_, fun e' b' hb' => ?_⟩
  · rw [hrep, hep, h.len]
    by_cases g : e' = u.E.length - 1
    · rw [if_pos g, C6.get_set (by omega) (by omega)]
      by_cases g2 : b' = b
      · rw [if_pos ⟨g, g2⟩, if_pos g2, rI_some (by omega)]
      · rw [if_neg (fun k => g2 k.2), if_neg g2, ← g]; exact h.ep e' b' hb'
    · rw [if_neg (fun k => g k.1), if_neg g]; exact h.ep e' b' hb'
  · rw [hep]
    split
    · rw [C6.get_set (by omega) h2, if_neg (by omega)]; exact h.hi _ b' h1 h2
    · exact h.hi e' b' h1 h2
  · rw [hep]
    split
    · rw [C6.get_set (by omega) hb']
      split
      · exact .inr hk
      · exact h.nn _ b' hb'
    · exact h.nn e' b' hb'
theorem order (h : Sim n r u) (hn : n ≤ 6) (hl : 0 < u.E.length) {k : Int} (hk : 0 ≤ k) {o : Int × Int} (ho : o.1 = 1 ∨ o.1 = 2 → 0 ≤ o.2 ∧ o.2 < n) : Sim n (r.order n k o) (u.orderU k o) := by
  unfold RS.order PS.orderU
  by_cases h1 : o.1 = 1
  · rw [if_pos h1, if_pos h1]
    have := ho (.inl h1)
    exact h.put hn hl (by omega) hk
  rw [if_neg h1, if_neg h1]
  by_cases h2 : o.1 = 2
  · rw [if_pos h2, if_pos h2]
    have := ho (.inr h2)
    have h3 := h.put hn hl (show o.2.toNat < n by omega) hk
    have e : r.E.length = u.E.length := h.len
    rw [e] at h3 ⊢
    exact (h3.wrE hn (u.E.length - 1)).wr hn (by omega)
  rw [if_neg h2, if_neg h2]
  by_cases h3 : o.1 = 3
  · rw [if_pos h3, if_pos h3]
    have he : ∀ e, (⟨u.M, u.E ++ [NO], u.W⟩ : PS).ep e = u.ep e := by
      intro e
      show (u.E ++ [NO]).getD e NO = u.E.getD e NO
      rcases Nat.lt_or_ge e u.E.length with g | g
      · simp only [List.getD_eq_getElem?_getD, List.getElem?_append_left g]
      · simp only [List.getD_eq_getElem?_getD, List.getElem?_append_right g, List.getElem?_eq_none g]
        cases e - u.E.length <;> simp
    refine ⟨by simp [h.len], h.W, h.M, fun e b hb => ?_, fun e b h1 h2 => by rw [he]; exact h.hi e b h1 h2, fun e b hb => by rw [he]; exact h.nn e b hb⟩
    rw [RS.ep_snoc, he]
    split
    · exact h.ep e b hb
    · rename_i g
      have : u.ep e = NO := by unfold PS.ep; rw [List.getD_eq_getElem?_getD, List.getElem?_eq_none (by have := h.len; omega)]; rfl
      rw [this, C6.get_all (by omega), rI_no]
  rw [if_neg h3, if_neg h3]
  by_cases h4 : o.1 = 4
  · rw [if_pos h4, if_pos h4]
    have e : r.E.length = u.E.length := h.len
    rw [e]
    exact h.wrE hn _
  · rw [if_neg h4, if_neg h4]
    exact h
theorem noRow_iff (h : Sim n r u) (hn : n ≤ 6) (e : Nat) : noRow n (r.ep e) ↔ u.ep e = NO := by
  constructor
  · intro g
    refine C6.ext' fun b hb => ?_
    rw [C6.get_all hb]
    by_cases hbn : b < n
    · exact (h.none_iff hbn hn).1 (g b hbn)
    · exact h.hi e b (by omega) hb
  · intro g b hb
    rw [h.none_iff hb hn, g]
    exact C6.get_all (by omega)
theorem first (h : Sim n r u) (hn : n ≤ 6) {e : Nat} : RS.IsFirst n r e → idxC isS u.E = e := by
  rintro ⟨h1, h2, h3⟩
  refine idxC_some (by rw [← h.len]; exact h1) (isS_iff.2 fun g => h2 ((h.noRow_iff hn e).2 g)) fun j hj => ?_
  have := (h.noRow_iff hn j).1 (h3 j hj)
  unfold PS.ep at this
  rw [this]
  decide
theorem can_iff (h : Sim n r u) (hn : n ≤ 6) {e b : Nat} (he : RS.IsFirst n r e) (hb : b < n) : u.can b ↔ r.ep e b ≠ -1 := by
  have h1 := h.first hn he
  unfold PS.can
  rw [h1, Int.toNat_natCast]
  exact ⟨fun g k => g.2 ((h.none_iff hb hn).1 k), fun g => ⟨by omega, fun k => g ((h.none_iff hb hn).2 k)⟩⟩
theorem drain (h : Sim n r u) (hn : n ≤ 6) {e b : Nat} (he : RS.IsFirst n r e) (hb : b < n) : Sim n (r.wr e b) (u.drainU b) := by
  have h1 := h.first hn he
  unfold PS.drainU
  rw [h1, Int.toNat_natCast]
  exact h.wr hn hb
theorem cnt (h : Sim n r u) (hn : n ≤ 6) (e : Nat) : cntF (r.ep e) n = cntC (u.ep e) 6 := by
  have h1 : ∀ b, b ≤ n → cntF (r.ep e) b = cntC (u.ep e) b := by
    intro b
    induction b with
    | zero => intro _; rfl
    | succ b ih =>
      intro hb
      show cntF (r.ep e) b + (if _ then _ else _) = cntC (u.ep e) b + (if _ then _ else _)
      rw [ih (by omega)]
      by_cases g : (u.ep e).get b = -3
      · rw [if_pos ((h.none_iff (by omega) hn).2 g), if_pos g]
      · rw [if_neg (fun k => g ((h.none_iff (by omega) hn).1 k)), if_neg g]
  have h2 : ∀ m, n + m ≤ 6 → cntC (u.ep e) (n + m) = cntC (u.ep e) n := by
    intro m
    induction m with
    | zero => intro _; rfl
    | succ m ih =>
      intro hm
      rw [show n + (m + 1) = n + m + 1 by omega, cntC_neg (h.hi e (n + m) (by omega) (by omega)), ih (by omega)]
  rw [h1 n (Nat.le_refl n)]
  have := h2 (6 - n) (by omega)
  rw [show n + (6 - n) = 6 by omega] at this
  exact this.symm
end Sim
theorem cntE_take (E : List C6) : ∀ k, k ≤ E.length → cntE E k = cntL (E.take k)
  | 0, _ => by simp [cntE, cntL]
  | k + 1, hk => by
    have e : E.getD k NO = E[k] := by simp [List.getD_eq_getElem?_getD, show k < E.length by omega]
    rw [List.take_succ_eq_append_getElem (by omega), cntL_append]
    show cntE E k + cntC (E.getD k NO) 6 = _
    rw [cntE_take E k (by omega), e]
    simp [cntL]
theorem cntE_all (E : List C6) : cntE E E.length = cntL E := by rw [cntE_take E _ (Nat.le_refl _), List.take_length]
theorem Sim.entries {n : Nat} {r : RS} {u : PS} (h : Sim n r u) (hn : n ≤ 6) : r.entries n = cntL u.E := by
  have h1 : ∀ k, cntFE n r k = cntE u.E k := by
    intro k
    induction k with
    | zero => rfl
    | succ k ih =>
      show cntFE n r k + cntF (r.ep k) n = cntE u.E k + cntC (u.E.getD k NO) 6
      rw [ih, h.cnt hn k]
      rfl
  unfold RS.entries
  rw [h1, h.len, cntE_all]
theorem Sim.begin {n : Nat} (hn : n ≤ 6) : Sim n RS.begin PS.begin := by
  have he : ∀ e, PS.begin.ep e = NO := fun e => by
    cases e with
    | zero => rfl
    | succ e => rfl
  refine ⟨rfl, rfl, fun b hb => (C6.get_all (by omega)).symm, fun e b hb => ?_, fun e b _ hb => by rw [he]; exact C6.get_all hb, fun e b hb => .inl (by rw [he]; exact C6.get_all hb)⟩
  rw [he, C6.get_all (by omega), rI_no]
  unfold RS.begin RS.ep
  cases e with
  | zero => rfl
  | succ e => rfl
/-! ### all orders, without a drain -/
def runU (l : List (Int × Int)) : Nat → PS
  | 0 => PS.begin
  | k + 1 => (runU l k).orderU k (l.getD k (0, 0))
theorem runU_rch (x : Cache) : ∀ k, k ≤ x.l.length → RchU x k (runU x.l k) []
  | 0, _ => .begin
  | k + 1, h => (runU_rch x k (by omega)).order (by omega)
theorem run_tidy {x : Cache} (hx : x.Ok) : ∀ k, k ≤ x.l.length → PS.run x.l k = (runU x.l k).tidy
  | 0, _ => begin_tidy.symm
  | k + 1, h => by
    have hl : 0 < (runU x.l k).E.length := by rw [((runU_rch x k (by omega)).inv hx).len]; omega
    show (PS.run x.l k).order k _ = ((runU x.l k).orderU k _).tidy
    rw [PS.orderU_tidy _ hl, run_tidy hx k (by omega)]
theorem tidy_cnt (u : PS) (hl : 0 < u.E.length) : cntL u.tidy.E = cntL u.E := by
  obtain ⟨M, E, W⟩ := u
  obtain ⟨l, z, rfl⟩ := PS.split_last E hl
  rw [PS.tidy_at]
  dsimp only
  rw [cntL_append, cntL_append, cntL_filter]
theorem run_waits {x : Cache} (hx : x.Ok) {k : Nat} (hk : k ≤ x.l.length) : (PS.run x.l k).waits = cntL (runU x.l k).E ∧ (PS.run x.l k).W = (runU x.l k).W := by
  have hl : 0 < (runU x.l k).E.length := by rw [((runU_rch x k hk).inv hx).len]; omega
  rw [run_tidy hx k hk]
  unfold PS.waits
  rw [cntE_all, tidy_cnt _ hl]
  exact ⟨rfl, rfl⟩
end Go.Proofs


namespace Go.Proofs
open Go Go.Sx
set_option maxRecDepth 100000
set_option maxHeartbeats 40000000
def canR (n : Nat) (s : RS) (z : Int) : Prop := 0 ≤ z ∧ z < n ∧ ∃ e, s.IsFirst n e ∧ s.ep e z.toNat ≠ -1
open Classical in
noncomputable def drS (n : Nat) (s : RS) (z : Int) : RS := if h : canR n s z then s.wr (Classical.choose h.2.2) z.toNat else s
theorem drS_yes {n : Nat} {s : RS} {z : Int} {e : Nat} (h : 0 ≤ z ∧ z < n) (he : s.IsFirst n e) (hne : s.ep e z.toNat ≠ -1) : drS n s z = s.wr e z.toNat ∧ canR n s z := by
  have hc : canR n s z := ⟨h.1, h.2, e, he, hne⟩
  unfold drS
  rw [dif_pos hc, IsFirst.uniq (Classical.choose_spec hc.2.2).1 he]
  exact ⟨rfl, hc⟩
theorem drS_no {n : Nat} {s : RS} {z : Int} (h : ¬ canR n s z) : drS n s z = s := dif_neg h
theorem Drained17d (n : Nat) (hn : 1 ≤ n ∧ n ≤ 1000) (s : RS) (hE : s.E.length ≤ 100) (hW : 0 ≤ s.W ∧ s.W ≤ 1000000) (z : Int) : PureC Try.prog 17 true [s.v n, .int .i64 z] (· = .tup [(drS n s z).v n, .prop (canR n s z) (Classical.propDecidable _)]) := by
  refine pureC_of_exec Try.E_ok Try.func17 rfl (by kernel_rfl) ?_
  (repeat' ((conv => whnf); (first | (with_reducible first | refine spl (fun hc => ?_) fun hc => ?_ | refine spl' (fun hc => ?_) fun hc => ?_) <;> try (exfalso; omega) | with_reducible refine iJ fun hc => ?_ | refine vcq (k := ?_) | fail))); all_goals ((try conv => whnf); try with_reducible exact trivial)
  refine callee_fo (first46 n hn s hE) rfl ?_
  rintro _ (⟨e, he, rfl⟩ | ⟨h, rfl⟩)
  · have hel := he.1
    have hte : (e : Int).toNat = e := Int.toNat_natCast e
    (repeat' ((conv => whnf); (first | (with_reducible first | refine spl (fun hc => ?_) fun hc => ?_ | refine spl' (fun hc => ?_) fun hc => ?_) <;> try (exfalso; omega) | with_reducible refine iJ fun hc => ?_ | refine vcq (k := ?_) | fail))); all_goals ((try conv => whnf); try with_reducible exact trivial); (repeat' ((first | (refine callee_fo (within47 _ _ _) rfl ?_; rintro _ rfl) | (refine pcall_intro (within47 _ _ _) rfl ?_) | (refine pcall_soft (fun _ => within47 _ _ _) rfl ?_)); (repeat' ((conv => whnf); (first | (with_reducible first | refine spl (fun hc => ?_) fun hc => ?_ | refine spl' (fun hc => ?_) fun hc => ?_) <;> try (exfalso; omega) | with_reducible refine iJ fun hc => ?_ | refine vcq (k := ?_) | fail))); all_goals ((try conv => whnf); try with_reducible exact trivial)))
    · have hno : ¬ canR n s z := by
        rintro ⟨h1, h2, e', he', hne⟩
        obtain rfl := IsFirst.uniq he he'
        rw [hte] at hc
        rcases hc with hc | hc
        · omega
        · exact hne hc
      rw [drS_no hno]
      refine ⟨_, rfl, ?_⟩
      (repeat' ((conv => whnf); (first | (with_reducible first | refine spl (fun hc => ?_) fun hc => ?_ | refine spl' (fun hc => ?_) fun hc => ?_) <;> try (exfalso; omega) | with_reducible refine iJ fun hc => ?_ | refine vcq (k := ?_) | fail))); all_goals ((try conv => whnf); try with_reducible exact trivial)
    · have hz : 0 ≤ z ∧ z < n := by omega
      obtain ⟨b, rfl⟩ : ∃ b : Nat, z = b := ⟨z.toNat, by omega⟩
      have htb : (b : Int).toNat = b := Int.toNat_natCast b
      rw [hte] at hc
      have hy := drS_yes hz he (fun g => hc (.inr g))
      rw [htb] at hy
      rw [hy.1]
      have hcan := hy.2
      refine callee_fo (write48 n hn s (by omega) hW e b hel (by omega)) rfl ?_
      rintro _ rfl
      (repeat' ((conv => whnf); (first | (with_reducible first | refine spl (fun hc => ?_) fun hc => ?_ | refine spl' (fun hc => ?_) fun hc => ?_) <;> try (exfalso; omega) | with_reducible refine iJ fun hc => ?_ | refine vcq (k := ?_) | fail))); all_goals ((try conv => whnf); try with_reducible exact trivial)
      refine ⟨_, rfl, ?_⟩
      (repeat' ((conv => whnf); (first | (with_reducible first | refine spl (fun hc => ?_) fun hc => ?_ | refine spl' (fun hc => ?_) fun hc => ?_) <;> try (exfalso; omega) | with_reducible refine iJ fun hc => ?_ | refine vcq (k := ?_) | fail))); all_goals ((try conv => whnf); try with_reducible exact trivial)
  · have hno : ¬ canR n s z := by
      rintro ⟨_, _, e, he, _⟩
      exact he.2.1 (h e he.1)
    rw [drS_no hno]
    (repeat' ((conv => whnf); (first | (with_reducible first | refine spl (fun hc => ?_) fun hc => ?_ | refine spl' (fun hc => ?_) fun hc => ?_) <;> try (exfalso; omega) | with_reducible refine iJ fun hc => ?_ | refine vcq (k := ?_) | fail))); all_goals ((try conv => whnf); try with_reducible exact trivial)
    refine ⟨_, rfl, ?_⟩
    (repeat' ((conv => whnf); (first | (with_reducible first | refine spl (fun hc => ?_) fun hc => ?_ | refine spl' (fun hc => ?_) fun hc => ?_) <;> try (exfalso; omega) | with_reducible refine iJ fun hc => ?_ | refine vcq (k := ?_) | fail))); all_goals ((try conv => whnf); try with_reducible exact trivial)
namespace Sim
variable {n : Nat} {r : RS} {u : PS}
theorem canR_iff (h : Sim n r u) (hn : n ≤ 6) {z : Int} : canR n r z ↔ 0 ≤ z ∧ z < n ∧ u.can z.toNat := by
  constructor
  · rintro ⟨h1, h2, e, he, hne⟩
    exact ⟨h1, h2, (h.can_iff hn he (by omega)).2 hne⟩
  · rintro ⟨h1, h2, h3⟩
    refine ⟨h1, h2, ?_⟩
    have hl := PS.ep_lt (u := u) (e := (idxC isS u.E).toNat) (b := z.toNat) (by omega) h3.2
    have hi : (idxC isS u.E) = ((idxC isS u.E).toNat : Int) := by have := h3.1; omega
    obtain ⟨e, _, hno, _, _⟩ := PS.drain_spec (show z.toNat < 6 by omega) h3
    have he : RS.IsFirst n r (idxC isS u.E).toNat := by
      refine ⟨by rw [h.len]; exact hl, fun g => ?_, fun j hj => ?_⟩
      · have := (h.noRow_iff hn _).1 g
        have h4 := h3.2
        rw [this] at h4
        exact h4 (C6.get_all (by omega))
      · rw [h.noRow_iff hn]
        rcases idxC_spec isS u.E with ⟨g1, _⟩ | ⟨i, g1, g2, g3, g4⟩
        · omega
        · have := g4 j (by omega)
          exact Classical.not_not.1 (fun k => by
            have k2 : isS (u.E.getD j (C6.all (-3))) = true := isS_iff.2 k
            rw [this] at k2
            cases k2)
    exact ⟨_, he, (h.can_iff hn he (by omega)).1 h3⟩
theorem drain' (h : Sim n r u) (hn : n ≤ 6) {z : Int} (hc : canR n r z) : Sim n (drS n r z) (u.drainU z.toNat) := by
  obtain ⟨h1, h2, e, he, hne⟩ := hc
  rw [(drS_yes ⟨h1, h2⟩ he hne).1]
  exact h.drain hn he (by omega)
end Sim
end Go.Proofs

