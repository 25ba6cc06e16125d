/- Own work: texts of the proof of a law (CaL6, CaU6, CaL7). No condition. -/
import Derived.Test.YtmjaflgakiembaaPart18
namespace Go.Proofs
open Go Go.Sx
set_option maxRecDepth 100000
set_option maxHeartbeats 40000000
-- SxAid2

theorem can_ok {x : Cache} (hx : x.Small) (hk : x.chk = 0) {b : Nat} (hb : (b : Int) < x.n) : PureC Try.prog 25 false [x.v, .int .i64 b] (· = .tup [.sl 1 (canL x b).length (rowOf intC 0 (canL x b)), .int .i64 0]) := by
  have h := Can25 x (by have := hx.l; omega) (fun _ => hx) b
  have e : canV x b = [.sl 1 (canL x b).length (rowOf intC 0 (canL x b)), .int .i64 0] := by
    unfold canV
    rw [if_pos hk, if_pos (by omega), Int.toNat_natCast]
  rw [e] at h
  exact h

end Go.Proofs

namespace Go.Proofs
open Go Go.Sx
set_option maxRecDepth 100000
set_option maxHeartbeats 1000000

/-- one more flush at the end -/
def Cache.fl (x : Cache) : Cache := ⟨x.n, x.l ++ [(4, 0)]⟩

theorem Cache.fl_len (x : Cache) : x.fl.l.length = x.l.length + 1 := by simp [Cache.fl]
theorem Cache.fl_last (x : Cache) : x.fl.l.getD x.l.length (0, 0) = (4, 0) := by simp [Cache.fl, List.getD_eq_getElem?_getD]

theorem Cache.fl_ok {x : Cache} (h : x.Ok) (hl : x.l.length ≤ 15) : x.fl.Ok := by
  refine ⟨h.n, by rw [Cache.fl_len]; omega, fun o ho => ?_⟩
  simp only [Cache.fl, List.mem_append, List.mem_singleton] at ho
  rcases ho with ho | rfl
  · exact h.ord o ho
  · exact .inr ⟨.inr rfl, rfl⟩

theorem fl_no {x : Cache} (hp : 0 < x.l.length) (h4 : (x.l.getD (x.l.length - 1) (0, 0)).1 = 4) {k : Nat} {u : PS} {D : List (Int × Int)} (h : RchU x k u D) : k = x.l.length → ∀ e, u.ep e = NO := by
  induction h with
  | begin => intro g; omega
  | @drain k u D b hr hb hcan ih =>
    intro g e
    refine absurd hcan.2 (fun h => h ?_)
    rw [ih g]
    by_cases hb6 : b < 6
    · exact C6.get_all hb6
    · exact absurd hcan.2 (fun h2 => by
        have e0 := ih g (idxC isS u.E).toNat
        rcases PS.first_at hcan.1 with ⟨pre, c, post, e1, e2, e3, e4⟩
        rw [e4] at e0
        unfold PS.ep at e0
        rw [e1] at e0
        simp [List.getD_eq_getElem?_getD] at e0
        exact e3 e0)
  | @order k u D hr hk ih =>
    intro g e
    exact order4_no u _ _ (by rw [show k = x.l.length - 1 by omega]; exact h4) e

theorem fl_pos {x : Cache} (hx : x.Ok) (hl : x.l.length ≤ 15) {h : C6} (hp : PosI x.fl h) {b : Nat} (hb : b < 6) : h.get b = newP x.fl.l x.fl.l.length b ∧ ∀ q : Nat, q < x.fl.l.length → putQ x.fl q b → (q : Int) ≤ h.get b := by
  have hf := Cache.fl_ok hx hl
  have hlen := x.fl_len
  have hlast := x.fl_last
  obtain ⟨u, D, h1, h2⟩ := hp.u hf
  have hno := fl_no (by omega) (by rw [hlen, show x.l.length + 1 - 1 = x.l.length by omega, hlast]) h1 rfl
  have hM : h = u.M := by
    rcases h2 with h2 | ⟨b0, g1, g2, _⟩
    · exact h2
    · refine absurd g2.2 (fun k => k ?_)
      rw [hno]
      exact C6.get_all (by have := hf.n; omega)
  subst hM
  have hq : ∀ q : Nat, q < x.fl.l.length → putQ x.fl q b → (q : Int) ≤ u.M.get b := by
    intro q hq hpq
    rcases Nat.lt_or_eq_of_le (show q ≤ x.l.length by omega) with g | rfl
    · exact (h1.invB hf).fl x.l.length (by omega) (by rw [hlast]) q g b hb hpq
    · have := hpq.1
      rw [hlast] at this
      rcases this with k | k <;> cases k
  refine ⟨?_, hq⟩
  have h3 := hp.newest hf hb
  rcases newP_put hf (Nat.le_refl _) (b := b) with g | ⟨q, g1, g2, g3⟩
  · have := ((h1.inv hf).inv.med b hb).ge
    omega
  · have := hq q g1 g3
    omega

theorem some_pos {x : Cache} : ∃ h, PosI x h := ⟨_, ⟨⟨PS.run x.l x.l.length, []⟩, (PS.run x.l x.l.length).M, false⟩, .inl ⟨rfl, run_rch x _ (Nat.le_refl _), rfl⟩, rfl⟩

theorem filter_eq : ∀ v ∈ vals9, vals9.filter (fun n => decide (n = v)) = [v] := by
  intro v hv
  simp only [vals9, List.mem_cons, List.not_mem_nil, or_false] at hv
  rcases hv with rfl | rfl | rfl | rfl | rfl | rfl | rfl | rfl | rfl <;> decide

theorem fl_can {x : Cache} (hx : x.Ok) (hf : x.fl.Small) {b : Nat} (hb : b < 6) : canL x.fl b = [newP x.fl.l x.fl.l.length b] := by
  have hl : x.l.length ≤ 15 := by have := hf.l; have := x.fl_len; omega
  have key : ∀ n, PosV x.fl b n ↔ n = newP x.fl.l x.fl.l.length b := by
    intro n
    constructor
    · rintro ⟨c, h1, rfl⟩
      exact (fl_pos hx hl h1 hb).1
    · rintro rfl
      obtain ⟨h, hp⟩ := some_pos (x := x.fl)
      exact ⟨h, hp, (fl_pos hx hl hp hb).1⟩
  unfold canL
  have h2 : ∀ n ∈ vals9, (@decide (PosV x.fl b n) (Classical.propDecidable _)) = decide (n = newP x.fl.l x.fl.l.length b) := fun n _ => decide_eq_decide.2 (key n)
  rw [List.filter_congr h2]
  refine filter_eq _ ?_
  obtain ⟨h, hp⟩ := some_pos (x := x.fl)
  rw [← (fl_pos hx hl hp hb).1]
  exact hp.range hf hb

/-- the orders that put, among the first ones -/
def cntP (l : List (Int × Int)) : Nat → Int
  | 0 => 0
  | k + 1 => if (l.getD k (0, 0)).1 = 1 ∨ (l.getD k (0, 0)).1 = 2 then cntP l k + 1 else cntP l k

theorem cntP_le (l : List (Int × Int)) : ∀ k, 0 ≤ cntP l k ∧ cntP l k ≤ k
  | 0 => by simp [cntP]
  | k + 1 => by have := cntP_le l k; simp only [cntP]; split <;> omega

theorem fl_sureP {x : Cache} (hx : x.Ok) (hf : x.fl.Small) {q : Nat} (hq : q < x.fl.l.length) : sureP x.fl q ↔ ((x.fl.l.getD q (0, 0)).1 = 1 ∨ (x.fl.l.getD q (0, 0)).1 = 2) := by
  have hl : x.l.length ≤ 15 := by have := hf.l; have := x.fl_len; omega
  refine ⟨fun h => h.1, fun h => ⟨h, fun c hc => .inr ?_⟩⟩
  have := hf.ok.blk hq h
  exact (fl_pos hx hl hc (by omega)).2 q hq ⟨h, by omega⟩

theorem fl_sure {x : Cache} (hx : x.Ok) (hf : x.fl.Small) : ∀ k, k ≤ x.fl.l.length → ((sureL x.fl k).length : Int) = cntP x.fl.l k
  | 0, _ => rfl
  | k + 1, hk => by
    have ih := fl_sure hx hf k (by omega)
    have hs := sureL_succ x.fl k
    simp only [cntP]
    by_cases h : (x.fl.l.getD k (0, 0)).1 = 1 ∨ (x.fl.l.getD k (0, 0)).1 = 2
    · rw [if_pos h, hs.1 ((fl_sureP hx hf (by omega)).2 h)]
      simp
      omega
    · rw [if_neg h, hs.2 (fun g => h ((fl_sureP hx hf (by omega)).1 g))]
      exact ih

theorem cntP_fl (x : Cache) : ∀ k, k ≤ x.l.length → cntP x.fl.l k = cntP x.l k
  | 0, _ => rfl
  | k + 1, hk => by
    have e : x.fl.l.getD k (0, 0) = x.l.getD k (0, 0) := by simp [Cache.fl, List.getD_eq_getElem?_getD, List.getElem?_append_left (show k < x.l.length by omega)]
    simp only [cntP]
    rw [e, cntP_fl x k (by omega)]

theorem fl_count {x : Cache} (hx : x.Ok) (hf : x.fl.Small) : ((sureL x.fl x.fl.l.length).length : Int) = cntP x.l x.l.length := by
  rw [fl_sure hx hf _ (Nat.le_refl _), x.fl_len]
  simp only [cntP]
  rw [x.fl_last, if_neg (by decide), cntP_fl x _ (Nat.le_refl _)]

theorem sure_at {x : Cache} {k i : Nat} (hi : i < (sureL x k).length) : ∃ q : Nat, q < k ∧ (sureL x k).getD i 0 = q ∧ sureP x q := by
  have e : (sureL x k).getD i 0 = (sureL x k)[i] := by simp [List.getD_eq_getElem?_getD, hi]
  have h := List.getElem_mem hi
  rw [← e] at h
  have h2 : (sureL x k).getD i 0 ∈ ((List.range k).filter fun i => @decide (sureP x i) (Classical.propDecidable _)).map fun (i : Nat) => (i : Int) := h
  obtain ⟨q, h3, h4⟩ := List.mem_map.1 h2
  obtain ⟨h5, h6⟩ := List.mem_filter.1 h3
  exact ⟨q, List.mem_range.1 h5, h4.symm, @of_decide_eq_true _ (Classical.propDecidable _) h6⟩
end Go.Proofs

namespace Go.Proofs
open Go Go.Sx
set_option maxRecDepth 100000
set_option maxHeartbeats 40000000
-- SxAid2

theorem Copy24 (x : Cache) (hl : x.l.length ≤ 1000000) : NewC Try.prog 24 [x.v] (fun r H => r = .agg [.int .i64 x.n, .osl 0 x.l.length] ∧ H = [.row 42 2 x.l.length (rowOf oC (0, 0) x.l) false]) := by
  refine newC_ent Try.E_ok Try.func24 rfl (by kernel_rfl) ?_
  (repeat' ((conv => whnf); (first | ((first | with_reducible refine spl (fun hc => ?_) (fun hc => ?_) | with_reducible refine spl' (fun hc => ?_) (fun hc => ?_)) <;> try (exfalso; omega)) | with_reducible refine imp_intro (fun hc => ?_) | refine vcq (k := ?_) | refine dr 2005 (k := ?_) | refine dr 27 (k := ?_) | refine dr 13 (k := ?_)))); all_goals (try conv => whnf); all_goals (try with_reducible exact trivial)
  refine ⟨_, _, ⟨rfl, rfl⟩, some [some 3], ?_⟩
  (repeat' ((conv => whnf); (first | ((first | with_reducible refine spl (fun hc => ?_) (fun hc => ?_) | with_reducible refine spl' (fun hc => ?_) (fun hc => ?_)) <;> try (exfalso; omega)) | with_reducible refine imp_intro (fun hc => ?_) | refine vcq (k := ?_) | refine dr 2005 (k := ?_) | refine dr 27 (k := ?_) | refine dr 13 (k := ?_)))); all_goals (try conv => whnf); all_goals (try with_reducible exact trivial)

theorem sure_ok {x : Cache} (hx : x.Small) (hk : x.chk = 0) : PureC Try.prog 28 false [x.v] (· = .tup [.sl 1 (sureL x x.l.length).length (rowOf intC 0 (sureL x x.l.length)), .int .i64 0]) :=
  (Sure28 x (by have := hx.l; omega) (fun _ => hx)).mono fun _ h => h.1 hk

theorem sureP_img {x : Cache} {q : Nat} (hs : sureP x q) (hq : q < x.l.length) (hx : x.Ok) {h : C6} (hp : PosI x h) : 0 ≤ (x.l.getD q (0, 0)).2 ∧ (x.l.getD q (0, 0)).2 < x.n ∧ (h.get (x.l.getD q (0, 0)).2.toNat = -2 ∨ (q : Int) ≤ h.get (x.l.getD q (0, 0)).2.toNat) := by
  have h1 := hx.ord _ (Cache.at hq)
  have h2 := hs.1
  unfold Cache.OkO at h1
  exact ⟨by omega, by omega, hs.2 h hp⟩

theorem can_fl {x : Cache} (hx : x.Ok) (hf : x.fl.Small) (hfk : x.fl.chk = 0) {b : Nat} (hb : (b : Int) < x.n) : PureC Try.prog 25 false [x.fl.v, .int .i64 b] (· = .tup [.sl 1 1 (rowOf intC 0 [newP x.fl.l x.fl.l.length b]), .int .i64 0]) := by
  have hn := hx.n
  have h := can_ok hf hfk (b := b) hb
  rw [fl_can hx hf (by omega)] at h
  exact h

theorem Kept9 (x : Cache) (hl : x.l.length ≤ 9223372036854775807) (D : List (Int × Int)) (hD : D.length ≤ 9223372036854775807) (torn : Bool) : PureC Try.prog 9 false [x.v, .agg [.sl 2 D.length (rowOf oC (0, 0) D), .prop (torn = true) inferInstance]] (· = .prop True inferInstance) := by
  refine pureC_of_exec Try.E_ok Try.func9 rfl (by kernel_rfl) ?_
  (repeat' ((conv => whnf); (first | ((first | with_reducible refine spl (fun hc => ?_) (fun hc => ?_) | with_reducible refine spl' (fun hc => ?_) (fun hc => ?_)) <;> try (exfalso; omega)) | with_reducible refine imp_intro (fun hc => ?_) | refine vcq (k := ?_) | refine dr 2005 (k := ?_) | refine dr 27 (k := ?_) | refine dr 13 (k := ?_)))); all_goals (try conv => whnf); all_goals (try with_reducible exact trivial); (repeat' ((first | (refine callee_fo (valid12 x hl) rfl ?_; rintro _ rfl) | (refine pcall_intro (valid12 x hl) rfl ?_) | (refine pcall_soft (fun _ => valid12 x hl) rfl ?_) | (refine callee_fo (works13) rfl ?_; rintro _ rfl) | (refine pcall_intro (works13) rfl ?_) | (refine pcall_soft (fun _ => works13) rfl ?_)); (repeat' ((conv => whnf); (first | ((first | with_reducible refine spl (fun hc => ?_) (fun hc => ?_) | with_reducible refine spl' (fun hc => ?_) (fun hc => ?_)) <;> try (exfalso; omega)) | with_reducible refine imp_intro (fun hc => ?_) | refine vcq (k := ?_) | refine dr 2005 (k := ?_) | refine dr 27 (k := ?_) | refine dr 13 (k := ?_)))); all_goals (try conv => whnf); all_goals (try with_reducible exact trivial)))
  · refine ⟨_, rfl, ?_⟩
    (repeat' ((conv => whnf); (first | ((first | with_reducible refine spl (fun hc => ?_) (fun hc => ?_) | with_reducible refine spl' (fun hc => ?_) (fun hc => ?_)) <;> try (exfalso; omega)) | with_reducible refine imp_intro (fun hc => ?_) | refine vcq (k := ?_) | refine dr 2005 (k := ?_) | refine dr 27 (k := ?_) | refine dr 13 (k := ?_)))); all_goals (try conv => whnf); all_goals (try with_reducible exact trivial)
  · have hv : ¬ x.far ∧ x.chk = 0 := Classical.not_not.1 (fun g => hc (.inl (.inl g)))
    have hD40 : D.length ≤ 40 := by omega
    have h6 : x.l.length ≤ 6 := by omega
    have hx := Cache.valid hv
    have hk := hv.2
    have hn := hx.ok.n
    have h3 := hx.n
    have hfl := x.fl_len
    have hf : x.fl.Small := ⟨Cache.fl_ok hx.ok (by omega), h3, by omega⟩
    have hfk : x.fl.chk = 0 := if_pos hf.ok
    have hsl := sureL_len x x.l.length
    have hat := fun {i : Nat} (hi : i < (sureL x x.l.length).length) => sure_at hi
    clear hc hv
    refine callee_fo (sure_ok hx hk) rfl ?_
    rintro _ rfl
    generalize sureL x x.l.length = L at *
    (repeat' ((conv => whnf); (first | ((first | with_reducible refine spl (fun hc => ?_) (fun hc => ?_) | with_reducible refine spl' (fun hc => ?_) (fun hc => ?_)) <;> try (exfalso; omega)) | with_reducible refine imp_intro (fun hc => ?_) | refine vcq (k := ?_) | refine dr 2005 (k := ?_) | refine dr 27 (k := ?_) | refine dr 13 (k := ?_)))); all_goals (try conv => whnf); all_goals (try with_reducible exact trivial)
    refine callee_fo (Play20 x (by omega) D (by omega) torn) rfl ?_
    rintro _ rfl
    rcases play_cases hk D torn with e | ⟨h, hp, ht, e⟩
    · rw [e]
      clear e
      (repeat' ((conv => whnf); (first | ((first | with_reducible refine spl (fun hc => ?_) (fun hc => ?_) | with_reducible refine spl' (fun hc => ?_) (fun hc => ?_)) <;> try (exfalso; omega)) | with_reducible refine imp_intro (fun hc => ?_) | refine vcq (k := ?_) | refine dr 2005 (k := ?_) | refine dr 27 (k := ?_) | refine dr 13 (k := ?_)))); all_goals (try conv => whnf); all_goals (try with_reducible exact trivial)
      clear hat hsl hl hD hD40
      refine callee_new (Copy24 x (by omega)) rfl ?_
      rintro _ _ ⟨rfl, rfl⟩
      (repeat' ((conv => whnf); (first | ((first | with_reducible refine spl (fun hc => ?_) (fun hc => ?_) | with_reducible refine spl' (fun hc => ?_) (fun hc => ?_)) <;> try (exfalso; omega)) | with_reducible refine imp_intro (fun hc => ?_) | refine vcq (k := ?_) | refine dr 2005 (k := ?_) | refine dr 27 (k := ?_) | refine dr 13 (k := ?_)))); all_goals (try conv => whnf); all_goals (try with_reducible exact trivial)
      refine callee_view (sure_ok hf hfk) ?_
      (repeat' ((conv => whnf); (first | ((first | with_reducible refine spl (fun hc => ?_) (fun hc => ?_) | with_reducible refine spl' (fun hc => ?_) (fun hc => ?_)) <;> try (exfalso; omega)) | with_reducible refine imp_intro (fun hc => ?_) | refine vcq (k := ?_) | refine dr 2005 (k := ?_) | refine dr 27 (k := ?_) | refine dr 13 (k := ?_)))); all_goals (try conv => whnf); all_goals (try with_reducible exact trivial)
      refine ⟨rowOf_snoc (c := oC) (a := (4, 0)) (l := x.l) rfl (fun _ _ => rfl), .inl rfl, ?_⟩
      (repeat' ((conv => whnf); (first | ((first | with_reducible refine spl (fun hc => ?_) (fun hc => ?_) | with_reducible refine spl' (fun hc => ?_) (fun hc => ?_)) <;> try (exfalso; omega)) | with_reducible refine imp_intro (fun hc => ?_) | refine vcq (k := ?_) | refine dr 2005 (k := ?_) | refine dr 27 (k := ?_) | refine dr 13 (k := ?_)))); all_goals (try conv => whnf); all_goals (try with_reducible exact trivial)
      rintro _ rfl
      have hct := fl_count hx.ok hf
      have hcp := cntP_le x.l x.l.length
      generalize sureL x.fl x.fl.l.length = M at hct ⊢
      (repeat' ((conv => whnf); (first | ((first | with_reducible refine spl (fun hc => ?_) (fun hc => ?_) | with_reducible refine spl' (fun hc => ?_) (fun hc => ?_)) <;> try (exfalso; omega)) | with_reducible refine imp_intro (fun hc => ?_) | refine vcq (k := ?_) | refine dr 2005 (k := ?_) | refine dr 27 (k := ?_) | refine dr 13 (k := ?_)))); all_goals (try conv => whnf); all_goals (try with_reducible exact trivial)
      refine callee_view (newest_ok hfk (by omega)) ?_
      (repeat' ((conv => whnf); (first | ((first | with_reducible refine spl (fun hc => ?_) (fun hc => ?_) | with_reducible refine spl' (fun hc => ?_) (fun hc => ?_)) <;> try (exfalso; omega)) | with_reducible refine imp_intro (fun hc => ?_) | refine vcq (k := ?_) | refine dr 2005 (k := ?_) | refine dr 27 (k := ?_) | refine dr 13 (k := ?_)))); all_goals (try conv => whnf); all_goals (try with_reducible exact trivial)
      refine ⟨rowOf_snoc (c := oC) (a := (4, 0)) (l := x.l) rfl (fun _ _ => rfl), .inl rfl, ?_⟩
      (repeat' ((conv => whnf); (first | ((first | with_reducible refine spl (fun hc => ?_) (fun hc => ?_) | with_reducible refine spl' (fun hc => ?_) (fun hc => ?_)) <;> try (exfalso; omega)) | with_reducible refine imp_intro (fun hc => ?_) | refine vcq (k := ?_) | refine dr 2005 (k := ?_) | refine dr 27 (k := ?_) | refine dr 13 (k := ?_)))); all_goals (try conv => whnf); all_goals (try with_reducible exact trivial)
      rintro _ rfl
      have hfn : x.fl.n = x.n := rfl
      (repeat' ((conv => whnf); (first | ((first | with_reducible refine spl (fun hc => ?_) (fun hc => ?_) | with_reducible refine spl' (fun hc => ?_) (fun hc => ?_)) <;> try (exfalso; omega)) | with_reducible refine imp_intro (fun hc => ?_) | refine vcq (k := ?_) | refine dr 2005 (k := ?_) | refine dr 27 (k := ?_) | refine dr 13 (k := ?_)))); all_goals (try conv => whnf); all_goals (try with_reducible exact trivial)
      refine ⟨Nat, fun i => i ≤ x.l.length, fun i => x.l.length - i, fun i => [(17, .int .i64 (i : Nat)), (16, .int .i64 (cntP x.l i)), (150, .any), (25, .any), (31, .any), (47, .any)], fun _ => [], fun _ => [], 0, ⟨by omega, none, ?_⟩, ?_⟩
      · (repeat' ((conv => whnf); (first | ((first | with_reducible refine spl (fun hc => ?_) (fun hc => ?_) | with_reducible refine spl' (fun hc => ?_) (fun hc => ?_)) <;> try (exfalso; omega)) | with_reducible refine imp_intro (fun hc => ?_) | refine vcq (k := ?_) | refine dr 2005 (k := ?_) | refine dr 27 (k := ?_) | refine dr 13 (k := ?_)))); all_goals (try conv => whnf); all_goals (try with_reducible exact trivial)
      · intro i hi
        have hi : i ≤ x.l.length := hi
        have hti : (i : Int).toNat = i := Int.toNat_natCast i
        have hci := cntP_le x.l i
        have hcs : cntP x.l (i + 1) = if (x.l.getD i (0, 0)).1 = 1 ∨ (x.l.getD i (0, 0)).1 = 2 then cntP x.l i + 1 else cntP x.l i := rfl
        (repeat' ((conv => whnf); (first | ((first | with_reducible refine spl (fun hc => ?_) (fun hc => ?_) | with_reducible refine spl' (fun hc => ?_) (fun hc => ?_)) <;> try (exfalso; omega)) | with_reducible refine imp_intro (fun hc => ?_) | refine vcq (k := ?_) | refine dr 2005 (k := ?_) | refine dr 27 (k := ?_) | refine dr 13 (k := ?_)))); all_goals (try conv => whnf); all_goals (try with_reducible exact trivial); (repeat' ((first | (refine callee_fo (puts35 _) rfl ?_; rintro _ rfl) | (refine pcall_intro (puts35 _) rfl ?_) | (refine pcall_soft (fun _ => puts35 _) rfl ?_)); (repeat' ((conv => whnf); (first | ((first | with_reducible refine spl (fun hc => ?_) (fun hc => ?_) | with_reducible refine spl' (fun hc => ?_) (fun hc => ?_)) <;> try (exfalso; omega)) | with_reducible refine imp_intro (fun hc => ?_) | refine vcq (k := ?_) | refine dr 2005 (k := ?_) | refine dr 27 (k := ?_) | refine dr 13 (k := ?_)))); all_goals (try conv => whnf); all_goals (try with_reducible exact trivial)))
        · rw [hti] at hc
          rw [if_pos hc] at hcs
          refine ⟨i + 1, ⟨by omega, by dsimp only; omega⟩, none, ?_⟩
          (repeat' ((conv => whnf); (first | ((first | with_reducible refine spl (fun hc => ?_) (fun hc => ?_) | with_reducible refine spl' (fun hc => ?_) (fun hc => ?_)) <;> try (exfalso; omega)) | with_reducible refine imp_intro (fun hc => ?_) | refine vcq (k := ?_) | refine dr 2005 (k := ?_) | refine dr 27 (k := ?_) | refine dr 13 (k := ?_)))); all_goals (try conv => whnf); all_goals (try with_reducible exact trivial)
        · rw [hti] at hc
          rw [if_neg hc] at hcs
          refine ⟨i + 1, ⟨by omega, by dsimp only; omega⟩, none, ?_⟩
          (repeat' ((conv => whnf); (first | ((first | with_reducible refine spl (fun hc => ?_) (fun hc => ?_) | with_reducible refine spl' (fun hc => ?_) (fun hc => ?_)) <;> try (exfalso; omega)) | with_reducible refine imp_intro (fun hc => ?_) | refine vcq (k := ?_) | refine dr 2005 (k := ?_) | refine dr 27 (k := ?_) | refine dr 13 (k := ?_)))); all_goals (try conv => whnf); all_goals (try with_reducible exact trivial)
        · have hil : i = x.l.length := by omega
          clear hcs
          have hwk := works13
          refine ⟨Nat, fun b => b ≤ x.n.toNat, fun b => x.n.toNat - b, fun b => [(18, .int .i64 (b : Nat))], fun _ => [], fun _ => [], 0, ⟨by omega, none, ?_⟩, ?_⟩
          · (repeat' ((conv => whnf); (first | ((first | with_reducible refine spl (fun hc => ?_) (fun hc => ?_) | with_reducible refine spl' (fun hc => ?_) (fun hc => ?_)) <;> try (exfalso; omega)) | with_reducible refine imp_intro (fun hc => ?_) | refine vcq (k := ?_) | refine dr 2005 (k := ?_) | refine dr 27 (k := ?_) | refine dr 13 (k := ?_)))); all_goals (try conv => whnf); all_goals (try with_reducible exact trivial)
          · intro b hb
            have hb : b ≤ x.n.toNat := hb
            have htb : (b : Int).toNat = b := Int.toNat_natCast b
            (repeat' ((conv => whnf); (first | ((first | with_reducible refine spl (fun hc => ?_) (fun hc => ?_) | with_reducible refine spl' (fun hc => ?_) (fun hc => ?_)) <;> try (exfalso; omega)) | with_reducible refine imp_intro (fun hc => ?_) | refine vcq (k := ?_) | refine dr 2005 (k := ?_) | refine dr 27 (k := ?_) | refine dr 13 (k := ?_)))); all_goals (try conv => whnf); all_goals (try with_reducible exact trivial)
            · have hb3 : (b : Int) < x.n := by omega
              have hcf := can_fl hx.ok hf hfk hb3
              have hsm := sameInts30 1 1 (by omega) (by omega) (fun j => ([newP x.fl.l x.fl.l.length b] : List Int).getD j 0) (fun _ => newP x.fl.l x.fl.l.length b)
              refine callee_view hcf ?_
              (repeat' ((conv => whnf); (first | ((first | with_reducible refine spl (fun hc => ?_) (fun hc => ?_) | with_reducible refine spl' (fun hc => ?_) (fun hc => ?_)) <;> try (exfalso; omega)) | with_reducible refine imp_intro (fun hc => ?_) | refine vcq (k := ?_) | refine dr 2005 (k := ?_) | refine dr 27 (k := ?_) | refine dr 13 (k := ?_)))); all_goals (try conv => whnf); all_goals (try with_reducible exact trivial)
              refine ⟨rowOf_snoc (c := oC) (a := (4, 0)) (l := x.l) rfl (fun _ _ => rfl), .inl rfl, ?_⟩
              (repeat' ((conv => whnf); (first | ((first | with_reducible refine spl (fun hc => ?_) (fun hc => ?_) | with_reducible refine spl' (fun hc => ?_) (fun hc => ?_)) <;> try (exfalso; omega)) | with_reducible refine imp_intro (fun hc => ?_) | refine vcq (k := ?_) | refine dr 2005 (k := ?_) | refine dr 27 (k := ?_) | refine dr 13 (k := ?_)))); all_goals (try conv => whnf); all_goals (try with_reducible exact trivial)
              rintro _ rfl
              (repeat' ((conv => whnf); (first | ((first | with_reducible refine spl (fun hc => ?_) (fun hc => ?_) | with_reducible refine spl' (fun hc => ?_) (fun hc => ?_)) <;> try (exfalso; omega)) | with_reducible refine imp_intro (fun hc => ?_) | refine vcq (k := ?_) | refine dr 2005 (k := ?_) | refine dr 27 (k := ?_) | refine dr 13 (k := ?_)))); all_goals (try conv => whnf); all_goals (try with_reducible exact trivial)
              refine callee_view hsm ?_
              (repeat' ((conv => whnf); (first | ((first | with_reducible refine spl (fun hc => ?_) (fun hc => ?_) | with_reducible refine spl' (fun hc => ?_) (fun hc => ?_)) <;> try (exfalso; omega)) | with_reducible refine imp_intro (fun hc => ?_) | refine vcq (k := ?_) | refine dr 2005 (k := ?_) | refine dr 27 (k := ?_) | refine dr 13 (k := ?_)))); all_goals (try conv => whnf); all_goals (try with_reducible exact trivial)
              rintro _ rfl
              (repeat' ((conv => whnf); (first | ((first | with_reducible refine spl (fun hc => ?_) (fun hc => ?_) | with_reducible refine spl' (fun hc => ?_) (fun hc => ?_)) <;> try (exfalso; omega)) | with_reducible refine imp_intro (fun hc => ?_) | refine vcq (k := ?_) | refine dr 2005 (k := ?_) | refine dr 27 (k := ?_) | refine dr 13 (k := ?_)))); all_goals (try conv => whnf); all_goals (try with_reducible exact trivial)
              · exact absurd ⟨rfl, fun b' hb' => by obtain rfl : b' = 0 := by omega
                                                    rfl⟩ hc
              · refine ⟨b + 1, ⟨by omega, by dsimp only; omega⟩, some [some 0, some 1, some 2, some 3, some 4, some 5], ?_⟩
                (repeat' ((conv => whnf); (first | ((first | with_reducible refine spl (fun hc => ?_) (fun hc => ?_) | with_reducible refine spl' (fun hc => ?_) (fun hc => ?_)) <;> try (exfalso; omega)) | with_reducible refine imp_intro (fun hc => ?_) | refine vcq (k := ?_) | refine dr 2005 (k := ?_) | refine dr 27 (k := ?_) | refine dr 13 (k := ?_)))); all_goals (try conv => whnf); all_goals (try with_reducible exact trivial)
            · refine callee_fo hwk rfl ?_
              rintro _ rfl
              (repeat' ((conv => whnf); (first | ((first | with_reducible refine spl (fun hc => ?_) (fun hc => ?_) | with_reducible refine spl' (fun hc => ?_) (fun hc => ?_)) <;> try (exfalso; omega)) | with_reducible refine imp_intro (fun hc => ?_) | refine vcq (k := ?_) | refine dr 2005 (k := ?_) | refine dr 27 (k := ?_) | refine dr 13 (k := ?_)))); all_goals (try conv => whnf); all_goals (try with_reducible exact trivial)
              refine ⟨_, rfl, ?_⟩
              (repeat' ((conv => whnf); (first | ((first | with_reducible refine spl (fun hc => ?_) (fun hc => ?_) | with_reducible refine spl' (fun hc => ?_) (fun hc => ?_)) <;> try (exfalso; omega)) | with_reducible refine imp_intro (fun hc => ?_) | refine vcq (k := ?_) | refine dr 2005 (k := ?_) | refine dr 27 (k := ?_) | refine dr 13 (k := ?_)))); all_goals (try conv => whnf); all_goals (try with_reducible exact trivial)
            · exfalso
              subst hil
              exact hc hct
    · rw [e]
      clear e
      (repeat' ((conv => whnf); (first | ((first | with_reducible refine spl (fun hc => ?_) (fun hc => ?_) | with_reducible refine spl' (fun hc => ?_) (fun hc => ?_)) <;> try (exfalso; omega)) | with_reducible refine imp_intro (fun hc => ?_) | refine vcq (k := ?_) | refine dr 2005 (k := ?_) | refine dr 27 (k := ?_) | refine dr 13 (k := ?_)))); all_goals (try conv => whnf); all_goals (try with_reducible exact trivial)
      refine ⟨Nat, fun i => i ≤ L.length, fun i => L.length - i, fun i => [(9, .int .i64 (i : Nat)), (25, .any), (31, .any), (47, .any)], fun _ => [], fun _ => [], 0, ⟨by omega, none, ?_⟩, ?_⟩
      · (repeat' ((conv => whnf); (first | ((first | with_reducible refine spl (fun hc => ?_) (fun hc => ?_) | with_reducible refine spl' (fun hc => ?_) (fun hc => ?_)) <;> try (exfalso; omega)) | with_reducible refine imp_intro (fun hc => ?_) | refine vcq (k := ?_) | refine dr 2005 (k := ?_) | refine dr 27 (k := ?_) | refine dr 13 (k := ?_)))); all_goals (try conv => whnf); all_goals (try with_reducible exact trivial)
      · intro i hi
        have hi : i ≤ L.length := hi
        have hti : (i : Int).toNat = i := Int.toNat_natCast i
        have fa : i < L.length → (0 ≤ L.getD (i : Int).toNat 0 ∧ L.getD (i : Int).toNat 0 < x.l.length) ∧ ((x.l.getD (L.getD (i : Int).toNat 0).toNat (0, 0)).1 = 1 ∨ (x.l.getD (L.getD (i : Int).toNat 0).toNat (0, 0)).1 = 2) ∧
            (0 ≤ (x.l.getD (L.getD (i : Int).toNat 0).toNat (0, 0)).2 ∧ (x.l.getD (L.getD (i : Int).toNat 0).toNat (0, 0)).2 < x.n) ∧
            (h.get (x.l.getD (L.getD (i : Int).toNat 0).toNat (0, 0)).2.toNat = -2 ∨ L.getD (i : Int).toNat 0 ≤ h.get (x.l.getD (L.getD (i : Int).toNat 0).toNat (0, 0)).2.toNat) := by
          intro g
          obtain ⟨q, g1, g2, g3⟩ := hat g
          rw [hti, g2, Int.toNat_natCast]
          obtain ⟨g4, g5, g6⟩ := sureP_img g3 g1 hx.ok hp
          exact ⟨⟨by omega, by omega⟩, g3.1, ⟨g4, g5⟩, g6⟩
        (repeat' ((conv => whnf); (first | ((first | with_reducible refine spl (fun hc => ?_) (fun hc => ?_) | with_reducible refine spl' (fun hc => ?_) (fun hc => ?_)) <;> try (exfalso; omega)) | with_reducible refine imp_intro (fun hc => ?_) | refine vcq (k := ?_) | refine dr 2005 (k := ?_) | refine dr 27 (k := ?_) | refine dr 13 (k := ?_)))); all_goals (try conv => whnf); all_goals (try with_reducible exact trivial); (repeat' ((first | (refine callee_fo (puts35 _) rfl ?_; rintro _ rfl) | (refine pcall_intro (puts35 _) rfl ?_) | (refine pcall_soft (fun _ => puts35 _) rfl ?_)); (repeat' ((conv => whnf); (first | ((first | with_reducible refine spl (fun hc => ?_) (fun hc => ?_) | with_reducible refine spl' (fun hc => ?_) (fun hc => ?_)) <;> try (exfalso; omega)) | with_reducible refine imp_intro (fun hc => ?_) | refine vcq (k := ?_) | refine dr 2005 (k := ?_) | refine dr 27 (k := ?_) | refine dr 13 (k := ?_)))); all_goals (try conv => whnf); all_goals (try with_reducible exact trivial)))
        · refine ⟨i + 1, ⟨by omega, by dsimp only; omega⟩, none, ?_⟩
          (repeat' ((conv => whnf); (first | ((first | with_reducible refine spl (fun hc => ?_) (fun hc => ?_) | with_reducible refine spl' (fun hc => ?_) (fun hc => ?_)) <;> try (exfalso; omega)) | with_reducible refine imp_intro (fun hc => ?_) | refine vcq (k := ?_) | refine dr 2005 (k := ?_) | refine dr 27 (k := ?_) | refine dr 13 (k := ?_)))); all_goals (try conv => whnf); all_goals (try with_reducible exact trivial)
        · clear fa hti hi ht hp
          clear hat hsl hl hD hD40
          refine callee_new (Copy24 x (by omega)) rfl ?_
          rintro _ _ ⟨rfl, rfl⟩
          (repeat' ((conv => whnf); (first | ((first | with_reducible refine spl (fun hc => ?_) (fun hc => ?_) | with_reducible refine spl' (fun hc => ?_) (fun hc => ?_)) <;> try (exfalso; omega)) | with_reducible refine imp_intro (fun hc => ?_) | refine vcq (k := ?_) | refine dr 2005 (k := ?_) | refine dr 27 (k := ?_) | refine dr 13 (k := ?_)))); all_goals (try conv => whnf); all_goals (try with_reducible exact trivial)
          refine callee_view (sure_ok hf hfk) ?_
          (repeat' ((conv => whnf); (first | ((first | with_reducible refine spl (fun hc => ?_) (fun hc => ?_) | with_reducible refine spl' (fun hc => ?_) (fun hc => ?_)) <;> try (exfalso; omega)) | with_reducible refine imp_intro (fun hc => ?_) | refine vcq (k := ?_) | refine dr 2005 (k := ?_) | refine dr 27 (k := ?_) | refine dr 13 (k := ?_)))); all_goals (try conv => whnf); all_goals (try with_reducible exact trivial)
          refine ⟨rowOf_snoc (c := oC) (a := (4, 0)) (l := x.l) rfl (fun _ _ => rfl), .inl rfl, ?_⟩
          (repeat' ((conv => whnf); (first | ((first | with_reducible refine spl (fun hc => ?_) (fun hc => ?_) | with_reducible refine spl' (fun hc => ?_) (fun hc => ?_)) <;> try (exfalso; omega)) | with_reducible refine imp_intro (fun hc => ?_) | refine vcq (k := ?_) | refine dr 2005 (k := ?_) | refine dr 27 (k := ?_) | refine dr 13 (k := ?_)))); all_goals (try conv => whnf); all_goals (try with_reducible exact trivial)
          rintro _ rfl
          have hct := fl_count hx.ok hf
          have hcp := cntP_le x.l x.l.length
          generalize sureL x.fl x.fl.l.length = M at hct ⊢
          (repeat' ((conv => whnf); (first | ((first | with_reducible refine spl (fun hc => ?_) (fun hc => ?_) | with_reducible refine spl' (fun hc => ?_) (fun hc => ?_)) <;> try (exfalso; omega)) | with_reducible refine imp_intro (fun hc => ?_) | refine vcq (k := ?_) | refine dr 2005 (k := ?_) | refine dr 27 (k := ?_) | refine dr 13 (k := ?_)))); all_goals (try conv => whnf); all_goals (try with_reducible exact trivial)
          refine callee_view (newest_ok hfk (by omega)) ?_
          (repeat' ((conv => whnf); (first | ((first | with_reducible refine spl (fun hc => ?_) (fun hc => ?_) | with_reducible refine spl' (fun hc => ?_) (fun hc => ?_)) <;> try (exfalso; omega)) | with_reducible refine imp_intro (fun hc => ?_) | refine vcq (k := ?_) | refine dr 2005 (k := ?_) | refine dr 27 (k := ?_) | refine dr 13 (k := ?_)))); all_goals (try conv => whnf); all_goals (try with_reducible exact trivial)
          refine ⟨rowOf_snoc (c := oC) (a := (4, 0)) (l := x.l) rfl (fun _ _ => rfl), .inl rfl, ?_⟩
          (repeat' ((conv => whnf); (first | ((first | with_reducible refine spl (fun hc => ?_) (fun hc => ?_) | with_reducible refine spl' (fun hc => ?_) (fun hc => ?_)) <;> try (exfalso; omega)) | with_reducible refine imp_intro (fun hc => ?_) | refine vcq (k := ?_) | refine dr 2005 (k := ?_) | refine dr 27 (k := ?_) | refine dr 13 (k := ?_)))); all_goals (try conv => whnf); all_goals (try with_reducible exact trivial)
          rintro _ rfl
          have hfn : x.fl.n = x.n := rfl
          (repeat' ((conv => whnf); (first | ((first | with_reducible refine spl (fun hc => ?_) (fun hc => ?_) | with_reducible refine spl' (fun hc => ?_) (fun hc => ?_)) <;> try (exfalso; omega)) | with_reducible refine imp_intro (fun hc => ?_) | refine vcq (k := ?_) | refine dr 2005 (k := ?_) | refine dr 27 (k := ?_) | refine dr 13 (k := ?_)))); all_goals (try conv => whnf); all_goals (try with_reducible exact trivial)
          refine ⟨Nat, fun i => i ≤ x.l.length, fun i => x.l.length - i, fun i => [(17, .int .i64 (i : Nat)), (16, .int .i64 (cntP x.l i)), (150, .any)], fun _ => [], fun _ => [], 0, ⟨by omega, none, ?_⟩, ?_⟩
          · (repeat' ((conv => whnf); (first | ((first | with_reducible refine spl (fun hc => ?_) (fun hc => ?_) | with_reducible refine spl' (fun hc => ?_) (fun hc => ?_)) <;> try (exfalso; omega)) | with_reducible refine imp_intro (fun hc => ?_) | refine vcq (k := ?_) | refine dr 2005 (k := ?_) | refine dr 27 (k := ?_) | refine dr 13 (k := ?_)))); all_goals (try conv => whnf); all_goals (try with_reducible exact trivial)
          · intro i hi
            have hi : i ≤ x.l.length := hi
            have hti : (i : Int).toNat = i := Int.toNat_natCast i
            have hci := cntP_le x.l i
            have hcs : cntP x.l (i + 1) = if (x.l.getD i (0, 0)).1 = 1 ∨ (x.l.getD i (0, 0)).1 = 2 then cntP x.l i + 1 else cntP x.l i := rfl
            (repeat' ((conv => whnf); (first | ((first | with_reducible refine spl (fun hc => ?_) (fun hc => ?_) | with_reducible refine spl' (fun hc => ?_) (fun hc => ?_)) <;> try (exfalso; omega)) | with_reducible refine imp_intro (fun hc => ?_) | refine vcq (k := ?_) | refine dr 2005 (k := ?_) | refine dr 27 (k := ?_) | refine dr 13 (k := ?_)))); all_goals (try conv => whnf); all_goals (try with_reducible exact trivial); (repeat' ((first | (refine callee_fo (puts35 _) rfl ?_; rintro _ rfl) | (refine pcall_intro (puts35 _) rfl ?_) | (refine pcall_soft (fun _ => puts35 _) rfl ?_)); (repeat' ((conv => whnf); (first | ((first | with_reducible refine spl (fun hc => ?_) (fun hc => ?_) | with_reducible refine spl' (fun hc => ?_) (fun hc => ?_)) <;> try (exfalso; omega)) | with_reducible refine imp_intro (fun hc => ?_) | refine vcq (k := ?_) | refine dr 2005 (k := ?_) | refine dr 27 (k := ?_) | refine dr 13 (k := ?_)))); all_goals (try conv => whnf); all_goals (try with_reducible exact trivial)))
            · rw [hti] at hc
              rw [if_pos hc] at hcs
              refine ⟨i + 1, ⟨by omega, by dsimp only; omega⟩, none, ?_⟩
              (repeat' ((conv => whnf); (first | ((first | with_reducible refine spl (fun hc => ?_) (fun hc => ?_) | with_reducible refine spl' (fun hc => ?_) (fun hc => ?_)) <;> try (exfalso; omega)) | with_reducible refine imp_intro (fun hc => ?_) | refine vcq (k := ?_) | refine dr 2005 (k := ?_) | refine dr 27 (k := ?_) | refine dr 13 (k := ?_)))); all_goals (try conv => whnf); all_goals (try with_reducible exact trivial)
            · rw [hti] at hc
              rw [if_neg hc] at hcs
              refine ⟨i + 1, ⟨by omega, by dsimp only; omega⟩, none, ?_⟩
              (repeat' ((conv => whnf); (first | ((first | with_reducible refine spl (fun hc => ?_) (fun hc => ?_) | with_reducible refine spl' (fun hc => ?_) (fun hc => ?_)) <;> try (exfalso; omega)) | with_reducible refine imp_intro (fun hc => ?_) | refine vcq (k := ?_) | refine dr 2005 (k := ?_) | refine dr 27 (k := ?_) | refine dr 13 (k := ?_)))); all_goals (try conv => whnf); all_goals (try with_reducible exact trivial)
            · have hil : i = x.l.length := by omega
              clear hcs
              have hwk := works13
              refine ⟨Nat, fun b => b ≤ x.n.toNat, fun b => x.n.toNat - b, fun b => [(18, .int .i64 (b : Nat))], fun _ => [], fun _ => [], 0, ⟨by omega, none, ?_⟩, ?_⟩
              · (repeat' ((conv => whnf); (first | ((first | with_reducible refine spl (fun hc => ?_) (fun hc => ?_) | with_reducible refine spl' (fun hc => ?_) (fun hc => ?_)) <;> try (exfalso; omega)) | with_reducible refine imp_intro (fun hc => ?_) | refine vcq (k := ?_) | refine dr 2005 (k := ?_) | refine dr 27 (k := ?_) | refine dr 13 (k := ?_)))); all_goals (try conv => whnf); all_goals (try with_reducible exact trivial)
              · intro b hb
                have hb : b ≤ x.n.toNat := hb
                have htb : (b : Int).toNat = b := Int.toNat_natCast b
                (repeat' ((conv => whnf); (first | ((first | with_reducible refine spl (fun hc => ?_) (fun hc => ?_) | with_reducible refine spl' (fun hc => ?_) (fun hc => ?_)) <;> try (exfalso; omega)) | with_reducible refine imp_intro (fun hc => ?_) | refine vcq (k := ?_) | refine dr 2005 (k := ?_) | refine dr 27 (k := ?_) | refine dr 13 (k := ?_)))); all_goals (try conv => whnf); all_goals (try with_reducible exact trivial)
                · have hb3 : (b : Int) < x.n := by omega
                  have hcf := can_fl hx.ok hf hfk hb3
                  have hsm := sameInts30 1 1 (by omega) (by omega) (fun j => ([newP x.fl.l x.fl.l.length b] : List Int).getD j 0) (fun _ => newP x.fl.l x.fl.l.length b)
                  refine callee_view hcf ?_
                  (repeat' ((conv => whnf); (first | ((first | with_reducible refine spl (fun hc => ?_) (fun hc => ?_) | with_reducible refine spl' (fun hc => ?_) (fun hc => ?_)) <;> try (exfalso; omega)) | with_reducible refine imp_intro (fun hc => ?_) | refine vcq (k := ?_) | refine dr 2005 (k := ?_) | refine dr 27 (k := ?_) | refine dr 13 (k := ?_)))); all_goals (try conv => whnf); all_goals (try with_reducible exact trivial)
                  refine ⟨rowOf_snoc (c := oC) (a := (4, 0)) (l := x.l) rfl (fun _ _ => rfl), .inl rfl, ?_⟩
                  (repeat' ((conv => whnf); (first | ((first | with_reducible refine spl (fun hc => ?_) (fun hc => ?_) | with_reducible refine spl' (fun hc => ?_) (fun hc => ?_)) <;> try (exfalso; omega)) | with_reducible refine imp_intro (fun hc => ?_) | refine vcq (k := ?_) | refine dr 2005 (k := ?_) | refine dr 27 (k := ?_) | refine dr 13 (k := ?_)))); all_goals (try conv => whnf); all_goals (try with_reducible exact trivial)
                  rintro _ rfl
                  (repeat' ((conv => whnf); (first | ((first | with_reducible refine spl (fun hc => ?_) (fun hc => ?_) | with_reducible refine spl' (fun hc => ?_) (fun hc => ?_)) <;> try (exfalso; omega)) | with_reducible refine imp_intro (fun hc => ?_) | refine vcq (k := ?_) | refine dr 2005 (k := ?_) | refine dr 27 (k := ?_) | refine dr 13 (k := ?_)))); all_goals (try conv => whnf); all_goals (try with_reducible exact trivial)
                  refine callee_view hsm ?_
                  (repeat' ((conv => whnf); (first | ((first | with_reducible refine spl (fun hc => ?_) (fun hc => ?_) | with_reducible refine spl' (fun hc => ?_) (fun hc => ?_)) <;> try (exfalso; omega)) | with_reducible refine imp_intro (fun hc => ?_) | refine vcq (k := ?_) | refine dr 2005 (k := ?_) | refine dr 27 (k := ?_) | refine dr 13 (k := ?_)))); all_goals (try conv => whnf); all_goals (try with_reducible exact trivial)
                  rintro _ rfl
                  (repeat' ((conv => whnf); (first | ((first | with_reducible refine spl (fun hc => ?_) (fun hc => ?_) | with_reducible refine spl' (fun hc => ?_) (fun hc => ?_)) <;> try (exfalso; omega)) | with_reducible refine imp_intro (fun hc => ?_) | refine vcq (k := ?_) | refine dr 2005 (k := ?_) | refine dr 27 (k := ?_) | refine dr 13 (k := ?_)))); all_goals (try conv => whnf); all_goals (try with_reducible exact trivial)
                  · exact absurd ⟨rfl, fun b' hb' => by obtain rfl : b' = 0 := by omega
                                                        rfl⟩ hc
                  · refine ⟨b + 1, ⟨by omega, by dsimp only; omega⟩, some [some 0, some 1, some 2, some 3, some 4, some 5], ?_⟩
                    (repeat' ((conv => whnf); (first | ((first | with_reducible refine spl (fun hc => ?_) (fun hc => ?_) | with_reducible refine spl' (fun hc => ?_) (fun hc => ?_)) <;> try (exfalso; omega)) | with_reducible refine imp_intro (fun hc => ?_) | refine vcq (k := ?_) | refine dr 2005 (k := ?_) | refine dr 27 (k := ?_) | refine dr 13 (k := ?_)))); all_goals (try conv => whnf); all_goals (try with_reducible exact trivial)
                · refine callee_fo hwk rfl ?_
                  rintro _ rfl
                  (repeat' ((conv => whnf); (first | ((first | with_reducible refine spl (fun hc => ?_) (fun hc => ?_) | with_reducible refine spl' (fun hc => ?_) (fun hc => ?_)) <;> try (exfalso; omega)) | with_reducible refine imp_intro (fun hc => ?_) | refine vcq (k := ?_) | refine dr 2005 (k := ?_) | refine dr 27 (k := ?_) | refine dr 13 (k := ?_)))); all_goals (try conv => whnf); all_goals (try with_reducible exact trivial)
                  refine ⟨_, rfl, ?_⟩
                  (repeat' ((conv => whnf); (first | ((first | with_reducible refine spl (fun hc => ?_) (fun hc => ?_) | with_reducible refine spl' (fun hc => ?_) (fun hc => ?_)) <;> try (exfalso; omega)) | with_reducible refine imp_intro (fun hc => ?_) | refine vcq (k := ?_) | refine dr 2005 (k := ?_) | refine dr 27 (k := ?_) | refine dr 13 (k := ?_)))); all_goals (try conv => whnf); all_goals (try with_reducible exact trivial)
                · exfalso
                  subst hil
                  exact hc hct
end Go.Proofs
