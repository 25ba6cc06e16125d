/- Own work: texts of the proof of a law (CaL5). No condition. -/
import Derived.Test.YtmjaflgakiembaaPart18
namespace Go.Proofs
open Go Go.Sx
set_option maxRecDepth 100000
set_option maxHeartbeats 40000000
-- SxAid2

theorem possible_c6 {x : Cache} (hx : x.Small) (hk : x.chk = 0) {h : C6} (hp : PosI x h) : PureC Try.prog 21 false [x.v, .sl 1 x.n.toNat (iF h.get)] (· = .tup [.prop (IsPos x (c6L x.n.toNat h)) (Classical.propDecidable _), .int .i64 0]) := by
  have h7 := hx.l
  have hn := hx.ok.n
  have base := Possible21 x (by omega) (fun _ => hx) (c6L x.n.toNat h) (by rw [c6L_len]; omega)
  have himg : IsImg x (c6L x.n.toNat h) := hp.img hx.ok (c6L_len _ _) (fun b hb => c6L_get (by rw [c6L_len] at hb; exact hb))
  rw [c6L_len] at base
  refine PureC.view (base.mono fun v hv => ?_) ?_
  · cases hv with
    | chk g => exact absurd hk g
    | img _ g => exact absurd himg g
    | pos => rfl
  · (repeat' ((conv => whnf); (first | ((first | with_reducible refine spl (fun hc => ?_) (fun hc => ?_) | with_reducible refine spl' (fun hc => ?_) (fun hc => ?_)) <;> try (exfalso; omega)) | with_reducible refine imp_intro (fun hc => ?_) | refine vcq (k := ?_) | refine dr 16 (k := ?_)))); all_goals (try conv => whnf); all_goals (try with_reducible exact trivial)
    refine ⟨fun b hb => ?_, trivial⟩
    show [V.int .i64 (h.get b)] = [V.int .i64 ((c6L x.n.toNat h).getD b 0)]
    rw [c6L_get hb]

/-- the torn ones of the first blocks -/
def cntT (h : C6) : Nat → Int
  | 0 => 0
  | b + 1 => if h.get b = -2 then cntT h b + 1 else cntT h b

theorem cntT_le (h : C6) : ∀ b, 0 ≤ cntT h b ∧ cntT h b ≤ b
  | 0 => by simp [cntT]
  | b + 1 => by have := cntT_le h b; simp only [cntT]; split <;> omega

theorem cntT_no {h : C6} : ∀ b, (∀ j, j < b → h.get j ≠ -2) → cntT h b = 0
  | 0, _ => rfl
  | b + 1, hn => by simp only [cntT]; rw [if_neg (hn b (by omega))]; exact cntT_no b fun j hj => hn j (by omega)

theorem cntT_one {h : C6} {b0 : Nat} : ∀ b, b0 < b → (∀ j, j < b → (h.get j = -2 ↔ j = b0)) → cntT h b = 1
  | b + 1, hb, hn => by
    simp only [cntT]
    by_cases g : b = b0
    · rw [if_pos ((hn b (by omega)).2 g), cntT_no b fun j hj k => by have := (hn j (by omega)).1 k; omega]
      rfl
    · rw [if_neg (fun k => g ((hn b (by omega)).1 k))]
      exact cntT_one b (by omega) fun j hj => hn j (by omega)

theorem cntT_torn {x : Cache} (hx : x.Ok) {h : C6} (hp : PosI x h) : cntT h x.n.toNat ≤ 1 ∧ (cntT h x.n.toNat = 1 ↔ ∃ b, b < 6 ∧ h.get b = -2) := by
  have hn := hx.n
  rcases hp.torn hx with g | ⟨b0, g1, g2⟩
  · rw [cntT_no _ fun j hj => g j (by omega)]
    exact ⟨by omega, fun k => by omega, fun ⟨b, k1, k2⟩ => absurd k2 (g b k1)⟩
  · rw [cntT_one (b0 := b0) _ (by omega) fun j hj => g2 j (by omega)]
    exact ⟨by omega, fun _ => ⟨b0, by omega, (g2 b0 (by omega)).2 rfl⟩, fun _ => rfl⟩

theorem flush_ok {x : Cache} (hx : x.Ok) {h : C6} (hp : PosI x h) {i : Nat} (hi : i < x.l.length) (hk : (x.l.getD i (0, 0)).1 = 4) {j : Nat} (hj : j < 6) : h.get j = -2 ∨ newP x.l i j ≤ h.get j :=
  beh_ok hx hp hi (.inr hk) (Nat.le_refl 6) (.inl hk) hj

theorem Acked4 (x : Cache) (hl : x.l.length ≤ 9223372036854775807) (D : List (Int × Int)) (hD : D.length ≤ 9223372036854775807) (torn : Bool) : PureC Try.prog 4 false [x.v, .agg [.sl 2 D.length (rowOf oC (0, 0) D), .prop (torn = true) inferInstance]] (· = .prop True inferInstance) := by
  refine pureC_of_exec Try.E_ok Try.func4 rfl (by kernel_rfl) ?_
  (repeat' ((conv => whnf); (first | ((first | with_reducible refine spl (fun hc => ?_) (fun hc => ?_) | with_reducible refine spl' (fun hc => ?_) (fun hc => ?_)) <;> try (exfalso; omega)) | with_reducible refine imp_intro (fun hc => ?_) | refine vcq (k := ?_) | refine dr 16 (k := ?_)))); all_goals (try conv => whnf); all_goals (try with_reducible exact trivial); (repeat' ((first | (refine callee_fo (valid12 x hl) rfl ?_; rintro _ rfl) | (refine pcall_intro (valid12 x hl) rfl ?_) | (refine pcall_soft (fun _ => valid12 x hl) rfl ?_) | (refine callee_fo (works13) rfl ?_; rintro _ rfl) | (refine pcall_intro (works13) rfl ?_) | (refine pcall_soft (fun _ => works13) rfl ?_)); (repeat' ((conv => whnf); (first | ((first | with_reducible refine spl (fun hc => ?_) (fun hc => ?_) | with_reducible refine spl' (fun hc => ?_) (fun hc => ?_)) <;> try (exfalso; omega)) | with_reducible refine imp_intro (fun hc => ?_) | refine vcq (k := ?_) | refine dr 16 (k := ?_)))); all_goals (try conv => whnf); all_goals (try with_reducible exact trivial)))
  · refine ⟨_, rfl, ?_⟩
    (repeat' ((conv => whnf); (first | ((first | with_reducible refine spl (fun hc => ?_) (fun hc => ?_) | with_reducible refine spl' (fun hc => ?_) (fun hc => ?_)) <;> try (exfalso; omega)) | with_reducible refine imp_intro (fun hc => ?_) | refine vcq (k := ?_) | refine dr 16 (k := ?_)))); all_goals (try conv => whnf); all_goals (try with_reducible exact trivial)
  · have hv : ¬ x.far ∧ x.chk = 0 := Classical.not_not.1 (fun g => hc (.inl g))
    have hD40 : D.length ≤ 40 := by omega
    have hx := Cache.valid hv
    have hk := hv.2
    have hn := hx.ok.n
    have h3 := hx.n
    have h7 := hx.l
    clear hc hv
    refine callee_fo (Play20 x (by omega) D (by omega) torn) rfl ?_
    rintro _ rfl
    rcases play_cases hk D torn with e | ⟨h, hp, ht, e⟩
    · rw [e]
      (repeat' ((conv => whnf); (first | ((first | with_reducible refine spl (fun hc => ?_) (fun hc => ?_) | with_reducible refine spl' (fun hc => ?_) (fun hc => ?_)) <;> try (exfalso; omega)) | with_reducible refine imp_intro (fun hc => ?_) | refine vcq (k := ?_) | refine dr 16 (k := ?_)))); all_goals (try conv => whnf); all_goals (try with_reducible exact trivial); (repeat' ((first | (refine callee_fo (works13) rfl ?_; rintro _ rfl) | (refine pcall_intro (works13) rfl ?_) | (refine pcall_soft (fun _ => works13) rfl ?_)); (repeat' ((conv => whnf); (first | ((first | with_reducible refine spl (fun hc => ?_) (fun hc => ?_) | with_reducible refine spl' (fun hc => ?_) (fun hc => ?_)) <;> try (exfalso; omega)) | with_reducible refine imp_intro (fun hc => ?_) | refine vcq (k := ?_) | refine dr 16 (k := ?_)))); all_goals (try conv => whnf); all_goals (try with_reducible exact trivial)))
      refine ⟨_, rfl, ?_⟩
      (repeat' ((conv => whnf); (first | ((first | with_reducible refine spl (fun hc => ?_) (fun hc => ?_) | with_reducible refine spl' (fun hc => ?_) (fun hc => ?_)) <;> try (exfalso; omega)) | with_reducible refine imp_intro (fun hc => ?_) | refine vcq (k := ?_) | refine dr 16 (k := ?_)))); all_goals (try conv => whnf); all_goals (try with_reducible exact trivial)
    · rw [e]
      have hpos : IsPos x (c6L x.n.toNat h) := ⟨h, hp, fun b hb => (c6L_get (by rw [c6L_len] at hb; exact hb)).symm⟩
      (repeat' ((conv => whnf); (first | ((first | with_reducible refine spl (fun hc => ?_) (fun hc => ?_) | with_reducible refine spl' (fun hc => ?_) (fun hc => ?_)) <;> try (exfalso; omega)) | with_reducible refine imp_intro (fun hc => ?_) | refine vcq (k := ?_) | refine dr 16 (k := ?_)))); all_goals (try conv => whnf); all_goals (try with_reducible exact trivial); (repeat' ((first | (refine callee_fo (possible_c6 hx hk hp) rfl ?_; rintro _ rfl) | (refine pcall_intro (possible_c6 hx hk hp) rfl ?_) | (refine pcall_soft (fun _ => possible_c6 hx hk hp) rfl ?_)); (repeat' ((conv => whnf); (first | ((first | with_reducible refine spl (fun hc => ?_) (fun hc => ?_) | with_reducible refine spl' (fun hc => ?_) (fun hc => ?_)) <;> try (exfalso; omega)) | with_reducible refine imp_intro (fun hc => ?_) | refine vcq (k := ?_) | refine dr 16 (k := ?_)))); all_goals (try conv => whnf); all_goals (try with_reducible exact trivial)))
      · exfalso
        have g : ((0 : Int) ≠ 0 ∨ ¬ IsPos x (c6L x.n.toNat h)) ∨ (x.n.toNat : Int) ≠ x.n := hc
        rcases g with (g | g) | g
        · exact g rfl
        · exact g hpos
        · omega
      refine ⟨Nat, fun i => i ≤ x.l.length, fun i => x.l.length - i, fun i => [(9, .int .i64 (i : Nat)), (19, .any), (56, .any)], fun _ => [], fun _ => [], 0, ⟨by omega, none, ?_⟩, ?_⟩
      · (repeat' ((conv => whnf); (first | ((first | with_reducible refine spl (fun hc => ?_) (fun hc => ?_) | with_reducible refine spl' (fun hc => ?_) (fun hc => ?_)) <;> try (exfalso; omega)) | with_reducible refine imp_intro (fun hc => ?_) | refine vcq (k := ?_) | refine dr 16 (k := ?_)))); all_goals (try conv => whnf); all_goals (try with_reducible exact trivial)
      · intro i hi
        have hi : i ≤ x.l.length := hi
        have hti : (i : Int).toNat = i := Int.toNat_natCast i
        have hq : i < x.l.length → (x.l.getD (i : Int).toNat (0, 0)).1 = 2 → 0 ≤ (x.l.getD (i : Int).toNat (0, 0)).2 ∧ (x.l.getD (i : Int).toNat (0, 0)).2 < x.n := fun g1 g2 => by
          rw [hti] at *
          have := hx.ok.ord _ (Cache.at g1)
          unfold Cache.OkO at this
          omega
        (repeat' ((conv => whnf); (first | ((first | with_reducible refine spl (fun hc => ?_) (fun hc => ?_) | with_reducible refine spl' (fun hc => ?_) (fun hc => ?_)) <;> try (exfalso; omega)) | with_reducible refine imp_intro (fun hc => ?_) | refine vcq (k := ?_) | refine dr 16 (k := ?_)))); all_goals (try conv => whnf); all_goals (try with_reducible exact trivial)
        · have hi1 : i < x.l.length := by omega
          rw [hti] at *
          have hb := hq hi1 hc.1.1
          have g := hp.force hx.ok hi1 hc.1.1 (show (x.l.getD i (0, 0)).2.toNat < 6 by omega) ⟨.inr hc.1.1, by omega⟩
          omega
        · refine ⟨i + 1, ⟨by omega, by dsimp only; omega⟩, some [some 0, some 1], ?_⟩
          (repeat' ((conv => whnf); (first | ((first | with_reducible refine spl (fun hc => ?_) (fun hc => ?_) | with_reducible refine spl' (fun hc => ?_) (fun hc => ?_)) <;> try (exfalso; omega)) | with_reducible refine imp_intro (fun hc => ?_) | refine vcq (k := ?_) | refine dr 16 (k := ?_)))); all_goals (try conv => whnf); all_goals (try with_reducible exact trivial)
        · have hi1 : i < x.l.length := by omega
          have hkd : (x.l.getD i (0, 0)).1 = 4 := by rw [hti] at hc; omega
          have hok := fun {b : Nat} (hb : b < 6) => flush_ok hx.ok hp hi1 hkd hb
          clear hq
          refine callee_fo (newest22 x hx.ok i (by omega)) rfl ?_
          rintro _ rfl
          (repeat' ((conv => whnf); (first | ((first | with_reducible refine spl (fun hc => ?_) (fun hc => ?_) | with_reducible refine spl' (fun hc => ?_) (fun hc => ?_)) <;> try (exfalso; omega)) | with_reducible refine imp_intro (fun hc => ?_) | refine vcq (k := ?_) | refine dr 16 (k := ?_)))); all_goals (try conv => whnf); all_goals (try with_reducible exact trivial)
          refine ⟨Nat, fun j => j ≤ x.n.toNat, fun j => x.n.toNat - j, fun j => [(12, .int .i64 (j : Nat)), (77, .any), (85, .any)], fun _ => [], fun _ => [], 0, ⟨by omega, none, ?_⟩, ?_⟩
          · (repeat' ((conv => whnf); (first | ((first | with_reducible refine spl (fun hc => ?_) (fun hc => ?_) | with_reducible refine spl' (fun hc => ?_) (fun hc => ?_)) <;> try (exfalso; omega)) | with_reducible refine imp_intro (fun hc => ?_) | refine vcq (k := ?_) | refine dr 16 (k := ?_)))); all_goals (try conv => whnf); all_goals (try with_reducible exact trivial)
          · intro b hb
            have hb : b ≤ x.n.toNat := hb
            have htb : (b : Int).toNat = b := Int.toNat_natCast b
            (repeat' ((conv => whnf); (first | ((first | with_reducible refine spl (fun hc => ?_) (fun hc => ?_) | with_reducible refine spl' (fun hc => ?_) (fun hc => ?_)) <;> try (exfalso; omega)) | with_reducible refine imp_intro (fun hc => ?_) | refine vcq (k := ?_) | refine dr 16 (k := ?_)))); all_goals (try conv => whnf); all_goals (try with_reducible exact trivial)
            · have g := hok (show b < 6 by omega)
              rw [htb] at hc
              omega
            · refine ⟨b + 1, ⟨by omega, by dsimp only; omega⟩, none, ?_⟩
              (repeat' ((conv => whnf); (first | ((first | with_reducible refine spl (fun hc => ?_) (fun hc => ?_) | with_reducible refine spl' (fun hc => ?_) (fun hc => ?_)) <;> try (exfalso; omega)) | with_reducible refine imp_intro (fun hc => ?_) | refine vcq (k := ?_) | refine dr 16 (k := ?_)))); all_goals (try conv => whnf); all_goals (try with_reducible exact trivial)
            · refine ⟨i + 1, ⟨by omega, by dsimp only; omega⟩, some [some 0, some 1], ?_⟩
              (repeat' ((conv => whnf); (first | ((first | with_reducible refine spl (fun hc => ?_) (fun hc => ?_) | with_reducible refine spl' (fun hc => ?_) (fun hc => ?_)) <;> try (exfalso; omega)) | with_reducible refine imp_intro (fun hc => ?_) | refine vcq (k := ?_) | refine dr 16 (k := ?_)))); all_goals (try conv => whnf); all_goals (try with_reducible exact trivial)
        · clear hq
          obtain ⟨ht1, ht2⟩ := cntT_torn hx.ok hp
          refine ⟨Nat, fun j => j ≤ x.n.toNat, fun j => x.n.toNat - j, fun j => [(14, .int .i64 (j : Nat)), (13, .int .i64 (cntT h j))], fun _ => [], fun _ => [], 0, ⟨by omega, none, ?_⟩, ?_⟩
          · (repeat' ((conv => whnf); (first | ((first | with_reducible refine spl (fun hc => ?_) (fun hc => ?_) | with_reducible refine spl' (fun hc => ?_) (fun hc => ?_)) <;> try (exfalso; omega)) | with_reducible refine imp_intro (fun hc => ?_) | refine vcq (k := ?_) | refine dr 16 (k := ?_)))); all_goals (try conv => whnf); all_goals (try with_reducible exact trivial)
          · intro b hb
            have hb : b ≤ x.n.toNat := hb
            have htb : (b : Int).toNat = b := Int.toNat_natCast b
            have hcl := cntT_le h b
            have hcs : cntT h (b + 1) = if h.get b = -2 then cntT h b + 1 else cntT h b := rfl
            (repeat' ((conv => whnf); (first | ((first | with_reducible refine spl (fun hc => ?_) (fun hc => ?_) | with_reducible refine spl' (fun hc => ?_) (fun hc => ?_)) <;> try (exfalso; omega)) | with_reducible refine imp_intro (fun hc => ?_) | refine vcq (k := ?_) | refine dr 16 (k := ?_)))); all_goals (try conv => whnf); all_goals (try with_reducible exact trivial)
            · rw [htb] at hc
              rw [if_pos hc] at hcs
              refine ⟨b + 1, ⟨by omega, by dsimp only; omega⟩, none, ?_⟩
              (repeat' ((conv => whnf); (first | ((first | with_reducible refine spl (fun hc => ?_) (fun hc => ?_) | with_reducible refine spl' (fun hc => ?_) (fun hc => ?_)) <;> try (exfalso; omega)) | with_reducible refine imp_intro (fun hc => ?_) | refine vcq (k := ?_) | refine dr 16 (k := ?_)))); all_goals (try conv => whnf); all_goals (try with_reducible exact trivial)
            · rw [htb] at hc
              rw [if_neg hc] at hcs
              refine ⟨b + 1, ⟨by omega, by dsimp only; omega⟩, none, ?_⟩
              (repeat' ((conv => whnf); (first | ((first | with_reducible refine spl (fun hc => ?_) (fun hc => ?_) | with_reducible refine spl' (fun hc => ?_) (fun hc => ?_)) <;> try (exfalso; omega)) | with_reducible refine imp_intro (fun hc => ?_) | refine vcq (k := ?_) | refine dr 16 (k := ?_)))); all_goals (try conv => whnf); all_goals (try with_reducible exact trivial)
            · refine callee_fo works13 rfl ?_
              rintro _ rfl
              (repeat' ((conv => whnf); (first | ((first | with_reducible refine spl (fun hc => ?_) (fun hc => ?_) | with_reducible refine spl' (fun hc => ?_) (fun hc => ?_)) <;> try (exfalso; omega)) | with_reducible refine imp_intro (fun hc => ?_) | refine vcq (k := ?_) | refine dr 16 (k := ?_)))); all_goals (try conv => whnf); all_goals (try with_reducible exact trivial)
              refine ⟨_, rfl, ?_⟩
              (repeat' ((conv => whnf); (first | ((first | with_reducible refine spl (fun hc => ?_) (fun hc => ?_) | with_reducible refine spl' (fun hc => ?_) (fun hc => ?_)) <;> try (exfalso; omega)) | with_reducible refine imp_intro (fun hc => ?_) | refine vcq (k := ?_) | refine dr 16 (k := ?_)))); all_goals (try conv => whnf); all_goals (try with_reducible exact trivial)
            · have hbn : b = x.n.toNat := by omega
              subst hbn
              exact absurd ⟨ht1, ht2.trans ht⟩ hc
end Go.Proofs
