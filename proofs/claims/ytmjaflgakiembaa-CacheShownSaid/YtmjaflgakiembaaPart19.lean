/- Own work: texts of the proof of a law (CaL6). No condition. -/
import Derived.Test.YtmjaflgakiembaaPart18
namespace Go.Proofs
open Go Go.Sx
set_option maxRecDepth 100000
set_option maxHeartbeats 40000000
-- SxAid2

theorem can_ok {x : Cache} (hx : x.Small) (hk : x.chk = 0) {b : Nat} (hb : (b : Int) < x.n) : PureC Try.prog 25 false [x.v, .int .i64 b] (· = .tup [.sl 1 (canL x b).length (rowOf intC 0 (canL x b)), .int .i64 0]) := by
  have h := Can25 x (by have := hx.l; omega) (fun _ => hx) b
  have e : canV x b = [.sl 1 (canL x b).length (rowOf intC 0 (canL x b)), .int .i64 0] := by
    unfold canV
    rw [if_pos hk, if_pos (by omega), Int.toNat_natCast]
  rw [e] at h
  exact h

theorem show_play {x : Cache} (hk : x.chk = 0) {im : Img} (h : ImgOk x im) : playV x im.t.D im.torn = [.sl 1 x.n.toNat (iF im.h.get), .int .i64 0] ∧ im.t.D.length ≤ 16 := by
  obtain ⟨h1, s, k, h2, h3⟩ := img_play (Cache.chk_ok hk) h
  refine ⟨?_, Classical.byContradiction fun g => h1 (.inl (by omega))⟩
  unfold playV
  rw [if_pos hk, if_neg h1, h2]
  dsimp only
  rw [h3]
  rfl

/-- found among the first so many? -/
def FdQ (L : List Int) (n : Int) (i : Nat) : Prop := ∃ j, j < i ∧ L.getD j 0 = n
theorem FdQ.succ {L : List Int} {n : Int} {i : Nat} : FdQ L n (i + 1) ↔ FdQ L n i ∨ L.getD i 0 = n := by
  constructor
  · rintro ⟨j, h1, h2⟩
    rcases Nat.lt_or_eq_of_le (show j ≤ i by omega) with g | rfl
    · exact .inl ⟨j, g, h2⟩
    · exact .inr h2
  · rintro (⟨j, h1, h2⟩ | h)
    · exact ⟨j, by omega, h2⟩
    · exact ⟨i, by omega, h⟩
theorem FdQ.of_mem {L : List Int} {n : Int} (h : n ∈ L) : FdQ L n L.length := by
  obtain ⟨j, hj, rfl⟩ := List.getElem_of_mem h
  exact ⟨j, hj, by simp [List.getD_eq_getElem?_getD, hj]⟩

theorem Shown7 (x : Cache) (hl : x.l.length ≤ 9223372036854775807) (l : List Int) (hll : l.length ≤ 9223372036854775807) : PureC Try.prog 7 false [x.v, .sl 1 l.length (rowOf intC 0 l)] (· = .prop True inferInstance) := by
  refine pureC_of_exec Try.E_ok Try.func7 rfl (by kernel_rfl) ?_
  (repeat' ((conv => whnf); (first | ((first | with_reducible refine spl (fun hc => ?_) (fun hc => ?_) | with_reducible refine spl' (fun hc => ?_) (fun hc => ?_)) <;> try (exfalso; omega)) | with_reducible refine imp_intro (fun hc => ?_) | refine vcq (k := ?_) | refine dr 12 (k := ?_)))); all_goals (try conv => whnf); all_goals (try with_reducible exact trivial); (repeat' ((first | (refine callee_fo (valid12 x hl) rfl ?_; rintro _ rfl) | (refine pcall_intro (valid12 x hl) rfl ?_) | (refine pcall_soft (fun _ => valid12 x hl) rfl ?_)); (repeat' ((conv => whnf); (first | ((first | with_reducible refine spl (fun hc => ?_) (fun hc => ?_) | with_reducible refine spl' (fun hc => ?_) (fun hc => ?_)) <;> try (exfalso; omega)) | with_reducible refine imp_intro (fun hc => ?_) | refine vcq (k := ?_) | refine dr 12 (k := ?_)))); all_goals (try conv => whnf); all_goals (try with_reducible exact trivial)))
  · have hv : ¬ x.far ∧ x.chk = 0 := Classical.not_not.1 (fun g => hc (.inl g))
    have hl40 : l.length ≤ 40 := by omega
    have hx := Cache.valid hv
    have hk := hv.2
    have hn := hx.ok.n
    have h3 := hx.n
    have h7 := hx.l
    clear hc hv
    refine callee_fo (IsImage33 x (by omega) l (by omega)) rfl ?_
    rintro _ rfl
    (repeat' ((conv => whnf); (first | ((first | with_reducible refine spl (fun hc => ?_) (fun hc => ?_) | with_reducible refine spl' (fun hc => ?_) (fun hc => ?_)) <;> try (exfalso; omega)) | with_reducible refine imp_intro (fun hc => ?_) | refine vcq (k := ?_) | refine dr 12 (k := ?_)))); all_goals (try conv => whnf); all_goals (try with_reducible exact trivial)
    · refine callee_fo works13 rfl ?_
      rintro _ rfl
      (repeat' ((conv => whnf); (first | ((first | with_reducible refine spl (fun hc => ?_) (fun hc => ?_) | with_reducible refine spl' (fun hc => ?_) (fun hc => ?_)) <;> try (exfalso; omega)) | with_reducible refine imp_intro (fun hc => ?_) | refine vcq (k := ?_) | refine dr 12 (k := ?_)))); all_goals (try conv => whnf); all_goals (try with_reducible exact trivial)
      refine ⟨_, rfl, ?_⟩
      (repeat' ((conv => whnf); (first | ((first | with_reducible refine spl (fun hc => ?_) (fun hc => ?_) | with_reducible refine spl' (fun hc => ?_) (fun hc => ?_)) <;> try (exfalso; omega)) | with_reducible refine imp_intro (fun hc => ?_) | refine vcq (k := ?_) | refine dr 12 (k := ?_)))); all_goals (try conv => whnf); all_goals (try with_reducible exact trivial)
    · have himg : IsImg x l := Classical.not_not.1 hc
      clear hc
      refine callee_fo (Possible21 x (by omega) (fun _ => hx) l (by omega)) rfl ?_
      intro r hr
      cases hr with
      | chk g => exact absurd hk g
      | img _ g => exact absurd himg g
      | pos =>
        (repeat' ((conv => whnf); (first | ((first | with_reducible refine spl (fun hc => ?_) (fun hc => ?_) | with_reducible refine spl' (fun hc => ?_) (fun hc => ?_)) <;> try (exfalso; omega)) | with_reducible refine imp_intro (fun hc => ?_) | refine vcq (k := ?_) | refine dr 12 (k := ?_)))); all_goals (try conv => whnf); all_goals (try with_reducible exact trivial)
        refine callee_fo (Show31 x (by omega) (fun _ => hx) l (by omega)) rfl ?_
        intro r hr
        cases hr with
        | chk g => exact absurd hk g
        | img _ g => exact absurd himg g
        | no _ _ hno =>
          (repeat' ((conv => whnf); (first | ((first | with_reducible refine spl (fun hc => ?_) (fun hc => ?_) | with_reducible refine spl' (fun hc => ?_) (fun hc => ?_)) <;> try (exfalso; omega)) | with_reducible refine imp_intro (fun hc => ?_) | refine vcq (k := ?_) | refine dr 12 (k := ?_)))); all_goals (try conv => whnf); all_goals (try with_reducible exact trivial)
          · have g : ((0 : Int) ≠ 0 ∨ ¬(IsPos x l ↔ (3 : Int) = 0)) ∨ ¬IsPos x l ∧ (3 : Int) ≠ 3 := hc
            exfalso
            rcases g with (g | g) | g
            · exact g rfl
            · exact g ⟨fun k => absurd k hno, fun k => by omega⟩
            · exact g.2 rfl
          · exact absurd hc hno
          · refine callee_fo works13 rfl ?_
            rintro _ rfl
            (repeat' ((conv => whnf); (first | ((first | with_reducible refine spl (fun hc => ?_) (fun hc => ?_) | with_reducible refine spl' (fun hc => ?_) (fun hc => ?_)) <;> try (exfalso; omega)) | with_reducible refine imp_intro (fun hc => ?_) | refine vcq (k := ?_) | refine dr 12 (k := ?_)))); all_goals (try conv => whnf); all_goals (try with_reducible exact trivial)
            refine ⟨_, rfl, ?_⟩
            (repeat' ((conv => whnf); (first | ((first | with_reducible refine spl (fun hc => ?_) (fun hc => ?_) | with_reducible refine spl' (fun hc => ?_) (fun hc => ?_)) <;> try (exfalso; omega)) | with_reducible refine imp_intro (fun hc => ?_) | refine vcq (k := ?_) | refine dr 12 (k := ?_)))); all_goals (try conv => whnf); all_goals (try with_reducible exact trivial)
        | yes im _ _ him heq =>
          have hyes : IsPos x l := ⟨_, him.pos, heq⟩
          obtain ⟨hpl, hD⟩ := show_play hk him
          have hpos := him.pos
          have hln := himg.1
          (repeat' ((conv => whnf); (first | ((first | with_reducible refine spl (fun hc => ?_) (fun hc => ?_) | with_reducible refine spl' (fun hc => ?_) (fun hc => ?_)) <;> try (exfalso; omega)) | with_reducible refine imp_intro (fun hc => ?_) | refine vcq (k := ?_) | refine dr 12 (k := ?_)))); all_goals (try conv => whnf); all_goals (try with_reducible exact trivial)
          · have g : ((0 : Int) ≠ 0 ∨ ¬(IsPos x l ↔ (0 : Int) = 0)) ∨ ¬IsPos x l ∧ (0 : Int) ≠ 3 := hc
            exfalso
            rcases g with (g | g) | g
            · exact g rfl
            · exact g ⟨fun _ => rfl, fun _ => hyes⟩
            · exact g.1 hyes
          · refine callee_fo (Play20 x (by omega) im.t.D (by omega) im.torn) rfl ?_
            rintro _ rfl
            rw [hpl]
            (repeat' ((conv => whnf); (first | ((first | with_reducible refine spl (fun hc => ?_) (fun hc => ?_) | with_reducible refine spl' (fun hc => ?_) (fun hc => ?_)) <;> try (exfalso; omega)) | with_reducible refine imp_intro (fun hc => ?_) | refine vcq (k := ?_) | refine dr 12 (k := ?_)))); all_goals (try conv => whnf); all_goals (try with_reducible exact trivial)
            refine callee_fo (sameInts30 x.n.toNat l.length (by omega) (by omega) im.h.get (fun b => l.getD b 0)) rfl ?_
            rintro _ rfl
            clear hpl hD
            (repeat' ((conv => whnf); (first | ((first | with_reducible refine spl (fun hc => ?_) (fun hc => ?_) | with_reducible refine spl' (fun hc => ?_) (fun hc => ?_)) <;> try (exfalso; omega)) | with_reducible refine imp_intro (fun hc => ?_) | refine vcq (k := ?_) | refine dr 12 (k := ?_)))); all_goals (try conv => whnf); all_goals (try with_reducible exact trivial)
            · exact absurd (⟨by omega, fun b hb => heq b (by omega)⟩ : x.n.toNat = l.length ∧ ∀ b, b < x.n.toNat → im.h.get b = l.getD b 0) hc
            · have hmem : ∀ b : Nat, b < l.length → l.getD b 0 ∈ canL x b := fun b hb => (mem_canL hx (by omega)).2 ⟨_, hpos, heq b hb⟩
              refine ⟨Nat, fun b => b ≤ l.length, fun b => l.length - b, fun b => [(12, .int .i64 (b : Nat))], fun _ => [], fun _ => [], 0, ⟨by omega, none, ?_⟩, ?_⟩
              · (repeat' ((conv => whnf); (first | ((first | with_reducible refine spl (fun hc => ?_) (fun hc => ?_) | with_reducible refine spl' (fun hc => ?_) (fun hc => ?_)) <;> try (exfalso; omega)) | with_reducible refine imp_intro (fun hc => ?_) | refine vcq (k := ?_) | refine dr 12 (k := ?_)))); all_goals (try conv => whnf); all_goals (try with_reducible exact trivial)
              · intro b hb
                have hb : b ≤ l.length := hb
                have htb : (b : Int).toNat = b := Int.toNat_natCast b
                (repeat' ((conv => whnf); (first | ((first | with_reducible refine spl (fun hc => ?_) (fun hc => ?_) | with_reducible refine spl' (fun hc => ?_) (fun hc => ?_)) <;> try (exfalso; omega)) | with_reducible refine imp_intro (fun hc => ?_) | refine vcq (k := ?_) | refine dr 12 (k := ?_)))); all_goals (try conv => whnf); all_goals (try with_reducible exact trivial)
                · have hb1 : b < l.length := by omega
                  have hcl := canL_len x b
                  have hfd := FdQ.of_mem (hmem b hb1)
                  refine callee_fo (can_ok hx hk (by omega)) rfl ?_
                  rintro _ rfl
                  (repeat' ((conv => whnf); (first | ((first | with_reducible refine spl (fun hc => ?_) (fun hc => ?_) | with_reducible refine spl' (fun hc => ?_) (fun hc => ?_)) <;> try (exfalso; omega)) | with_reducible refine imp_intro (fun hc => ?_) | refine vcq (k := ?_) | refine dr 12 (k := ?_)))); all_goals (try conv => whnf); all_goals (try with_reducible exact trivial)
                  refine ⟨Nat, fun i => i ≤ (canL x b).length, fun i => (canL x b).length - i, fun i => [(16, .int .i64 (i : Nat)), (15, .prop (FdQ (canL x b) (l.getD b 0) i) (Classical.propDecidable _))], fun _ => [], fun _ => [], 0, ⟨by omega, none, ?_⟩, ?_⟩
                  · (repeat' ((conv => whnf); (first | ((first | with_reducible refine spl (fun hc => ?_) (fun hc => ?_) | with_reducible refine spl' (fun hc => ?_) (fun hc => ?_)) <;> try (exfalso; omega)) | with_reducible refine imp_intro (fun hc => ?_) | refine vcq (k := ?_) | refine dr 12 (k := ?_)))); all_goals (try conv => whnf); all_goals (try with_reducible exact trivial)
                    refine ⟨fun ⟨j, h, _⟩ => by omega, ?_⟩
                    (repeat' ((conv => whnf); (first | ((first | with_reducible refine spl (fun hc => ?_) (fun hc => ?_) | with_reducible refine spl' (fun hc => ?_) (fun hc => ?_)) <;> try (exfalso; omega)) | with_reducible refine imp_intro (fun hc => ?_) | refine vcq (k := ?_) | refine dr 12 (k := ?_)))); all_goals (try conv => whnf); all_goals (try with_reducible exact trivial)
                  · intro i hi
                    have hi : i ≤ (canL x b).length := hi
                    have hti : (i : Int).toNat = i := Int.toNat_natCast i
                    (repeat' ((conv => whnf); (first | ((first | with_reducible refine spl (fun hc => ?_) (fun hc => ?_) | with_reducible refine spl' (fun hc => ?_) (fun hc => ?_)) <;> try (exfalso; omega)) | with_reducible refine imp_intro (fun hc => ?_) | refine vcq (k := ?_) | refine dr 12 (k := ?_)))); all_goals (try conv => whnf); all_goals (try with_reducible exact trivial)
                    · refine ⟨i + 1, ⟨by omega, by dsimp only; omega⟩, none, ?_⟩
                      (repeat' ((conv => whnf); (first | ((first | with_reducible refine spl (fun hc => ?_) (fun hc => ?_) | with_reducible refine spl' (fun hc => ?_) (fun hc => ?_)) <;> try (exfalso; omega)) | with_reducible refine imp_intro (fun hc => ?_) | refine vcq (k := ?_) | refine dr 12 (k := ?_)))); all_goals (try conv => whnf); all_goals (try with_reducible exact trivial)
                      refine ⟨by rw [hti, htb]; exact FdQ.succ.symm, ?_⟩
                      (repeat' ((conv => whnf); (first | ((first | with_reducible refine spl (fun hc => ?_) (fun hc => ?_) | with_reducible refine spl' (fun hc => ?_) (fun hc => ?_)) <;> try (exfalso; omega)) | with_reducible refine imp_intro (fun hc => ?_) | refine vcq (k := ?_) | refine dr 12 (k := ?_)))); all_goals (try conv => whnf); all_goals (try with_reducible exact trivial)
                    · have hil : i = (canL x b).length := by omega
                      subst hil
                      have hc : (0 : Int) ≠ 0 ∨ ¬ FdQ (canL x b) (l.getD b 0) (canL x b).length := hc
                      rcases hc with g | g
                      · exact absurd rfl g
                      · exact absurd hfd g
                    · refine ⟨b + 1, ⟨by omega, by dsimp only; omega⟩, none, ?_⟩
                      (repeat' ((conv => whnf); (first | ((first | with_reducible refine spl (fun hc => ?_) (fun hc => ?_) | with_reducible refine spl' (fun hc => ?_) (fun hc => ?_)) <;> try (exfalso; omega)) | with_reducible refine imp_intro (fun hc => ?_) | refine vcq (k := ?_) | refine dr 12 (k := ?_)))); all_goals (try conv => whnf); all_goals (try with_reducible exact trivial)
                · refine callee_fo works13 rfl ?_
                  rintro _ rfl
                  (repeat' ((conv => whnf); (first | ((first | with_reducible refine spl (fun hc => ?_) (fun hc => ?_) | with_reducible refine spl' (fun hc => ?_) (fun hc => ?_)) <;> try (exfalso; omega)) | with_reducible refine imp_intro (fun hc => ?_) | refine vcq (k := ?_) | refine dr 12 (k := ?_)))); all_goals (try conv => whnf); all_goals (try with_reducible exact trivial)
                  refine ⟨_, rfl, ?_⟩
                  (repeat' ((conv => whnf); (first | ((first | with_reducible refine spl (fun hc => ?_) (fun hc => ?_) | with_reducible refine spl' (fun hc => ?_) (fun hc => ?_)) <;> try (exfalso; omega)) | with_reducible refine imp_intro (fun hc => ?_) | refine vcq (k := ?_) | refine dr 12 (k := ?_)))); all_goals (try conv => whnf); all_goals (try with_reducible exact trivial)
          · exact absurd hyes hc
  · refine callee_fo works13 rfl ?_
    rintro _ rfl
    (repeat' ((conv => whnf); (first | ((first | with_reducible refine spl (fun hc => ?_) (fun hc => ?_) | with_reducible refine spl' (fun hc => ?_) (fun hc => ?_)) <;> try (exfalso; omega)) | with_reducible refine imp_intro (fun hc => ?_) | refine vcq (k := ?_) | refine dr 12 (k := ?_)))); all_goals (try conv => whnf); all_goals (try with_reducible exact trivial)
    refine ⟨_, rfl, ?_⟩
    (repeat' ((conv => whnf); (first | ((first | with_reducible refine spl (fun hc => ?_) (fun hc => ?_) | with_reducible refine spl' (fun hc => ?_) (fun hc => ?_)) <;> try (exfalso; omega)) | with_reducible refine imp_intro (fun hc => ?_) | refine vcq (k := ?_) | refine dr 12 (k := ?_)))); all_goals (try conv => whnf); all_goals (try with_reducible exact trivial)
end Go.Proofs
