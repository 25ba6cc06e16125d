/- Own work: texts of the proof of a law (QuE6). No condition. -/
import Derived.Test.YthjcfbkgfnnkkaaPart20
namespace Go.Proofs
open Go Go.Sx
set_option maxRecDepth 100000
set_option maxHeartbeats 40000000
def KeepT (od : Nat → Prop) (o : List Nat) (i k : Nat) : Prop := (∀ i', i' < i → ∀ k', k' < i' → o.getD i' 0 < o.getD k' 0 → ¬ (od (o.getD k' 0) ∨ od (o.getD i' 0))) ∧ ∀ k', k' < k → o.getD i 0 < o.getD k' 0 → ¬ (od (o.getD k' 0) ∨ od (o.getD i 0))
theorem keepT_of {n p : Nat} {od : Nat → Prop} {o : List Nat} (h : IsOrd n o) (ha : AllP n p od o) : KeepT od o o.length 0 := by
  refine ⟨fun i hi k hk hlt hh => ?_, fun k hk => by omega⟩
  have := ((allP_iff h).1 ha i hi).1 k hk (by omega)
  rcases hh with g | g
  · exact this.1 g
  · exact this.2 g
theorem keepT_free {n : Nat} {od : Nat → Prop} {o : List Nat} (h : IsOrd n o) (hn : n ≤ 6) (hk : KeepT od o o.length 0) : AllP n 6 od o := by
  refine (allP_iff h).2 fun i hi => ⟨fun k hki hle => ?_, ?_⟩
  · have hlt : o.getD i 0 < o.getD k 0 := by
      rcases Nat.lt_or_eq_of_le hle with g | g
      · exact g
      · have := h.inj (by omega) (by omega) g; omega
    have := hk.1 i hi k hki hlt
    exact ⟨fun g => this (.inl g), fun g => this (.inr g)⟩
  · have := List.length_filter_le (fun b => decide (o.getD i 0 ≤ b)) (o.take i)
    rw [List.length_take] at this
    have := h.len
    omega
theorem all_le {n p p' : Nat} {od : Nat → Prop} {o : List Nat} (h : p ≤ p') (ha : AllP n p od o) : AllP n p' od o := fun i hi m hm hr hn => by
  have := ha i hi m hm hr hn
  exact ⟨by omega, this.2⟩
theorem Barrier6 (q : Qu) (hz : q.d.Z.length ≤ 9223372036854775807) (hsk : q.sk.length ≤ 9223372036854775807) (hrq : q.rq.length ≤ 9223372036854775807) (l : List Int) (hl : l.length ≤ 9223372036854775807) :
    PureC Try.prog 6 false [.agg q.c, .sl 1 l.length (rowOf intC 0 l)] (· = .prop True inferInstance) := by
  refine pureC_of_exec Try.E_ok Try.func6 rfl (by kernel_rfl) ?_
  (repeat' ((conv => whnf); (first | (with_reducible first | apply spl | apply spl') <;> intro hc <;> try (exfalso; omega) | with_reducible refine iJ fun hc => ?_ | refine vcq (k := ?_) | refine dr 31 (k := ?_)))); all_goals ((try conv => whnf); try with_reducible exact trivial); (repeat' ((first | (refine callee_fo (ready8 q hz hsk hrq) rfl ?_; rintro _ rfl) | (refine pcall_intro (ready8 q hz hsk hrq) rfl ?_) | (refine pcall_soft (fun _ => ready8 q hz hsk hrq) rfl ?_) | (refine callee_fo (works10) rfl ?_; rintro _ rfl) | (refine pcall_intro (works10) rfl ?_) | (refine pcall_soft (fun _ => works10) rfl ?_)); (repeat' ((conv => whnf); (first | (with_reducible first | apply spl | apply spl') <;> intro hc <;> try (exfalso; omega) | with_reducible refine iJ fun hc => ?_ | refine vcq (k := ?_) | refine dr 31 (k := ?_)))); all_goals ((try conv => whnf); try with_reducible exact trivial)))
  · obtain ⟨hs, _⟩ := Qu.ready (q := q) (Classical.not_not.1 fun g => hc (.inl g))
    have hq := hs.ok
    have hrl := hs.rql
    have hl20 : l.length ≤ 20 := by omega
    clear hc
    refine callee_fo (IsOrder9 q (by omega) l (by omega)) rfl ?_
    rintro _ rfl
    (repeat' ((conv => whnf); (first | (with_reducible first | apply spl | apply spl') <;> intro hc <;> try (exfalso; omega) | with_reducible refine iJ fun hc => ?_ | refine vcq (k := ?_) | refine dr 31 (k := ?_)))); all_goals ((try conv => whnf); try with_reducible exact trivial); (repeat' ((first | (refine callee_fo (works10) rfl ?_; rintro _ rfl) | (refine pcall_intro (works10) rfl ?_) | (refine pcall_soft (fun _ => works10) rfl ?_)); (repeat' ((conv => whnf); (first | (with_reducible first | apply spl | apply spl') <;> intro hc <;> try (exfalso; omega) | with_reducible refine iJ fun hc => ?_ | refine vcq (k := ?_) | refine dr 31 (k := ?_)))); all_goals ((try conv => whnf); try with_reducible exact trivial)))
    · refine ⟨_, rfl, ?_⟩
      (repeat' ((conv => whnf); (first | (with_reducible first | apply spl | apply spl') <;> intro hc <;> try (exfalso; omega) | with_reducible refine iJ fun hc => ?_ | refine vcq (k := ?_) | refine dr 31 (k := ?_)))); all_goals ((try conv => whnf); try with_reducible exact trivial)
    · have hoI : IsOrdI q.rq.length l := Classical.not_not.1 (by assumption)
      have hll : l.length = (l.map Int.toNat).length := by simp
      have ho := hoI.ord
      rw [hoI.row, hll]
      generalize l.map Int.toNat = o at *
      have hlt : ∀ k, k < o.length → o.getD k 0 < q.rq.length := fun k hk => by rw [getD_get hk]; exact ho.lt _ (List.getElem_mem hk)
      have holen := ho.len
      refine callee_fo (Allowed20 q hq o ho) rfl ?_
      rintro _ rfl
      (repeat' ((conv => whnf); (first | (with_reducible first | apply spl | apply spl') <;> intro hc <;> try (exfalso; omega) | with_reducible refine iJ fun hc => ?_ | refine vcq (k := ?_) | refine dr 31 (k := ?_)))); all_goals ((try conv => whnf); try with_reducible exact trivial)
      refine callee_fo (With19 q 6) rfl ?_
      rintro _ rfl
      (repeat' ((conv => whnf); (first | (with_reducible first | apply spl | apply spl') <;> intro hc <;> try (exfalso; omega) | with_reducible refine iJ fun hc => ?_ | refine vcq (k := ?_) | refine dr 31 (k := ?_)))); all_goals ((try conv => whnf); try with_reducible exact trivial)
      refine callee_fo (Allowed20 (q.wp 6) (hq.wp (by omega)) o ho) rfl ?_
      rintro _ rfl
      (repeat' ((conv => whnf); (first | (with_reducible first | apply spl | apply spl') <;> intro hc <;> try (exfalso; omega) | with_reducible refine iJ fun hc => ?_ | refine vcq (k := ?_) | refine dr 31 (k := ?_)))); all_goals ((try conv => whnf); try with_reducible exact trivial)
      · exfalso
        rcases hc with (g | g) | ⟨g1, g2⟩
        · exact g rfl
        · exact g rfl
        · exact g2 (all_le (by show q.pas.toNat ≤ 6; have := hq.pas; omega) g1)
      · refine ⟨Nat, fun i => i ≤ o.length, fun i => o.length - i, fun i => [(10, .int .i64 (i : Nat)), (9, .prop (KeepT q.od o i 0) (Classical.propDecidable _)), (11, .any)], fun _ => [], fun _ => [], 0, ⟨by omega, none, ?_⟩, ?_⟩
        · (repeat' ((conv => whnf); (first | (with_reducible first | apply spl | apply spl') <;> intro hc <;> try (exfalso; omega) | with_reducible refine iJ fun hc => ?_ | refine vcq (k := ?_) | refine dr 31 (k := ?_)))); all_goals ((try conv => whnf); try with_reducible exact trivial)
          refine ⟨⟨fun i hi => by omega, fun k hk => by omega⟩, ?_⟩
          (repeat' ((conv => whnf); (first | (with_reducible first | apply spl | apply spl') <;> intro hc <;> try (exfalso; omega) | with_reducible refine iJ fun hc => ?_ | refine vcq (k := ?_) | refine dr 31 (k := ?_)))); all_goals ((try conv => whnf); try with_reducible exact trivial)
        · intro i hi
          have hi : i ≤ o.length := hi
          have hti : (i : Int).toNat = i := Int.toNat_natCast i
          (repeat' ((conv => whnf); (first | (with_reducible first | apply spl | apply spl') <;> intro hc <;> try (exfalso; omega) | with_reducible refine iJ fun hc => ?_ | refine vcq (k := ?_) | refine dr 31 (k := ?_)))); all_goals ((try conv => whnf); try with_reducible exact trivial); (repeat' ((first | (refine callee_fo (works10) rfl ?_; rintro _ rfl) | (refine pcall_intro (works10) rfl ?_) | (refine pcall_soft (fun _ => works10) rfl ?_)); (repeat' ((conv => whnf); (first | (with_reducible first | apply spl | apply spl') <;> intro hc <;> try (exfalso; omega) | with_reducible refine iJ fun hc => ?_ | refine vcq (k := ?_) | refine dr 31 (k := ?_)))); all_goals ((try conv => whnf); try with_reducible exact trivial)))
          · have hil : i < o.length := by omega
            refine ⟨Nat, fun k => k ≤ i, fun k => i - k, fun k => [(11, .int .i64 (k : Nat)), (9, .prop (KeepT q.od o i k) (Classical.propDecidable _))], fun _ => [], fun _ => [], 0, ⟨by omega, none, ?_⟩, ?_⟩
            · (repeat' ((conv => whnf); (first | (with_reducible first | apply spl | apply spl') <;> intro hc <;> try (exfalso; omega) | with_reducible refine iJ fun hc => ?_ | refine vcq (k := ?_) | refine dr 31 (k := ?_)))); all_goals ((try conv => whnf); try with_reducible exact trivial)
            · intro k hk
              have hk : k ≤ i := hk
              have htk : (k : Int).toNat = k := Int.toNat_natCast k
              (repeat' ((conv => whnf); (first | (with_reducible first | apply spl | apply spl') <;> intro hc <;> try (exfalso; omega) | with_reducible refine iJ fun hc => ?_ | refine vcq (k := ?_) | refine dr 31 (k := ?_)))); all_goals ((try conv => whnf); try with_reducible exact trivial)
              · have hkl : k < o.length := by omega
                have b1 := hlt k hkl
                have b2 := hlt i hil
                rw [htk, hti]
                (repeat' ((conv => whnf); (first | (with_reducible first | apply spl | apply spl') <;> intro hc <;> try (exfalso; omega) | with_reducible refine iJ fun hc => ?_ | refine vcq (k := ?_) | refine dr 31 (k := ?_)))); all_goals ((try conv => whnf); try with_reducible exact trivial)
                rw [hti]
                (repeat' ((conv => whnf); (first | (with_reducible first | apply spl | apply spl') <;> intro hc <;> try (exfalso; omega) | with_reducible refine iJ fun hc => ?_ | refine vcq (k := ?_) | refine dr 31 (k := ?_)))); all_goals ((try conv => whnf); try with_reducible exact trivial)
                · have hv : ¬ KeepT q.od o i (k + 1) := fun h => by
                    have := h.2 k (by omega)
                    rw [Int.toNat_natCast, Int.toNat_natCast] at hc
                    exact this (by omega) hc.2
                  refine ⟨k + 1, ⟨by omega, by dsimp only; omega⟩, none, ?_⟩
                  (repeat' ((conv => whnf); (first | (with_reducible first | apply spl | apply spl') <;> intro hc <;> try (exfalso; omega) | with_reducible refine iJ fun hc => ?_ | refine vcq (k := ?_) | refine dr 31 (k := ?_)))); all_goals ((try conv => whnf); try with_reducible exact trivial)
                · have hv : KeepT q.od o i k ↔ KeepT q.od o i (k + 1) := by
                    rw [Int.toNat_natCast, Int.toNat_natCast] at hc
                    refine ⟨fun h => ⟨h.1, fun k' hk' hlt' hh => ?_⟩, fun h => ⟨h.1, fun k' hk' => h.2 k' (by omega)⟩⟩
                    rcases Nat.lt_or_eq_of_le (show k' ≤ k by omega) with g | rfl
                    · exact h.2 k' g hlt' hh
                    · exact hc ⟨by omega, hh⟩
                  refine ⟨k + 1, ⟨by omega, by dsimp only; omega⟩, none, ?_⟩
                  (repeat' ((conv => whnf); (first | (with_reducible first | apply spl | apply spl') <;> intro hc <;> try (exfalso; omega) | with_reducible refine iJ fun hc => ?_ | refine vcq (k := ?_) | refine dr 31 (k := ?_)))); all_goals ((try conv => whnf); try with_reducible exact trivial)
              · obtain rfl : k = i := by omega
                have hv : KeepT q.od o k k ↔ KeepT q.od o (k + 1) 0 := by
                  refine ⟨fun h => ⟨fun i' hi' => ?_, fun k' hk' => by omega⟩, fun h => ⟨fun i' hi' => h.1 i' (by omega), h.1 k (by omega)⟩⟩
                  rcases Nat.lt_or_eq_of_le (show i' ≤ k by omega) with g | rfl
                  · exact h.1 i' g
                  · exact h.2
                refine ⟨k + 1, ⟨by omega, by dsimp only; omega⟩, none, ?_⟩
                (repeat' ((conv => whnf); (first | (with_reducible first | apply spl | apply spl') <;> intro hc <;> try (exfalso; omega) | with_reducible refine iJ fun hc => ?_ | refine vcq (k := ?_) | refine dr 31 (k := ?_)))); all_goals ((try conv => whnf); try with_reducible exact trivial)
          · refine ⟨_, rfl, ?_⟩
            (repeat' ((conv => whnf); (first | (with_reducible first | apply spl | apply spl') <;> intro hc <;> try (exfalso; omega) | with_reducible refine iJ fun hc => ?_ | refine vcq (k := ?_) | refine dr 31 (k := ?_)))); all_goals ((try conv => whnf); try with_reducible exact trivial)
          · obtain rfl : i = o.length := by omega
            exfalso
            refine hc ⟨⟨fun h => keepT_of ho h, fun h => keepT_free ho (show q.rq.length ≤ 6 by omega) h⟩, ?_⟩
            by_cases h : AllP q.rq.length q.pas.toNat q.od o
            · exact .inr (keepT_of ho h)
            · exact .inl h
  · refine ⟨_, rfl, ?_⟩
    (repeat' ((conv => whnf); (first | (with_reducible first | apply spl | apply spl') <;> intro hc <;> try (exfalso; omega) | with_reducible refine iJ fun hc => ?_ | refine vcq (k := ?_) | refine dr 31 (k := ?_)))); all_goals ((try conv => whnf); try with_reducible exact trivial)
end Go.Proofs
