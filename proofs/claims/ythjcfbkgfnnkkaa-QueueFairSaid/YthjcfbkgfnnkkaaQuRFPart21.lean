/- Own work: texts of the proof of a law (QuE5). No condition. -/
import Derived.Test.YthjcfbkgfnnkkaaPart20
namespace Go.Proofs
open Go Go.Sx
set_option maxRecDepth 100000
set_option maxHeartbeats 40000000
theorem end_le_bound {q : Qu} {p : Int} {o : List Nat} (ho : o ∈ q.all p) (r : Nat) : q.endOf true o r ≤ q.bound p r := (q.maxE_ge r (q.all p) 0).2.1 o ho
def pasT (o : List Nat) (i k : Nat) : Nat := ((o.take k).filter fun b => decide (o.getD i 0 < b)).length
theorem pasT_zero (o : List Nat) (i : Nat) : pasT o i 0 = 0 := by simp [pasT]
theorem pasT_le (o : List Nat) (i k : Nat) : pasT o i k ≤ k := by
  have := List.length_filter_le (fun b => decide (o.getD i 0 < b)) (o.take k)
  rw [List.length_take] at this
  unfold pasT
  omega
theorem pasT_succ {o : List Nat} {i k : Nat} (hk : k < o.length) : pasT o i (k + 1) = pasT o i k + if o.getD i 0 < o.getD k 0 then 1 else 0 := by
  unfold pasT
  rw [List.take_succ_eq_append_getElem hk, ← getD_get hk, List.filter_append, List.length_append]
  by_cases h : o.getD i 0 < o.getD k 0 <;> simp only [List.filter_cons, h, decide_true, decide_false, if_true, if_false, Bool.false_eq_true, List.filter_nil, List.length_singleton, List.length_nil]
theorem pasT_all {n p : Nat} {od : Nat → Prop} {o : List Nat} (h : IsOrd n o) (ha : AllP n p od o) {i : Nat} (hi : i < o.length) : pasT o i i ≤ p := by
  have := ((allP_iff h).1 ha i hi).2
  rwa [filter_ge h hi (Nat.le_refl i)] at this
theorem range_row (n : Nat) : ∀ i, i < n → [V.int .i64 (i : Nat)] = rowOf natC 0 (List.range n) i := by
  intro i hi
  unfold rowOf natC
  simp [List.getD_eq_getElem?_getD, hi]
theorem Fair5 (q : Qu) (hz : q.d.Z.length ≤ 9223372036854775807) (hsk : q.sk.length ≤ 9223372036854775807) (hrq : q.rq.length ≤ 9223372036854775807) (l : List Int) (hl : l.length ≤ 9223372036854775807) :
    PureC Try.prog 5 false [.agg q.c, .sl 1 l.length (rowOf intC 0 l)] (· = .prop True inferInstance) := by
  refine pureC_of_exec Try.E_ok Try.func5 rfl (by kernel_rfl) ?_
  (repeat' ((conv => whnf); (first | (with_reducible first | apply spl | apply spl') <;> intro hc <;> try (exfalso; omega) | with_reducible refine iJ fun hc => ?_ | refine vcq (k := ?_) | refine dr 11 (k := ?_) | refine dr 9 (k := ?_)))); all_goals ((try conv => whnf); try with_reducible exact trivial); (repeat' ((first | (refine callee_fo (ready8 q hz hsk hrq) rfl ?_; rintro _ rfl) | (refine pcall_intro (ready8 q hz hsk hrq) rfl ?_) | (refine pcall_soft (fun _ => ready8 q hz hsk hrq) rfl ?_) | (refine callee_fo (works10) rfl ?_; rintro _ rfl) | (refine pcall_intro (works10) rfl ?_) | (refine pcall_soft (fun _ => works10) rfl ?_)); (repeat' ((conv => whnf); (first | (with_reducible first | apply spl | apply spl') <;> intro hc <;> try (exfalso; omega) | with_reducible refine iJ fun hc => ?_ | refine vcq (k := ?_) | refine dr 11 (k := ?_) | refine dr 9 (k := ?_)))); all_goals ((try conv => whnf); try with_reducible exact trivial)))
  · obtain ⟨hs, _⟩ := Qu.ready (q := q) (Classical.not_not.1 fun g => hc (.inl g))
    have hq := hs.ok
    have hrl := hs.rql
    have hp := hq.pas
    have hl20 : l.length ≤ 20 := by omega
    clear hc
    refine callee_fo (IsOrder9 q (by omega) l (by omega)) rfl ?_
    rintro _ rfl
    (repeat' ((conv => whnf); (first | (with_reducible first | apply spl | apply spl') <;> intro hc <;> try (exfalso; omega) | with_reducible refine iJ fun hc => ?_ | refine vcq (k := ?_) | refine dr 11 (k := ?_) | refine dr 9 (k := ?_)))); all_goals ((try conv => whnf); try with_reducible exact trivial); (repeat' ((first | (refine callee_fo (works10) rfl ?_; rintro _ rfl) | (refine pcall_intro (works10) rfl ?_) | (refine pcall_soft (fun _ => works10) rfl ?_)); (repeat' ((conv => whnf); (first | (with_reducible first | apply spl | apply spl') <;> intro hc <;> try (exfalso; omega) | with_reducible refine iJ fun hc => ?_ | refine vcq (k := ?_) | refine dr 11 (k := ?_) | refine dr 9 (k := ?_)))); all_goals ((try conv => whnf); try with_reducible exact trivial)))
    · refine ⟨_, rfl, ?_⟩
      (repeat' ((conv => whnf); (first | (with_reducible first | apply spl | apply spl') <;> intro hc <;> try (exfalso; omega) | with_reducible refine iJ fun hc => ?_ | refine vcq (k := ?_) | refine dr 11 (k := ?_) | refine dr 9 (k := ?_)))); all_goals ((try conv => whnf); try with_reducible exact trivial)
    · have hoI : IsOrdI q.rq.length l := Classical.not_not.1 (by assumption)
      have hll : l.length = (l.map Int.toNat).length := by simp
      have ho := hoI.ord
      rw [hoI.row, hll]
      generalize l.map Int.toNat = o at *
      have hlt : ∀ k, k < o.length → o.getD k 0 < q.rq.length := fun k hk => by rw [getD_get hk]; exact ho.lt _ (List.getElem_mem hk)
      have holen := ho.len
      refine ⟨Nat, fun i => i ≤ q.rq.length, fun i => q.rq.length - i, fun i => [(6, .int .i64 (i : Nat)), (5, .osl 1 i)], fun _ => [], fun i => [.row 3 1 i (fun r => [.int .i64 (r : Nat)]) true], 0, ⟨by omega, some [some 0, none], ?_⟩, ?_⟩
      · (repeat' ((conv => whnf); (first | (with_reducible first | apply spl | apply spl') <;> intro hc <;> try (exfalso; omega) | with_reducible refine iJ fun hc => ?_ | refine vcq (k := ?_) | refine dr 11 (k := ?_) | refine dr 9 (k := ?_)))); all_goals ((try conv => whnf); try with_reducible exact trivial)
      · intro i hi
        have hi : i ≤ q.rq.length := hi
        have hti : (i : Int).toNat = i := Int.toNat_natCast i
        (repeat' ((conv => whnf); (first | (with_reducible first | apply spl | apply spl') <;> intro hc <;> try (exfalso; omega) | with_reducible refine iJ fun hc => ?_ | refine vcq (k := ?_) | refine dr 11 (k := ?_) | refine dr 9 (k := ?_)))); all_goals ((try conv => whnf); try with_reducible exact trivial)
        · refine ⟨i + 1, ⟨by omega, by dsimp only; omega⟩, some [some 0, some 3], ?_⟩
          (repeat' ((conv => whnf); (first | (with_reducible first | apply spl | apply spl') <;> intro hc <;> try (exfalso; omega) | with_reducible refine iJ fun hc => ?_ | refine vcq (k := ?_) | refine dr 11 (k := ?_) | refine dr 9 (k := ?_)))); all_goals ((try conv => whnf); try with_reducible exact trivial)
          refine ⟨appF_last rfl, ?_⟩
          (repeat' ((conv => whnf); (first | (with_reducible first | apply spl | apply spl') <;> intro hc <;> try (exfalso; omega) | with_reducible refine iJ fun hc => ?_ | refine vcq (k := ?_) | refine dr 11 (k := ?_) | refine dr 9 (k := ?_)))); all_goals ((try conv => whnf); try with_reducible exact trivial)
        · obtain rfl : i = q.rq.length := by omega
          refine callee_view (Allowed20 q hq (List.range q.rq.length) (range_ord _)) ?_
          (repeat' ((conv => whnf); (first | (with_reducible first | apply spl | apply spl') <;> intro hc <;> try (exfalso; omega) | with_reducible refine iJ fun hc => ?_ | refine vcq (k := ?_) | refine dr 11 (k := ?_) | refine dr 9 (k := ?_)))); all_goals ((try conv => whnf); try with_reducible exact trivial)
          refine ⟨by rw [List.length_range], fun i hi => range_row _ i hi, .inl rfl, ?_⟩
          (repeat' ((conv => whnf); (first | (with_reducible first | apply spl | apply spl') <;> intro hc <;> try (exfalso; omega) | with_reducible refine iJ fun hc => ?_ | refine vcq (k := ?_) | refine dr 11 (k := ?_) | refine dr 9 (k := ?_)))); all_goals ((try conv => whnf); try with_reducible exact trivial)
          rintro _ rfl
          (repeat' ((conv => whnf); (first | (with_reducible first | apply spl | apply spl') <;> intro hc <;> try (exfalso; omega) | with_reducible refine iJ fun hc => ?_ | refine vcq (k := ?_) | refine dr 11 (k := ?_) | refine dr 9 (k := ?_)))); all_goals ((try conv => whnf); try with_reducible exact trivial)
          refine callee_fo (Allowed20 q hq o ho) rfl ?_
          rintro _ rfl
          (repeat' ((conv => whnf); (first | (with_reducible first | apply spl | apply spl') <;> intro hc <;> try (exfalso; omega) | with_reducible refine iJ fun hc => ?_ | refine vcq (k := ?_) | refine dr 11 (k := ?_) | refine dr 9 (k := ?_)))); all_goals ((try conv => whnf); try with_reducible exact trivial); (repeat' ((first | (refine callee_fo (works10) rfl ?_; rintro _ rfl) | (refine pcall_intro (works10) rfl ?_) | (refine pcall_soft (fun _ => works10) rfl ?_)); (repeat' ((conv => whnf); (first | (with_reducible first | apply spl | apply spl') <;> intro hc <;> try (exfalso; omega) | with_reducible refine iJ fun hc => ?_ | refine vcq (k := ?_) | refine dr 11 (k := ?_) | refine dr 9 (k := ?_)))); all_goals ((try conv => whnf); try with_reducible exact trivial)))
          · exfalso
            rcases hc with (g | g) | g
            · exact g rfl
            · exact g rfl
            · exact g (range_all _ _ _)
          · refine ⟨_, rfl, ?_⟩
            (repeat' ((conv => whnf); (first | (with_reducible first | apply spl | apply spl') <;> intro hc <;> try (exfalso; omega) | with_reducible refine iJ fun hc => ?_ | refine vcq (k := ?_) | refine dr 11 (k := ?_) | refine dr 9 (k := ?_)))); all_goals ((try conv => whnf); try with_reducible exact trivial)
          · have hal : AllP q.rq.length q.pas.toNat q.od o := Classical.not_not.1 hc
            have hmem : o ∈ q.all q.pas := mem_allQ.2 ⟨ho, hal⟩
            refine callee_fo (Ends11 q hq o ho) rfl ?_
            rintro _ rfl
            (repeat' ((conv => whnf); (first | (with_reducible first | apply spl | apply spl') <;> intro hc <;> try (exfalso; omega) | with_reducible refine iJ fun hc => ?_ | refine vcq (k := ?_) | refine dr 11 (k := ?_) | refine dr 9 (k := ?_)))); all_goals ((try conv => whnf); try with_reducible exact trivial)
            · refine ⟨Nat, fun i => i ≤ o.length, fun i => o.length - i, fun i => [(13, .int .i64 (i : Nat)), (14, .any), (15, .any), (16, .any), (17, .any)], fun _ => [], fun _ => [], 0, ⟨by omega, none, ?_⟩, ?_⟩
              · (repeat' ((conv => whnf); (first | (with_reducible first | apply spl | apply spl') <;> intro hc <;> try (exfalso; omega) | with_reducible refine iJ fun hc => ?_ | refine vcq (k := ?_) | refine dr 11 (k := ?_) | refine dr 9 (k := ?_)))); all_goals ((try conv => whnf); try with_reducible exact trivial)
              · intro i hi
                have hi : i ≤ o.length := hi
                have hti : (i : Int).toNat = i := Int.toNat_natCast i
                (repeat' ((conv => whnf); (first | (with_reducible first | apply spl | apply spl') <;> intro hc <;> try (exfalso; omega) | with_reducible refine iJ fun hc => ?_ | refine vcq (k := ?_) | refine dr 11 (k := ?_) | refine dr 9 (k := ?_)))); all_goals ((try conv => whnf); try with_reducible exact trivial); (repeat' ((first | (refine callee_fo (works10) rfl ?_; rintro _ rfl) | (refine pcall_intro (works10) rfl ?_) | (refine pcall_soft (fun _ => works10) rfl ?_)); (repeat' ((conv => whnf); (first | (with_reducible first | apply spl | apply spl') <;> intro hc <;> try (exfalso; omega) | with_reducible refine iJ fun hc => ?_ | refine vcq (k := ?_) | refine dr 11 (k := ?_) | refine dr 9 (k := ?_)))); all_goals ((try conv => whnf); try with_reducible exact trivial)))
                · have hil : i < o.length := by omega
                  have hpi := pasT_all ho hal hil
                  refine ⟨Nat, fun k => k ≤ i, fun k => i - k, fun k => [(15, .int .i64 (k : Nat)), (14, .int .i64 (pasT o i k : Nat))], fun _ => [], fun _ => [], 0, ⟨by omega, none, ?_⟩, ?_⟩
                  · (repeat' ((conv => whnf); (first | (with_reducible first | apply spl | apply spl') <;> intro hc <;> try (exfalso; omega) | with_reducible refine iJ fun hc => ?_ | refine vcq (k := ?_) | refine dr 11 (k := ?_) | refine dr 9 (k := ?_)))); all_goals ((try conv => whnf); try with_reducible exact trivial)
                  · intro k hk
                    have hk : k ≤ i := hk
                    have htk : (k : Int).toNat = k := Int.toNat_natCast k
                    have hpk := pasT_le o i k
                    have hps := pasT_succ (o := o) (i := i) (k := k)
                    (repeat' ((conv => whnf); (first | (with_reducible first | apply spl | apply spl') <;> intro hc <;> try (exfalso; omega) | with_reducible refine iJ fun hc => ?_ | refine vcq (k := ?_) | refine dr 9 (k := ?_) | refine dr 11 (k := ?_)))); all_goals ((try conv => whnf); try with_reducible exact trivial)
                    · rw [htk, hti] at hc
                      have hkl : k < o.length := by omega
                      have hps := hps hkl
                      rw [if_pos (by omega)] at hps
                      refine ⟨k + 1, ⟨by omega, by dsimp only; omega⟩, none, ?_⟩
                      (repeat' ((conv => whnf); (first | (with_reducible first | apply spl | apply spl') <;> intro hc <;> try (exfalso; omega) | with_reducible refine iJ fun hc => ?_ | refine vcq (k := ?_) | refine dr 11 (k := ?_) | refine dr 9 (k := ?_)))); all_goals ((try conv => whnf); try with_reducible exact trivial)
                    · rw [htk, hti] at hc
                      have hkl : k < o.length := by omega
                      have hps := hps hkl
                      rw [if_neg (by omega)] at hps
                      refine ⟨k + 1, ⟨by omega, by dsimp only; omega⟩, none, ?_⟩
                      (repeat' ((conv => whnf); (first | (with_reducible first | apply spl | apply spl') <;> intro hc <;> try (exfalso; omega) | with_reducible refine iJ fun hc => ?_ | refine vcq (k := ?_) | refine dr 11 (k := ?_) | refine dr 9 (k := ?_)))); all_goals ((try conv => whnf); try with_reducible exact trivial)
                    · obtain rfl : k = i := by omega
                      have hr := hlt k hil
                      have hbd := end_le_bound hmem (o.getD k 0)
                      clear hps
                      rw [hti]
                      refine pcall_intro (Bound21 q hq (o.getD k 0) hr) rfl ?_
                      (repeat' ((conv => whnf); (first | (with_reducible first | apply spl | apply spl') <;> intro hc <;> try (exfalso; omega) | with_reducible refine iJ fun hc => ?_ | refine vcq (k := ?_) | refine dr 9 (k := ?_) | refine dr 11 (k := ?_)))); all_goals ((try conv => whnf); try with_reducible exact trivial)
                      rw [hti]
                      (repeat' ((conv => whnf); (first | (with_reducible first | apply spl | apply spl') <;> intro hc <;> try (exfalso; omega) | with_reducible refine iJ fun hc => ?_ | refine vcq (k := ?_) | refine dr 9 (k := ?_) | refine dr 11 (k := ?_)))); all_goals ((try conv => whnf); try with_reducible exact trivial)
                      · exfalso
                        rw [Int.toNat_natCast] at hc
                        omega
                      · refine ⟨k + 1, ⟨by omega, by dsimp only; omega⟩, none, ?_⟩
                        (repeat' ((conv => whnf); (first | (with_reducible first | apply spl | apply spl') <;> intro hc <;> try (exfalso; omega) | with_reducible refine iJ fun hc => ?_ | refine vcq (k := ?_) | refine dr 11 (k := ?_) | refine dr 9 (k := ?_)))); all_goals ((try conv => whnf); try with_reducible exact trivial)
                · refine ⟨_, rfl, ?_⟩
                  (repeat' ((conv => whnf); (first | (with_reducible first | apply spl | apply spl') <;> intro hc <;> try (exfalso; omega) | with_reducible refine iJ fun hc => ?_ | refine vcq (k := ?_) | refine dr 11 (k := ?_) | refine dr 9 (k := ?_)))); all_goals ((try conv => whnf); try with_reducible exact trivial)
  · refine ⟨_, rfl, ?_⟩
    (repeat' ((conv => whnf); (first | (with_reducible first | apply spl | apply spl') <;> intro hc <;> try (exfalso; omega) | with_reducible refine iJ fun hc => ?_ | refine vcq (k := ?_) | refine dr 11 (k := ?_) | refine dr 9 (k := ?_)))); all_goals ((try conv => whnf); try with_reducible exact trivial)
end Go.Proofs
