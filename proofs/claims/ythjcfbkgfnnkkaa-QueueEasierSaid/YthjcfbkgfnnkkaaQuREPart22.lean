/- Own work: texts of the proof of a law (QuE4). No condition. -/
import Derived.Test.YthjcfbkgfnnkkaaQuREPart21
namespace Go.Proofs
open Go Go.Sx
set_option maxRecDepth 100000
set_option maxHeartbeats 40000000
def Qu.co (q : Qu) (k : Nat) : List V := [.int .i64 q.d.H, .int .i64 q.d.T, .sl 2 q.d.Z.length (rowOf zC (0, 0) q.d.Z), .int .i64 q.d.hk, .int .i64 q.d.ck, .int .i64 q.d.hs.1, .int .i64 q.d.hs.2, .int .i64 q.d.cs.1, .int .i64 q.d.cs.2, .int .i64 q.cyl, .int .i64 q.pas, .osl k q.sk.length, .osl (k + 1) q.rq.length]
theorem Copy17n (q : Qu) (hz : q.d.Z.length ≤ 1000000) (hsk : q.sk.length ≤ 1000000) (hrq : q.rq.length ≤ 1000000) : NewC Try.prog 17 [.agg q.c] (fun r H => r = .agg (q.co 0) ∧ H = [.row 24 2 q.sk.length (rowOf zC (0, 0) q.sk) false, .row 41 5 q.rq.length (rowOf rqC Rq.none q.rq) false]) := by
  refine newC_ent Try.E_ok Try.func17 rfl (by kernel_rfl) ?_
  (repeat' ((conv => whnf); (first | (with_reducible first | apply spl | apply spl') <;> intro hc <;> try (exfalso; omega) | with_reducible refine iJ fun hc => ?_ | refine vcq (k := ?_) | refine dr 24 (k := ?_) | refine dr 13 (k := ?_)))); all_goals ((try conv => whnf); try with_reducible exact trivial)
  refine callee_fo (Copy42 q.d hz) rfl ?_
  rintro _ rfl
  (repeat' ((conv => whnf); (first | (with_reducible first | apply spl | apply spl') <;> intro hc <;> try (exfalso; omega) | with_reducible refine iJ fun hc => ?_ | refine vcq (k := ?_) | refine dr 24 (k := ?_) | refine dr 13 (k := ?_)))); all_goals ((try conv => whnf); try with_reducible exact trivial)
  refine ⟨_, _, ⟨rfl, rfl⟩, some [some 4, some 6], ?_⟩
  (repeat' ((conv => whnf); (first | (with_reducible first | apply spl | apply spl') <;> intro hc <;> try (exfalso; omega) | with_reducible refine iJ fun hc => ?_ | refine vcq (k := ?_) | refine dr 24 (k := ?_) | refine dr 13 (k := ?_)))); all_goals ((try conv => whnf); try with_reducible exact trivial)
theorem Easier4 (q : Qu) (hz : q.d.Z.length ≤ 9223372036854775807) (hsk : q.sk.length ≤ 9223372036854775807) (hrq : q.rq.length ≤ 9223372036854775807) (l : List Int) (hl : l.length ≤ 9223372036854775807) (a b p : Int) :
    PureC Try.prog 4 false [.agg q.c, .sl 1 l.length (rowOf intC 0 l), .agg [.int .i64 a, .int .i64 b, .int .i64 p]] (· = .prop True inferInstance) := by
  refine pureC_of_exec Try.E_ok Try.func4 rfl (by kernel_rfl) ?_
  (repeat' ((conv => whnf); (first | (with_reducible first | apply spl | apply spl') <;> intro hc <;> try (exfalso; omega) | with_reducible refine iJ fun hc => ?_ | refine vcq (k := ?_) | refine dr 24 (k := ?_) | refine dr 13 (k := ?_)))); all_goals ((try conv => whnf); try with_reducible exact trivial); (repeat' ((first | (refine callee_fo (ready8 q hz hsk hrq) rfl ?_; rintro _ rfl) | (refine pcall_intro (ready8 q hz hsk hrq) rfl ?_) | (refine pcall_soft (fun _ => ready8 q hz hsk hrq) rfl ?_) | (refine callee_fo (works10) rfl ?_; rintro _ rfl) | (refine pcall_intro (works10) rfl ?_) | (refine pcall_soft (fun _ => works10) rfl ?_)); (repeat' ((conv => whnf); (first | (with_reducible first | apply spl | apply spl') <;> intro hc <;> try (exfalso; omega) | with_reducible refine iJ fun hc => ?_ | refine vcq (k := ?_) | refine dr 24 (k := ?_) | refine dr 13 (k := ?_)))); all_goals ((try conv => whnf); try with_reducible exact trivial)))
  · obtain ⟨hs, hsk1⟩ := Qu.ready (q := q) (Classical.not_not.1 fun g => hc (.inl g))
    have hq := hs.ok
    have hrn := hs.rql
    have hzn := hq.d.z
    have hl20 : l.length ≤ 20 := by omega
    clear hc
    refine callee_fo (IsOrder9 q (by omega) l (by omega)) rfl ?_
    rintro _ rfl
    (repeat' ((conv => whnf); (first | (with_reducible first | apply spl | apply spl') <;> intro hc <;> try (exfalso; omega) | with_reducible refine iJ fun hc => ?_ | refine vcq (k := ?_) | refine dr 24 (k := ?_) | refine dr 13 (k := ?_)))); all_goals ((try conv => whnf); try with_reducible exact trivial); (repeat' ((first | (refine callee_fo (works10) rfl ?_; rintro _ rfl) | (refine pcall_intro (works10) rfl ?_) | (refine pcall_soft (fun _ => works10) rfl ?_)); (repeat' ((conv => whnf); (first | (with_reducible first | apply spl | apply spl') <;> intro hc <;> try (exfalso; omega) | with_reducible refine iJ fun hc => ?_ | refine vcq (k := ?_) | refine dr 24 (k := ?_) | refine dr 13 (k := ?_)))); all_goals ((try conv => whnf); try with_reducible exact trivial)))
    · refine ⟨_, rfl, ?_⟩
      (repeat' ((conv => whnf); (first | (with_reducible first | apply spl | apply spl') <;> intro hc <;> try (exfalso; omega) | with_reducible refine iJ fun hc => ?_ | refine vcq (k := ?_) | refine dr 24 (k := ?_) | refine dr 13 (k := ?_)))); all_goals ((try conv => whnf); try with_reducible exact trivial)
    · have hoI : IsOrdI q.rq.length l := Classical.not_not.1 fun g => hc (.inl (.inl (.inl (.inl (.inl (.inl g))))))
      have ha : 0 ≤ a ∧ a ≤ 5000 := by omega
      have hb : 0 ≤ b ∧ b ≤ 5000 := by omega
      have hp : 0 ≤ p ∧ p ≤ 6 := by omega
      clear hc
      have hll : l.length = (l.map Int.toNat).length := by simp
      have ho := hoI.ord
      rw [hoI.row, hll]
      generalize l.map Int.toNat = o at *
      have holen := ho.len
      refine callee_new (Copy17n q (by omega) (by omega) (by omega)) rfl ?_
      rintro _ _ ⟨rfl, rfl⟩
      (repeat' ((conv => whnf); (first | (with_reducible first | apply spl | apply spl') <;> intro hc <;> try (exfalso; omega) | with_reducible refine iJ fun hc => ?_ | refine vcq (k := ?_) | refine dr 24 (k := ?_) | refine dr 13 (k := ?_)))); all_goals ((try conv => whnf); try with_reducible exact trivial)
      refine ⟨Nat, fun i => i ≤ q.sk.length, fun i => q.sk.length - i, fun i => [(8, .int .i64 (i : Nat))], fun i => [(2, .row 24 2 q.sk.length (rowOf zC (0, 0) (q.ezL a b i)) false)], fun _ => [], 0, ⟨by omega, some [some 0, some 1, some 2, some 3, some 4], ?_⟩, ?_⟩
      · (repeat' ((conv => whnf); (first | (with_reducible first | apply spl | apply spl') <;> intro hc <;> try (exfalso; omega) | with_reducible refine iJ fun hc => ?_ | refine vcq (k := ?_) | refine dr 24 (k := ?_) | refine dr 13 (k := ?_)))); all_goals ((try conv => whnf); try with_reducible exact trivial)
      · intro i hi
        have hi : i ≤ q.sk.length := hi
        have hti : (i : Int).toNat = i := Int.toNat_natCast i
        have hlz := q.ezL_len a b i hi
        (repeat' ((conv => whnf); (first | (with_reducible first | apply spl | apply spl') <;> intro hc <;> try (exfalso; omega) | with_reducible refine iJ fun hc => ?_ | refine vcq (k := ?_) | refine dr 13 (k := ?_) | refine dr 24 (k := ?_)))); all_goals ((try conv => whnf); try with_reducible exact trivial)
        · have hil : i < q.sk.length := by omega
          have hsk := Qu.sk_at hq hil
          rw [hti, q.ezL_get a b i i hi, if_neg (Nat.lt_irrefl i)]
          (repeat' ((conv => whnf); (first | (with_reducible first | apply spl | apply spl') <;> intro hc <;> try (exfalso; omega) | with_reducible refine iJ fun hc => ?_ | refine vcq (k := ?_) | refine dr 13 (k := ?_) | refine dr 24 (k := ?_)))); all_goals ((try conv => whnf); try with_reducible exact trivial); (repeat' ((first | (refine callee_fo (span16 _ _) rfl ?_; rintro _ rfl) | (refine pcall_intro (span16 _ _) rfl ?_) | (refine pcall_soft (fun _ => span16 _ _) rfl ?_)); (repeat' ((conv => whnf); (first | (with_reducible first | apply spl | apply spl') <;> intro hc <;> try (exfalso; omega) | with_reducible refine iJ fun hc => ?_ | refine vcq (k := ?_) | refine dr 13 (k := ?_) | refine dr 24 (k := ?_)))); all_goals ((try conv => whnf); try with_reducible exact trivial)))
          refine ⟨i + 1, ⟨by omega, by dsimp only; omega⟩, some [some 0, some 1, some 2, some 3, some 4], ?_⟩
          (repeat' ((conv => whnf); (first | (with_reducible first | apply spl | apply spl') <;> intro hc <;> try (exfalso; omega) | with_reducible refine iJ fun hc => ?_ | refine vcq (k := ?_) | refine dr 24 (k := ?_) | refine dr 13 (k := ?_)))); all_goals ((try conv => whnf); try with_reducible exact trivial)
          refine ⟨fun j _ => ?_, ?_⟩
          · show _ = zC ((q.ezL a b (i + 1)).getD j (0, 0))
            rw [q.ezL_get a b (i + 1) j (by omega), hti]
            dsimp only
            by_cases h : j = i
            · subst h
              rw [spliceP_pos rfl, if_pos (Nat.lt_succ_self j)]
              rfl
            · rw [spliceP_neg h]
              show zC ((q.ezL a b i).getD j (0, 0)) = _
              rw [q.ezL_get a b i j hi]
              by_cases h2 : j < i
              · rw [if_pos h2, if_pos (by omega)]
              · rw [if_neg h2, if_neg (by omega)]
          · (repeat' ((conv => whnf); (first | (with_reducible first | apply spl | apply spl') <;> intro hc <;> try (exfalso; omega) | with_reducible refine iJ fun hc => ?_ | refine vcq (k := ?_) | refine dr 24 (k := ?_) | refine dr 13 (k := ?_)))); all_goals ((try conv => whnf); try with_reducible exact trivial)
        · obtain rfl : i = q.sk.length := by omega
          rw [q.ezL_all]
          clear hlz
          have hez := hq.ez ha.1 hb.1
          have hel : q.sk.length = (q.ez a b).sk.length := by simp [Qu.ez]
          have heE := fun r => q.ez_end hq ha.1 hb.1 o r
          refine callee_fo (Ends11 q hq o ho) rfl ?_
          rintro _ rfl
          (repeat' ((conv => whnf); (first | (with_reducible first | apply spl | apply spl') <;> intro hc <;> try (exfalso; omega) | with_reducible refine iJ fun hc => ?_ | refine vcq (k := ?_) | refine dr 24 (k := ?_) | refine dr 13 (k := ?_)))); all_goals ((try conv => whnf); try with_reducible exact trivial)
          refine callee_view (Ends11 (q.ez a b) hez o ho) ?_
          (repeat' ((conv => whnf); (first | (with_reducible first | apply spl | apply spl') <;> intro hc <;> try (exfalso; omega) | with_reducible refine iJ fun hc => ?_ | refine vcq (k := ?_) | refine dr 24 (k := ?_) | refine dr 13 (k := ?_)))); all_goals ((try conv => whnf); try with_reducible exact trivial)
          rintro _ rfl
          have hrl2 : (q.ez a b).rq.length = q.rq.length := rfl
          have hbw := q.best_wp (min 6 (q.pas + p))
          have hmono := Qu.best_mono (q := q) (show q.pas ≤ min 6 (q.pas + p) by have := hq.pas; omega)
          have hO := Order18 q hq
          have hO2 := Order18 (q.wp (min 6 (q.pas + p))) (hq.wp (by have := hq.pas; omega))
          rw [show (q.wp (min 6 (q.pas + p))).pas = min 6 (q.pas + p) from rfl, hbw] at hO2
          have hb1 := best_any (q := q) q.pas
          have hps := hq.pas
          unfold Qu.leB at hmono
          generalize q.best (min 6 (q.pas + p)) = B2 at *
          generalize q.best q.pas = B1 at *
          obtain ⟨o1, l1, n1⟩ := B1
          obtain ⟨o2, l2, n2⟩ := B2
          dsimp only at hmono hO hO2
          clear hbw
          (repeat' ((conv => whnf); (first | (with_reducible first | apply spl | apply spl') <;> intro hc <;> try (exfalso; omega) | with_reducible refine iJ fun hc => ?_ | refine vcq (k := ?_) | refine dr 24 (k := ?_) | refine dr 13 (k := ?_)))); all_goals ((try conv => whnf); try with_reducible exact trivial)
          refine ⟨Nat, fun i => i ≤ q.rq.length, fun i => q.rq.length - i, fun i => [(15, .int .i64 (i : Nat))], fun _ => [], fun _ => [], 0, ⟨by omega, none, ?_⟩, ?_⟩
          · (repeat' ((conv => whnf); (first | (with_reducible first | apply spl | apply spl') <;> intro hc <;> try (exfalso; omega) | with_reducible refine iJ fun hc => ?_ | refine vcq (k := ?_) | refine dr 24 (k := ?_) | refine dr 13 (k := ?_)))); all_goals ((try conv => whnf); try with_reducible exact trivial)
          · intro i hi
            have hi : i ≤ q.rq.length := hi
            have hti : (i : Int).toNat = i := Int.toNat_natCast i
            (repeat' ((conv => whnf); (first | (with_reducible first | apply spl | apply spl') <;> intro hc <;> try (exfalso; omega) | with_reducible refine iJ fun hc => ?_ | refine vcq (k := ?_) | refine dr 13 (k := ?_) | refine dr 24 (k := ?_)))); all_goals ((try conv => whnf); try with_reducible exact trivial)
            · exfalso
              rw [hti] at hc
              have := heE i
              omega
            · refine ⟨i + 1, ⟨by omega, by dsimp only; omega⟩, none, ?_⟩
              (repeat' ((conv => whnf); (first | (with_reducible first | apply spl | apply spl') <;> intro hc <;> try (exfalso; omega) | with_reducible refine iJ fun hc => ?_ | refine vcq (k := ?_) | refine dr 24 (k := ?_) | refine dr 13 (k := ?_)))); all_goals ((try conv => whnf); try with_reducible exact trivial)
            · refine callee_fo hO rfl ?_
              rintro _ rfl
              (repeat' ((conv => whnf); (first | (with_reducible first | apply spl | apply spl') <;> intro hc <;> try (exfalso; omega) | with_reducible refine iJ fun hc => ?_ | refine vcq (k := ?_) | refine dr 24 (k := ?_) | refine dr 13 (k := ?_)))); all_goals ((try conv => whnf); try with_reducible exact trivial)
              refine callee_fo (With19 q (min 6 (q.pas + p))) rfl ?_
              rintro _ rfl
              (repeat' ((conv => whnf); (first | (with_reducible first | apply spl | apply spl') <;> intro hc <;> try (exfalso; omega) | with_reducible refine iJ fun hc => ?_ | refine vcq (k := ?_) | refine dr 24 (k := ?_) | refine dr 13 (k := ?_)))); all_goals ((try conv => whnf); try with_reducible exact trivial)
              refine callee_fo hO2 rfl ?_
              rintro _ rfl
              (repeat' ((conv => whnf); (first | (with_reducible first | apply spl | apply spl') <;> intro hc <;> try (exfalso; omega) | with_reducible refine iJ fun hc => ?_ | refine vcq (k := ?_) | refine dr 24 (k := ?_) | refine dr 13 (k := ?_)))); all_goals ((try conv => whnf); try with_reducible exact trivial); (repeat' ((first | (refine callee_fo (works10) rfl ?_; rintro _ rfl) | (refine pcall_intro (works10) rfl ?_) | (refine pcall_soft (fun _ => works10) rfl ?_)); (repeat' ((conv => whnf); (first | (with_reducible first | apply spl | apply spl') <;> intro hc <;> try (exfalso; omega) | with_reducible refine iJ fun hc => ?_ | refine vcq (k := ?_) | refine dr 24 (k := ?_) | refine dr 13 (k := ?_)))); all_goals ((try conv => whnf); try with_reducible exact trivial)))
              refine ⟨_, rfl, ?_⟩
              (repeat' ((conv => whnf); (first | (with_reducible first | apply spl | apply spl') <;> intro hc <;> try (exfalso; omega) | with_reducible refine iJ fun hc => ?_ | refine vcq (k := ?_) | refine dr 24 (k := ?_) | refine dr 13 (k := ?_)))); all_goals ((try conv => whnf); try with_reducible exact trivial)
  · refine ⟨_, rfl, ?_⟩
    (repeat' ((conv => whnf); (first | (with_reducible first | apply spl | apply spl') <;> intro hc <;> try (exfalso; omega) | with_reducible refine iJ fun hc => ?_ | refine vcq (k := ?_) | refine dr 24 (k := ?_) | refine dr 13 (k := ?_)))); all_goals ((try conv => whnf); try with_reducible exact trivial)
end Go.Proofs
