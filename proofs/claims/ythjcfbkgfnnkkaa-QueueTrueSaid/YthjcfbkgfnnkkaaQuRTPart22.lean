/- Own work: texts of the proof of a law (QuE3). No condition. -/
import Derived.Test.YthjcfbkgfnnkkaaQuRTPart21
namespace Go.Proofs
open Go Go.Sx
set_option maxRecDepth 100000
set_option maxHeartbeats 40000000
theorem True3 (q : Qu) (hz : q.d.Z.length ≤ 9223372036854775807) (hsk : q.sk.length ≤ 9223372036854775807) (hrq : q.rq.length ≤ 9223372036854775807) (l : List Int) (hl : l.length ≤ 9223372036854775807) (sl : List Int) (hsl : sl.length ≤ 9223372036854775807) (rl : List Int) (hrl : rl.length ≤ 9223372036854775807) :
    PureC Try.prog 3 false [.agg q.c, .agg [.sl 1 l.length (rowOf intC 0 l), .sl 1 sl.length (rowOf intC 0 sl), .sl 1 rl.length (rowOf intC 0 rl)]] (· = .prop True inferInstance) := by
  refine pureC_of_exec Try.E_ok Try.func3 rfl (by kernel_rfl) ?_
  (repeat' ((conv => whnf); (first | (with_reducible first | apply spl | apply spl') <;> intro hc <;> try (exfalso; omega) | with_reducible refine iJ fun hc => ?_ | refine vcq (k := ?_) | refine dr 18 (k := ?_) | refine dr 41 (k := ?_) | refine dr 12 (k := ?_) | refine dr 8 (k := ?_) | refine dr 10 (k := ?_)))); all_goals ((try conv => whnf); try with_reducible exact trivial); (repeat' ((first | (refine callee_fo (ready8 q hz hsk hrq) rfl ?_; rintro _ rfl) | (refine pcall_intro (ready8 q hz hsk hrq) rfl ?_) | (refine pcall_soft (fun _ => ready8 q hz hsk hrq) rfl ?_) | (refine callee_fo (works10) rfl ?_; rintro _ rfl) | (refine pcall_intro (works10) rfl ?_) | (refine pcall_soft (fun _ => works10) rfl ?_)); (repeat' ((conv => whnf); (first | (with_reducible first | apply spl | apply spl') <;> intro hc <;> try (exfalso; omega) | with_reducible refine iJ fun hc => ?_ | refine vcq (k := ?_) | refine dr 18 (k := ?_) | refine dr 41 (k := ?_) | refine dr 12 (k := ?_) | refine dr 8 (k := ?_) | refine dr 10 (k := ?_)))); all_goals ((try conv => whnf); try with_reducible exact trivial)))
  · obtain ⟨hs, _⟩ := Qu.ready (q := q) (Classical.not_not.1 fun g => hc (.inl g))
    have hq := hs.ok
    have hqd := hq.d
    have hrn := hs.rql
    have hcyl := hq.cyl
    have hl20 : l.length ≤ 20 := by omega
    clear hc
    refine callee_fo (IsOrder9 q (by omega) l (by omega)) rfl ?_
    rintro _ rfl
    (repeat' ((conv => whnf); (first | (with_reducible first | apply spl | apply spl') <;> intro hc <;> try (exfalso; omega) | with_reducible refine iJ fun hc => ?_ | refine vcq (k := ?_) | refine dr 18 (k := ?_) | refine dr 41 (k := ?_) | refine dr 12 (k := ?_) | refine dr 8 (k := ?_) | refine dr 10 (k := ?_)))); all_goals ((try conv => whnf); try with_reducible exact trivial); (repeat' ((first | (refine callee_fo (works10) rfl ?_; rintro _ rfl) | (refine pcall_intro (works10) rfl ?_) | (refine pcall_soft (fun _ => works10) rfl ?_)); (repeat' ((conv => whnf); (first | (with_reducible first | apply spl | apply spl') <;> intro hc <;> try (exfalso; omega) | with_reducible refine iJ fun hc => ?_ | refine vcq (k := ?_) | refine dr 18 (k := ?_) | refine dr 41 (k := ?_) | refine dr 12 (k := ?_) | refine dr 8 (k := ?_) | refine dr 10 (k := ?_)))); all_goals ((try conv => whnf); try with_reducible exact trivial)))
    · refine ⟨_, rfl, ?_⟩
      (repeat' ((conv => whnf); (first | (with_reducible first | apply spl | apply spl') <;> intro hc <;> try (exfalso; omega) | with_reducible refine iJ fun hc => ?_ | refine vcq (k := ?_) | refine dr 18 (k := ?_) | refine dr 41 (k := ?_) | refine dr 12 (k := ?_) | refine dr 8 (k := ?_) | refine dr 10 (k := ?_)))); all_goals ((try conv => whnf); try with_reducible exact trivial)
    · have hoI : IsOrdI q.rq.length l := Classical.not_not.1 (by assumption)
      have hll : l.length = (l.map Int.toNat).length := by simp
      have ho := hoI.ord
      rw [hoI.row, hll]
      generalize l.map Int.toNat = o at *
      have hlt : ∀ k, k < o.length → o.getD k 0 < q.rq.length := fun k hk => by rw [getD_get hk]; exact ho.lt _ (List.getElem_mem hk)
      have holen := ho.len
      refine callee_fo (Ends11 q hq o ho) rfl ?_
      rintro _ rfl
      (repeat' ((conv => whnf); (first | (with_reducible first | apply spl | apply spl') <;> intro hc <;> try (exfalso; omega) | with_reducible refine iJ fun hc => ?_ | refine vcq (k := ?_) | refine dr 18 (k := ?_) | refine dr 41 (k := ?_) | refine dr 12 (k := ?_) | refine dr 8 (k := ?_) | refine dr 10 (k := ?_)))); all_goals ((try conv => whnf); try with_reducible exact trivial)
      have hfa := fun i h => place_facts hq ho.lt (by omega) (i := i) h
      have hcn := q.d.cnt_le hqd
      refine ⟨Nat × Int × Prop, fun p => p.1 ≤ o.length ∧ (0 ≤ p.2.1 ∧ p.2.1 ≤ 180000000) ∧ (p.2.2 → (sl.length = o.length ∧ rl.length = o.length) ∧ (q.stQ false o p.1).2 ≤ p.2.1 ∧ p.2.1 ≤ (q.stQ true o p.1).2), fun p => o.length - p.1, fun p => [(12, .int .i64 (p.1 : Nat)), (11, .int .i64 (q.stQ true o p.1).1), (9, .int .i64 (q.stQ false o p.1).2), (10, .int .i64 (q.stQ true o p.1).2), (8, .int .i64 p.2.1), (7, .prop p.2.2 (Classical.propDecidable _))], fun _ => [], fun _ => [], (0, 0, (sl.length : Int) = o.length ∧ (rl.length : Int) = o.length), ⟨⟨by dsimp only; omega, by dsimp only; omega, fun g => ⟨by dsimp only at g; omega, Int.le_refl _, Int.le_refl _⟩⟩, none, ?_⟩, ?_⟩
      · (repeat' ((conv => whnf); (first | (with_reducible first | apply spl | apply spl') <;> intro hc <;> try (exfalso; omega) | with_reducible refine iJ fun hc => ?_ | refine vcq (k := ?_) | refine dr 18 (k := ?_) | refine dr 41 (k := ?_) | refine dr 12 (k := ?_) | refine dr 8 (k := ?_) | refine dr 10 (k := ?_)))); all_goals ((try conv => whnf); try with_reducible exact trivial)
        refine ⟨show q.cyl = ((q.cyl.toNat : Nat) : Int) by omega, ?_⟩
        (repeat' ((conv => whnf); (first | (with_reducible first | apply spl | apply spl') <;> intro hc <;> try (exfalso; omega) | with_reducible refine iJ fun hc => ?_ | refine vcq (k := ?_) | refine dr 18 (k := ?_) | refine dr 41 (k := ?_) | refine dr 12 (k := ?_) | refine dr 8 (k := ?_) | refine dr 10 (k := ?_)))); all_goals ((try conv => whnf); try with_reducible exact trivial)
      · rintro ⟨i, now, P⟩ ⟨hi, hnow, hP⟩
        dsimp only at hi hnow hP ⊢
        have hti : (i : Int).toNat = i := Int.toNat_natCast i
        (repeat' ((conv => whnf); (first | (with_reducible first | apply spl | apply spl') <;> intro hc <;> try (exfalso; omega) | with_reducible refine iJ fun hc => ?_ | refine vcq (k := ?_) | refine dr 10 (k := ?_) | refine dr 8 (k := ?_) | refine dr 12 (k := ?_) | refine dr 41 (k := ?_)))); all_goals ((try conv => whnf); try with_reducible exact trivial)
        · have hil : i < o.length := by omega
          obtain ⟨f1, f2, f3, f4, f5, f6, f7⟩ := hfa i hil
          have e1 : (q.stQ false o (i + 1)).2 = q.srv (o.getD i 0) (q.stQ false o i).2 (q.sek (q.stQ true o i).1 (q.cy (q.rq.getD (o.getD i 0) Rq.none).fr)).1 (q.rn false (o.getD i 0)) := by rw [q.stQ_cyl]; rfl
          have e2 : q.stQ true o (i + 1) = (q.cy ((q.rq.getD (o.getD i 0) Rq.none).fr + (q.rq.getD (o.getD i 0) Rq.none).ct - 1), q.srv (o.getD i 0) (q.stQ true o i).2 (q.sek (q.stQ true o i).1 (q.cy (q.rq.getD (o.getD i 0) Rq.none).fr)).2 (q.rn true (o.getD i 0))) := rfl
          have hk := q.sek_bnd hq (q.stQ true o i).1 (q.cy (q.rq.getD (o.getD i 0) Rq.none).fr)
          have htr : ((o.getD i 0 : Nat) : Int).toNat = o.getD i 0 := Int.toNat_natCast _
          rw [hti]
          (repeat' ((conv => whnf); (first | (with_reducible first | apply spl | apply spl') <;> intro hc <;> try (exfalso; omega) | with_reducible refine iJ fun hc => ?_ | refine vcq (k := ?_) | refine dr 10 (k := ?_) | refine dr 8 (k := ?_) | refine dr 12 (k := ?_) | refine dr 41 (k := ?_)))); all_goals ((try conv => whnf); try with_reducible exact trivial)
          rw [htr]
          (repeat' ((conv => whnf); (first | (with_reducible first | apply spl | apply spl') <;> intro hc <;> try (exfalso; omega) | with_reducible refine iJ fun hc => ?_ | refine vcq (k := ?_) | refine dr 10 (k := ?_) | refine dr 8 (k := ?_) | refine dr 12 (k := ?_) | refine dr 41 (k := ?_)))); all_goals ((try conv => whnf); try with_reducible exact trivial); (repeat' ((first | (refine callee_fo (Cyl13 q hq _ (by omega) (by omega)) rfl ?_; rintro _ rfl) | (refine pcall_intro (Cyl13 q hq _ (by omega) (by omega)) rfl ?_) | (refine pcall_soft (fun _ => Cyl13 q hq _ (by omega) (by omega)) rfl ?_) | (refine callee_fo (SeekOf12 q hq _ _ f5 f4) rfl ?_; rintro _ rfl) | (refine pcall_intro (SeekOf12 q hq _ _ f5 f4) rfl ?_) | (refine pcall_soft (fun _ => SeekOf12 q hq _ _ f5 f4) rfl ?_) | (refine callee_fo (Run14q q hq _ f1) rfl ?_; rintro _ rfl) | (refine pcall_intro (Run14q q hq _ f1) rfl ?_) | (refine pcall_soft (fun _ => Run14q q hq _ f1) rfl ?_)); (repeat' ((conv => whnf); (first | (with_reducible first | apply spl | apply spl') <;> intro hc <;> try (exfalso; omega) | with_reducible refine iJ fun hc => ?_ | refine vcq (k := ?_) | refine dr 10 (k := ?_) | refine dr 8 (k := ?_) | refine dr 12 (k := ?_) | refine dr 41 (k := ?_)))); all_goals ((try conv => whnf); try with_reducible exact trivial)))
          rw [hti]
          have hhi := f6 true
          have hlo := f6 false
          have hrt := f7 true
          have hrf := f7 false
          refine pcall_intro (Serve15 q hq _ f1 _ _ _ (by omega) (by omega) (by omega)) rfl ?_
          (repeat' ((conv => whnf); (first | (with_reducible first | apply spl | apply spl') <;> intro hc <;> try (exfalso; omega) | with_reducible refine iJ fun hc => ?_ | refine vcq (k := ?_) | refine dr 10 (k := ?_) | refine dr 8 (k := ?_) | refine dr 12 (k := ?_) | refine dr 41 (k := ?_)))); all_goals ((try conv => whnf); try with_reducible exact trivial)
          rw [hti]
          refine pcall_intro (Serve15 q hq _ f1 _ _ _ (by omega) (by omega) (by omega)) rfl ?_
          have hE1 := Qu.endOf_at (q := q) false ho hil
          have hE2 := Qu.endOf_at (q := q) true ho hil
          rw [e1] at hE1
          rw [e2] at hE2
          (repeat' ((conv => whnf); (first | (with_reducible first | apply spl | apply spl') <;> intro hc <;> try (exfalso; omega) | with_reducible refine iJ fun hc => ?_ | refine vcq (k := ?_) | refine dr 10 (k := ?_) | refine dr 8 (k := ?_) | refine dr 12 (k := ?_) | refine dr 41 (k := ?_)))); all_goals ((try conv => whnf); try with_reducible exact trivial)
          rw [hti]
          (repeat' ((conv => whnf); (first | (with_reducible first | apply spl | apply spl') <;> intro hc <;> try (exfalso; omega) | with_reducible refine iJ fun hc => ?_ | refine vcq (k := ?_) | refine dr 10 (k := ?_) | refine dr 8 (k := ?_) | refine dr 12 (k := ?_) | refine dr 41 (k := ?_)))); all_goals ((try conv => whnf); try with_reducible exact trivial); (repeat' ((first | (refine callee_fo (span16 _ _) rfl ?_; rintro _ rfl) | (refine pcall_intro (span16 _ _) rfl ?_) | (refine pcall_soft (fun _ => span16 _ _) rfl ?_)); (repeat' ((conv => whnf); (first | (with_reducible first | apply spl | apply spl') <;> intro hc <;> try (exfalso; omega) | with_reducible refine iJ fun hc => ?_ | refine vcq (k := ?_) | refine dr 10 (k := ?_) | refine dr 8 (k := ?_) | refine dr 12 (k := ?_) | refine dr 41 (k := ?_)))); all_goals ((try conv => whnf); try with_reducible exact trivial)))
          · exfalso
            rw [Int.toNat_natCast] at hc
            exact hc ⟨hE1, hE2⟩
          · have hP1 : P → 0 ≤ (i : Int) ∧ (i : Int) < sl.length := fun g => by have := hP g; omega
            have hP2 : P → 0 ≤ (i : Int) ∧ (i : Int) < rl.length := fun g => by have := hP g; omega
            clear hfa
            refine ⟨hP1, ?_⟩
            (repeat' ((conv => whnf); (first | (with_reducible first | apply spl | apply spl') <;> intro hc <;> try (exfalso; omega) | with_reducible refine iJ fun hc => ?_ | refine vcq (k := ?_) | refine dr 10 (k := ?_) | refine dr 8 (k := ?_) | refine dr 12 (k := ?_) | refine dr 41 (k := ?_)))); all_goals ((try conv => whnf); try with_reducible exact trivial)
            refine ⟨fun g => hP1 g.1, ?_⟩
            (repeat' ((conv => whnf); (first | (with_reducible first | apply spl | apply spl') <;> intro hc <;> try (exfalso; omega) | with_reducible refine iJ fun hc => ?_ | refine vcq (k := ?_) | refine dr 10 (k := ?_) | refine dr 8 (k := ?_) | refine dr 12 (k := ?_) | refine dr 41 (k := ?_)))); all_goals ((try conv => whnf); try with_reducible exact trivial)
            refine ⟨fun g => hP2 g.1.1, ?_⟩
            (repeat' ((conv => whnf); (first | (with_reducible first | apply spl | apply spl') <;> intro hc <;> try (exfalso; omega) | with_reducible refine iJ fun hc => ?_ | refine vcq (k := ?_) | refine dr 10 (k := ?_) | refine dr 8 (k := ?_) | refine dr 12 (k := ?_) | refine dr 41 (k := ?_)))); all_goals ((try conv => whnf); try with_reducible exact trivial)
            refine ⟨fun g => hP2 g.1.1.1, ?_⟩
            have hT := hq.d.t
            (repeat' ((conv => whnf); (first | (with_reducible first | apply spl | apply spl') <;> intro hc <;> try (exfalso; omega) | with_reducible refine iJ fun hc => ?_ | refine vcq (k := ?_) | refine dr 10 (k := ?_) | refine dr 8 (k := ?_) | refine dr 12 (k := ?_) | refine dr 41 (k := ?_) | refine dr 18 (k := ?_)))); all_goals ((try conv => whnf); try with_reducible exact trivial)
            · have hc' := hc
              rw [hti] at hc'
              have hcc := hc'
              obtain ⟨⟨⟨⟨c0, c1⟩, c2⟩, c3⟩, c4⟩ := hc'
              have hb := hP c0
              have g1 := hP1 c0
              have g2 := hP2 c0
              have hm1 := Qu.srv_mono hq (o.getD i 0) hb.2.1 c1 c3
              have hm2 := Qu.srv_mono hq (o.getD i 0) hb.2.2 c2 c4
              have hb2 := (Qu.stQ_bnd hq true ho.lt (i + 1) (by omega)).2
              rw [e2] at hb2
              have hb3 := (Qu.stQ_bnd hq false ho.lt (i + 1) (by omega)).2
              rw [e1] at hb3
              rw [hti]
              (repeat' ((conv => whnf); (first | (with_reducible first | apply spl | apply spl') <;> intro hc <;> try (exfalso; omega) | with_reducible refine iJ fun hc => ?_ | refine vcq (k := ?_) | refine dr 10 (k := ?_) | refine dr 8 (k := ?_) | refine dr 12 (k := ?_) | refine dr 41 (k := ?_) | refine dr 18 (k := ?_)))); all_goals ((try conv => whnf); try with_reducible exact trivial)
              rw [hti]
              refine pcall_intro (Serve15 q hq _ f1 _ _ _ (by omega) (by omega) (by omega)) rfl ?_
              clear hb
              (repeat' ((conv => whnf); (first | (with_reducible first | apply spl | apply spl') <;> intro hc <;> try (exfalso; omega) | with_reducible refine iJ fun hc => ?_ | refine vcq (k := ?_) | refine dr 10 (k := ?_) | refine dr 8 (k := ?_) | refine dr 12 (k := ?_) | refine dr 41 (k := ?_) | refine dr 18 (k := ?_)))); all_goals ((try conv => whnf); try with_reducible exact trivial)
              have k0 : i + 1 ≤ o.length := by omega
              have k1 : 0 ≤ q.srv (o.getD i 0) now (sl.getD i 0) (rl.getD i 0) ∧ q.srv (o.getD i 0) now (sl.getD i 0) (rl.getD i 0) ≤ 180000000 := by omega
              have k2 : (q.stQ false o (i + 1)).2 ≤ q.srv (o.getD i 0) now (sl.getD i 0) (rl.getD i 0) := by rw [e1]; exact hm1
              have k3 : q.srv (o.getD i 0) now (sl.getD i 0) (rl.getD i 0) ≤ (q.stQ true o (i + 1)).2 := by rw [e2]; exact hm2
              have k4 : sl.length = o.length ∧ rl.length = o.length := (hP c0).1
              have k5 : o.length - (i + 1) < o.length - i := by omega
              refine ⟨(i + 1, q.srv (o.getD i 0) now (sl.getD i 0) (rl.getD i 0), True), ⟨⟨k0, k1, fun _ => ⟨k4, k2, k3⟩⟩, k5⟩, some [some 0, some 1], ?_⟩
              dsimp only
              rw [e1, e2]
              (repeat' ((conv => whnf); (first | (with_reducible first | apply spl | apply spl') <;> intro hc <;> try (exfalso; omega) | with_reducible refine iJ fun hc => ?_ | refine vcq (k := ?_) | refine dr 18 (k := ?_) | refine dr 41 (k := ?_) | refine dr 12 (k := ?_) | refine dr 8 (k := ?_) | refine dr 10 (k := ?_)))); all_goals ((try conv => whnf); try with_reducible exact trivial)
              refine ⟨⟨fun _ => trivial, fun _ => ?_⟩, ?_⟩
              · exact hcc
              · (repeat' ((conv => whnf); (first | (with_reducible first | apply spl | apply spl') <;> intro hc <;> try (exfalso; omega) | with_reducible refine iJ fun hc => ?_ | refine vcq (k := ?_) | refine dr 18 (k := ?_) | refine dr 41 (k := ?_) | refine dr 12 (k := ?_) | refine dr 8 (k := ?_) | refine dr 10 (k := ?_)))); all_goals ((try conv => whnf); try with_reducible exact trivial)
            · refine ⟨(i + 1, now, False), ⟨⟨by dsimp only; omega, hnow, fun g => g.elim⟩, by dsimp only; omega⟩, some [some 0, some 1], ?_⟩
              dsimp only
              rw [e1, e2]
              (repeat' ((conv => whnf); (first | (with_reducible first | apply spl | apply spl') <;> intro hc <;> try (exfalso; omega) | with_reducible refine iJ fun hc => ?_ | refine vcq (k := ?_) | refine dr 18 (k := ?_) | refine dr 41 (k := ?_) | refine dr 12 (k := ?_) | refine dr 8 (k := ?_) | refine dr 10 (k := ?_)))); all_goals ((try conv => whnf); try with_reducible exact trivial)
              refine ⟨⟨hc, fun g => g.elim⟩, ?_⟩
              (repeat' ((conv => whnf); (first | (with_reducible first | apply spl | apply spl') <;> intro hc <;> try (exfalso; omega) | with_reducible refine iJ fun hc => ?_ | refine vcq (k := ?_) | refine dr 18 (k := ?_) | refine dr 41 (k := ?_) | refine dr 12 (k := ?_) | refine dr 8 (k := ?_) | refine dr 10 (k := ?_)))); all_goals ((try conv => whnf); try with_reducible exact trivial)
        · refine callee_fo works10 rfl ?_
          rintro _ rfl
          (repeat' ((conv => whnf); (first | (with_reducible first | apply spl | apply spl') <;> intro hc <;> try (exfalso; omega) | with_reducible refine iJ fun hc => ?_ | refine vcq (k := ?_) | refine dr 18 (k := ?_) | refine dr 41 (k := ?_) | refine dr 12 (k := ?_) | refine dr 8 (k := ?_) | refine dr 10 (k := ?_)))); all_goals ((try conv => whnf); try with_reducible exact trivial)
          refine ⟨_, rfl, ?_⟩
          (repeat' ((conv => whnf); (first | (with_reducible first | apply spl | apply spl') <;> intro hc <;> try (exfalso; omega) | with_reducible refine iJ fun hc => ?_ | refine vcq (k := ?_) | refine dr 18 (k := ?_) | refine dr 41 (k := ?_) | refine dr 12 (k := ?_) | refine dr 8 (k := ?_) | refine dr 10 (k := ?_)))); all_goals ((try conv => whnf); try with_reducible exact trivial)
  · refine ⟨_, rfl, ?_⟩
    (repeat' ((conv => whnf); (first | (with_reducible first | apply spl | apply spl') <;> intro hc <;> try (exfalso; omega) | with_reducible refine iJ fun hc => ?_ | refine vcq (k := ?_) | refine dr 18 (k := ?_) | refine dr 41 (k := ?_) | refine dr 12 (k := ?_) | refine dr 8 (k := ?_) | refine dr 10 (k := ?_)))); all_goals ((try conv => whnf); try with_reducible exact trivial)
end Go.Proofs
