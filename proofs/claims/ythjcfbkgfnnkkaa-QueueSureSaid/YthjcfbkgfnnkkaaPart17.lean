/- Own work: texts of the proof of a law (QuD5, QuD6, QuC5, QuD7, QuX, QuD8). No condition. -/
import Derived.Test.YthjcfbkgfnnkkaaPart16
namespace Go.Proofs
open Go Go.Sx
set_option maxRecDepth 100000
set_option maxHeartbeats 40000000
theorem to65 (n m : Int) : PureC Try.prog 65 false [.int .i64 n, .int .i64 m] (· = .prop (0 ≤ n ∧ n ≤ m) inferInstance) := by
  refine pureC_of_exec Try.E_ok Try.func65 rfl (by kernel_rfl) ?_
  (repeat' ((conv => whnf); (first | (with_reducible first | apply spl | apply spl') <;> intro hc <;> try (exfalso; omega) | with_reducible refine iJ fun hc => ?_ | refine vcq (k := ?_) | fail))); all_goals ((try conv => whnf); try with_reducible exact trivial); (all_goals (try (refine ⟨_, rfl, ?_⟩; (repeat' ((conv => whnf); (first | (with_reducible first | apply spl | apply spl') <;> intro hc <;> try (exfalso; omega) | with_reducible refine iJ fun hc => ?_ | refine vcq (k := ?_) | fail))); all_goals ((try conv => whnf); try with_reducible exact trivial))))
theorem size64 (d : Dk) (hd : d.Ok) : PureC Try.prog 64 false [d.v] (· = .tup [.int .i64 d.S.length, .int .i64 d.cnt]) := by
  have hz := hd.z
  have hSl := (d.S_len hd).1
  refine pureC_of_exec Try.E_ok Try.func64 rfl (by kernel_rfl) ?_
  (repeat' ((conv => whnf); (first | (with_reducible first | apply spl | apply spl') <;> intro hc <;> try (exfalso; omega) | with_reducible refine iJ fun hc => ?_ | refine vcq (k := ?_) | fail))); all_goals ((try conv => whnf); try with_reducible exact trivial)
  refine ⟨Nat, fun i => i ≤ d.Z.length, fun i => d.Z.length - i, fun i => [(9, .int .i64 (i : Nat)), (2, .int .i64 (d.Spre i 0).length)], fun _ => [], fun _ => [], 0, ⟨by omega, some [some 0], ?_⟩, ?_⟩
  · (repeat' ((conv => whnf); (first | (with_reducible first | apply spl | apply spl') <;> intro hc <;> try (exfalso; omega) | with_reducible refine iJ fun hc => ?_ | refine vcq (k := ?_) | fail))); all_goals ((try conv => whnf); try with_reducible exact trivial)
  · intro i hi
    have hi : i ≤ d.Z.length := hi
    have hti : (i : Int).toNat = i := Int.toNat_natCast i
    have hle := (d.Spre_le hd i hi).1
    (repeat' ((conv => whnf); (first | (with_reducible first | apply spl | apply spl') <;> intro hc <;> try (exfalso; omega) | with_reducible refine iJ fun hc => ?_ | refine vcq (k := ?_) | fail))); all_goals ((try conv => whnf); try with_reducible exact trivial)
    · have hil : i < d.Z.length := by omega
      have hzi := Dk.zone_at hd hil
      have hs := d.Spre_len_succ hil
      have hz1 : ((d.Z.getD i (0, 0)).1.toNat : Int) = (d.Z.getD i (0, 0)).1 := Int.toNat_of_nonneg (by omega)
      rw [hti]
      (repeat' ((conv => whnf); (first | (with_reducible first | apply spl | apply spl') <;> intro hc <;> try (exfalso; omega) | with_reducible refine iJ fun hc => ?_ | refine vcq (k := ?_) | fail))); all_goals ((try conv => whnf); try with_reducible exact trivial)
      refine ⟨i + 1, ⟨by omega, by dsimp only; omega⟩, some [some 0], ?_⟩
      (repeat' ((conv => whnf); (first | (with_reducible first | apply spl | apply spl') <;> intro hc <;> try (exfalso; omega) | with_reducible refine iJ fun hc => ?_ | refine vcq (k := ?_) | fail))); all_goals ((try conv => whnf); try with_reducible exact trivial)
    · obtain rfl : i = d.Z.length := by omega
      rw [Dk.Spre_all]
      refine callee_fo (Size81 d hd) rfl ?_
      rintro _ rfl
      (repeat' ((conv => whnf); (first | (with_reducible first | apply spl | apply spl') <;> intro hc <;> try (exfalso; omega) | with_reducible refine iJ fun hc => ?_ | refine vcq (k := ?_) | fail))); all_goals ((try conv => whnf); try with_reducible exact trivial)
      refine ⟨_, rfl, ?_⟩
      (repeat' ((conv => whnf); (first | (with_reducible first | apply spl | apply spl') <;> intro hc <;> try (exfalso; omega) | with_reducible refine iJ fun hc => ?_ | refine vcq (k := ?_) | fail))); all_goals ((try conv => whnf); try with_reducible exact trivial)
theorem Check43 (q : Qu) (hq : q.Ok) : PureC Try.prog 43 false [.agg q.c] (· = .int .i64 0) := by
  have hd := hq.d
  have hz := hd.z
  have hcy := hq.cyl
  have hpa := hq.pas
  have hrl := hq.rql
  have hskl := hq.skl
  have hSl := (q.d.S_len hd).1
  have hcn := q.d.cnt_le hd
  have hck := Check63 q.d (by omega)
  rw [Dk.chk_of hd] at hck
  refine pureC_of_exec Try.E_ok Try.func43 rfl (by kernel_rfl) ?_
  (repeat' ((conv => whnf); (first | (with_reducible first | apply spl | apply spl') <;> intro hc <;> try (exfalso; omega) | with_reducible refine iJ fun hc => ?_ | refine vcq (k := ?_) | fail))); all_goals ((try conv => whnf); try with_reducible exact trivial)
  refine callee_fo hck rfl ?_
  rintro _ rfl
  (repeat' ((conv => whnf); (first | (with_reducible first | apply spl | apply spl') <;> intro hc <;> try (exfalso; omega) | with_reducible refine iJ fun hc => ?_ | refine vcq (k := ?_) | fail))); all_goals ((try conv => whnf); try with_reducible exact trivial)
  refine callee_fo (size64 q.d hd) rfl ?_
  rintro _ rfl
  (repeat' ((conv => whnf); (first | (with_reducible first | apply spl | apply spl') <;> intro hc <;> try (exfalso; omega) | with_reducible refine iJ fun hc => ?_ | refine vcq (k := ?_) | fail))); all_goals ((try conv => whnf); try with_reducible exact trivial); (repeat' ((first | (refine callee_fo (to65 _ _) rfl ?_; rintro _ rfl) | (refine pcall_intro (to65 _ _) rfl ?_) | (refine pcall_soft (fun _ => to65 _ _) rfl ?_)); (repeat' ((conv => whnf); (first | (with_reducible first | apply spl | apply spl') <;> intro hc <;> try (exfalso; omega) | with_reducible refine iJ fun hc => ?_ | refine vcq (k := ?_) | fail))); all_goals ((try conv => whnf); try with_reducible exact trivial)))
  refine ⟨Nat, fun i => i ≤ q.sk.length, fun i => q.sk.length - i, fun i => [(54, .int .i64 (i : Nat))], fun _ => [], fun _ => [], 0, ⟨by omega, none, ?_⟩, ?_⟩
  · (repeat' ((conv => whnf); (first | (with_reducible first | apply spl | apply spl') <;> intro hc <;> try (exfalso; omega) | with_reducible refine iJ fun hc => ?_ | refine vcq (k := ?_) | fail))); all_goals ((try conv => whnf); try with_reducible exact trivial)
  · intro i hi
    have hi : i ≤ q.sk.length := hi
    have hti : (i : Int).toNat = i := Int.toNat_natCast i
    (repeat' ((conv => whnf); (first | (with_reducible first | apply spl | apply spl') <;> intro hc <;> try (exfalso; omega) | with_reducible refine iJ fun hc => ?_ | refine vcq (k := ?_) | fail))); all_goals ((try conv => whnf); try with_reducible exact trivial); (repeat' ((first | (refine callee_fo (to65 _ _) rfl ?_; rintro _ rfl) | (refine pcall_intro (to65 _ _) rfl ?_) | (refine pcall_soft (fun _ => to65 _ _) rfl ?_)); (repeat' ((conv => whnf); (first | (with_reducible first | apply spl | apply spl') <;> intro hc <;> try (exfalso; omega) | with_reducible refine iJ fun hc => ?_ | refine vcq (k := ?_) | fail))); all_goals ((try conv => whnf); try with_reducible exact trivial)))
    · rw [hti] at hc
      have hil : i < q.sk.length := by omega
      have := Qu.sk_at hq hil
      exfalso
      omega
    · have hil : i < q.sk.length := by omega
      refine ⟨i + 1, ⟨by omega, by dsimp only; omega⟩, some [some 0], ?_⟩
      (repeat' ((conv => whnf); (first | (with_reducible first | apply spl | apply spl') <;> intro hc <;> try (exfalso; omega) | with_reducible refine iJ fun hc => ?_ | refine vcq (k := ?_) | fail))); all_goals ((try conv => whnf); try with_reducible exact trivial)
    · obtain rfl : i = q.sk.length := by omega
      refine ⟨Nat × Int, fun p => p.1 ≤ q.rq.length ∧ (p.1 < q.rq.length → p.2 ≤ (q.rq.getD p.1 Rq.none).t0), fun p => q.rq.length - p.1, fun p => [(74, .int .i64 (p.1 : Nat)), (9, .int .i64 p.2)], fun _ => [], fun _ => [], (0, 0), ⟨⟨by dsimp only; omega, fun g => by have := Qu.rq_at hq g; unfold Qu.RqOk at this; dsimp only at this ⊢; omega⟩, none, ?_⟩, ?_⟩
      · (repeat' ((conv => whnf); (first | (with_reducible first | apply spl | apply spl') <;> intro hc <;> try (exfalso; omega) | with_reducible refine iJ fun hc => ?_ | refine vcq (k := ?_) | fail))); all_goals ((try conv => whnf); try with_reducible exact trivial)
      · rintro ⟨i, a0⟩ ⟨hi, ha⟩
        dsimp only at hi ha
        have hti : (i : Int).toNat = i := Int.toNat_natCast i
        (repeat' ((conv => whnf); (first | (with_reducible first | apply spl | apply spl') <;> intro hc <;> try (exfalso; omega) | with_reducible refine iJ fun hc => ?_ | refine vcq (k := ?_) | fail))); all_goals ((try conv => whnf); try with_reducible exact trivial)
        · have hil : i < q.rq.length := by dsimp only at *; omega
          have hr := Qu.rq_at hq hil
          have ha := ha hil
          unfold Qu.RqOk at hr
          clear hi
          rw [hti]
          (repeat' ((conv => whnf); (first | (with_reducible first | apply spl | apply spl') <;> intro hc <;> try (exfalso; omega) | with_reducible refine iJ fun hc => ?_ | refine vcq (k := ?_) | fail))); all_goals ((try conv => whnf); try with_reducible exact trivial); (repeat' ((first | (refine callee_fo (to65 _ _) rfl ?_; rintro _ rfl) | (refine pcall_intro (to65 _ _) rfl ?_) | (refine pcall_soft (fun _ => to65 _ _) rfl ?_)); (repeat' ((conv => whnf); (first | (with_reducible first | apply spl | apply spl') <;> intro hc <;> try (exfalso; omega) | with_reducible refine iJ fun hc => ?_ | refine vcq (k := ?_) | fail))); all_goals ((try conv => whnf); try with_reducible exact trivial)))
          refine ⟨(i + 1, (q.rq.getD i Rq.none).t0), ⟨⟨by dsimp only; omega, fun g => Qu.rq_asc hq g (by omega)⟩, by dsimp only; omega⟩, some [some 0], ?_⟩
          (repeat' ((conv => whnf); (first | (with_reducible first | apply spl | apply spl') <;> intro hc <;> try (exfalso; omega) | with_reducible refine iJ fun hc => ?_ | refine vcq (k := ?_) | fail))); all_goals ((try conv => whnf); try with_reducible exact trivial)
        · have hie : i = q.rq.length := by dsimp only at *; omega
          refine ⟨_, rfl, ?_⟩
          (repeat' ((conv => whnf); (first | (with_reducible first | apply spl | apply spl') <;> intro hc <;> try (exfalso; omega) | with_reducible refine iJ fun hc => ?_ | refine vcq (k := ?_) | fail))); all_goals ((try conv => whnf); try with_reducible exact trivial)
end Go.Proofs

namespace Go.Proofs
open Go Go.Sx
set_option maxRecDepth 100000
set_option maxHeartbeats 40000000
theorem rowNat (o : List Nat) : rowOf natC 0 o = rowOf intC 0 (o.map Int.ofNat) := by
  funext i
  unfold rowOf natC intC
  by_cases hi : i < o.length
  · simp [List.getD_eq_getElem?_getD, hi]
  · simp [List.getD_eq_getElem?_getD, List.getElem?_eq_none (Nat.le_of_not_lt hi)]
theorem range_sorted (n : Nat) : ((List.range n).map Int.ofNat).Pairwise (· < ·) := by
  rw [List.pairwise_map]
  exact List.pairwise_lt_range.imp fun h => by simpa using h
theorem range_getD (n i : Nat) (h : i < n) : ((List.range n).map Int.ofNat).getD i 0 = i := by
  simp [List.getD_eq_getElem?_getD, h]
theorem appF_last {n : Nat} {f : Nat → List V} {c : List V} (h : c = f n) : ∀ i, i < n + 1 → appF n f (fun _ => c) i = f i := by
  intro i hi
  unfold appF
  split
  · rfl
  · rw [h, show i = n by omega]
theorem open31 (q : Qu) (hq : q.Ok) (o : List Nat) (ho : IsOrd q.rq.length o) : PureC Try.prog 31 true [.agg q.c, .sl 1 o.length (rowOf natC 0 o)] (· = .tup [.agg q.c, .int .i64 0]) := by
  have hn := hq.rql
  have hlen := ho.len
  have hml : (o.map Int.ofNat).length = o.length := by simp
  refine pureC_of_exec Try.E_ok Try.func31 rfl (by kernel_rfl) ?_
  (repeat' ((conv => whnf); (first | (with_reducible first | apply spl | apply spl') <;> intro hc <;> try (exfalso; omega) | with_reducible refine iJ fun hc => ?_ | refine vcq (k := ?_) | refine dr 11 (k := ?_) | refine dr 8 (k := ?_) | refine dr 20 (k := ?_) | refine dr 9 (k := ?_)))); all_goals ((try conv => whnf); try with_reducible exact trivial)
  refine callee_fo (Check43 q hq) rfl ?_
  rintro _ rfl
  (repeat' ((conv => whnf); (first | (with_reducible first | apply spl | apply spl') <;> intro hc <;> try (exfalso; omega) | with_reducible refine iJ fun hc => ?_ | refine vcq (k := ?_) | refine dr 11 (k := ?_) | refine dr 8 (k := ?_) | refine dr 20 (k := ?_) | refine dr 9 (k := ?_)))); all_goals ((try conv => whnf); try with_reducible exact trivial)
  refine callee_exec Try.E_ok Try.func52 rfl (by kernel_rfl) ?_
  (repeat' ((conv => whnf); (first | (with_reducible first | apply spl | apply spl') <;> intro hc <;> try (exfalso; omega) | with_reducible refine iJ fun hc => ?_ | refine vcq (k := ?_) | refine dr 11 (k := ?_) | refine dr 8 (k := ?_) | refine dr 20 (k := ?_) | refine dr 9 (k := ?_)))); all_goals ((try conv => whnf); try with_reducible exact trivial)
  refine callee_frame [2] (sorted51 (o.map Int.ofNat) (by omega)) rfl ?_ ?_
  · (repeat' ((conv => whnf); (first | (with_reducible first | apply spl | apply spl') <;> intro hc <;> try (exfalso; omega) | with_reducible refine iJ fun hc => ?_ | refine vcq (k := ?_) | refine dr 11 (k := ?_) | refine dr 8 (k := ?_) | refine dr 20 (k := ?_) | refine dr 9 (k := ?_)))); all_goals ((try conv => whnf); try with_reducible exact trivial)
    refine ⟨fun i _ => by rw [rowNat], ?_⟩
    (repeat' ((conv => whnf); (first | (with_reducible first | apply spl | apply spl') <;> intro hc <;> try (exfalso; omega) | with_reducible refine iJ fun hc => ?_ | refine vcq (k := ?_) | refine dr 11 (k := ?_) | refine dr 8 (k := ?_) | refine dr 20 (k := ?_) | refine dr 9 (k := ?_)))); all_goals ((try conv => whnf); try with_reducible exact trivial)
  · rintro _ _ ⟨m, g1, g2, rfl, rfl⟩
    have hm : m = (List.range q.rq.length).map Int.ofNat := sorted_unique m _ (g1.trans (ho.perm.map _)) (pairwise_of_getD (fun p r hp hr => g2 p r hp (by have := g1.length_eq; omega))) (range_sorted _)
    subst hm
    (repeat' ((conv => whnf); (first | (with_reducible first | apply spl | apply spl') <;> intro hc <;> try (exfalso; omega) | with_reducible refine iJ fun hc => ?_ | refine vcq (k := ?_) | refine dr 11 (k := ?_) | refine dr 8 (k := ?_) | refine dr 20 (k := ?_) | refine dr 9 (k := ?_)))); all_goals ((try conv => whnf); try with_reducible exact trivial)
    refine ⟨Nat, fun i => i ≤ o.length, fun i => o.length - i, fun i => [(21, .int .i64 (i : Nat))], fun _ => [], fun _ => [], 0, ⟨by omega, none, ?_⟩, ?_⟩
    · (repeat' ((conv => whnf); (first | (with_reducible first | apply spl | apply spl') <;> intro hc <;> try (exfalso; omega) | with_reducible refine iJ fun hc => ?_ | refine vcq (k := ?_) | refine dr 11 (k := ?_) | refine dr 8 (k := ?_) | refine dr 20 (k := ?_) | refine dr 9 (k := ?_)))); all_goals ((try conv => whnf); try with_reducible exact trivial)
    · intro i hi
      have hi : i ≤ o.length := hi
      have hti : (i : Int).toNat = i := Int.toNat_natCast i
      (repeat' ((conv => whnf); (first | (with_reducible first | apply spl | apply spl') <;> intro hc <;> try (exfalso; omega) | with_reducible refine iJ fun hc => ?_ | refine vcq (k := ?_) | refine dr 11 (k := ?_) | refine dr 8 (k := ?_) | refine dr 20 (k := ?_) | refine dr 9 (k := ?_)))); all_goals ((try conv => whnf); try with_reducible exact trivial)
      · rw [hti, range_getD _ _ (by omega)] at hc
        exact absurd rfl hc
      · refine ⟨i + 1, ⟨by omega, by dsimp only; omega⟩, none, ?_⟩
        (repeat' ((conv => whnf); (first | (with_reducible first | apply spl | apply spl') <;> intro hc <;> try (exfalso; omega) | with_reducible refine iJ fun hc => ?_ | refine vcq (k := ?_) | refine dr 11 (k := ?_) | refine dr 8 (k := ?_) | refine dr 20 (k := ?_) | refine dr 9 (k := ?_)))); all_goals ((try conv => whnf); try with_reducible exact trivial)
      · refine ⟨_, rfl, ?_⟩
        (repeat' ((conv => whnf); (first | (with_reducible first | apply spl | apply spl') <;> intro hc <;> try (exfalso; omega) | with_reducible refine iJ fun hc => ?_ | refine vcq (k := ?_) | refine dr 11 (k := ?_) | refine dr 8 (k := ?_) | refine dr 20 (k := ?_) | refine dr 9 (k := ?_)))); all_goals ((try conv => whnf); try with_reducible exact trivial)
theorem Allowed20 (q : Qu) (hq : q.Ok) (o : List Nat) (ho : IsOrd q.rq.length o) : PureC Try.prog 20 false [.agg q.c, .sl 1 o.length (rowOf natC 0 o)] (· = .tup [.prop (AllP q.rq.length q.pas.toNat q.od o) (Classical.propDecidable _), .int .i64 0]) := by
  refine pureC_of_exec Try.E_ok Try.func20 rfl (by kernel_rfl) ?_
  (repeat' ((conv => whnf); (first | (with_reducible first | apply spl | apply spl') <;> intro hc <;> try (exfalso; omega) | with_reducible refine iJ fun hc => ?_ | refine vcq (k := ?_) | refine dr 11 (k := ?_) | refine dr 8 (k := ?_) | refine dr 20 (k := ?_) | refine dr 9 (k := ?_)))); all_goals ((try conv => whnf); try with_reducible exact trivial)
  refine callee_fo (open31 q hq o ho) rfl ?_
  rintro _ rfl
  (repeat' ((conv => whnf); (first | (with_reducible first | apply spl | apply spl') <;> intro hc <;> try (exfalso; omega) | with_reducible refine iJ fun hc => ?_ | refine vcq (k := ?_) | refine dr 11 (k := ?_) | refine dr 8 (k := ?_) | refine dr 20 (k := ?_) | refine dr 9 (k := ?_)))); all_goals ((try conv => whnf); try with_reducible exact trivial)
  refine callee_fo (allowed45 q hq o ho) rfl ?_
  rintro _ rfl
  (repeat' ((conv => whnf); (first | (with_reducible first | apply spl | apply spl') <;> intro hc <;> try (exfalso; omega) | with_reducible refine iJ fun hc => ?_ | refine vcq (k := ?_) | refine dr 11 (k := ?_) | refine dr 8 (k := ?_) | refine dr 20 (k := ?_) | refine dr 9 (k := ?_)))); all_goals ((try conv => whnf); try with_reducible exact trivial)
  refine ⟨_, rfl, ?_⟩
  (repeat' ((conv => whnf); (first | (with_reducible first | apply spl | apply spl') <;> intro hc <;> try (exfalso; omega) | with_reducible refine iJ fun hc => ?_ | refine vcq (k := ?_) | refine dr 11 (k := ?_) | refine dr 8 (k := ?_) | refine dr 20 (k := ?_) | refine dr 9 (k := ?_)))); all_goals ((try conv => whnf); try with_reducible exact trivial)
theorem Ends11 (q : Qu) (hq : q.Ok) (o : List Nat) (ho : IsOrd q.rq.length o) : PureC Try.prog 11 false [.agg q.c, .sl 1 o.length (rowOf natC 0 o)] (· = .tup [.sl 2 q.rq.length (fun r => [.int .i64 (q.endOf false o r), .int .i64 (q.endOf true o r)]), .int .i64 0]) := by
  have hn := hq.rql
  refine pureC_of_exec Try.E_ok Try.func11 rfl (by kernel_rfl) ?_
  (repeat' ((conv => whnf); (first | (with_reducible first | apply spl | apply spl') <;> intro hc <;> try (exfalso; omega) | with_reducible refine iJ fun hc => ?_ | refine vcq (k := ?_) | refine dr 11 (k := ?_) | refine dr 8 (k := ?_) | refine dr 20 (k := ?_) | refine dr 9 (k := ?_)))); all_goals ((try conv => whnf); try with_reducible exact trivial)
  refine callee_fo (open31 q hq o ho) rfl ?_
  rintro _ rfl
  (repeat' ((conv => whnf); (first | (with_reducible first | apply spl | apply spl') <;> intro hc <;> try (exfalso; omega) | with_reducible refine iJ fun hc => ?_ | refine vcq (k := ?_) | refine dr 8 (k := ?_)))); all_goals ((try conv => whnf); try with_reducible exact trivial)
  refine pcall_intro (ends32 q hq false o ho) rfl ?_
  (repeat' ((conv => whnf); (first | (with_reducible first | apply spl | apply spl') <;> intro hc <;> try (exfalso; omega) | with_reducible refine iJ fun hc => ?_ | refine vcq (k := ?_) | refine dr 8 (k := ?_)))); all_goals ((try conv => whnf); try with_reducible exact trivial)
  refine pcall_intro (ends32 q hq true o ho) rfl ?_
  (repeat' ((conv => whnf); (first | (with_reducible first | apply spl | apply spl') <;> intro hc <;> try (exfalso; omega) | with_reducible refine iJ fun hc => ?_ | refine vcq (k := ?_) | refine dr 8 (k := ?_)))); all_goals ((try conv => whnf); try with_reducible exact trivial)
  refine ⟨Nat, fun i => i ≤ q.rq.length, fun i => q.rq.length - i, fun i => [(29, .int .i64 (i : Nat)), (8, .osl 2 i)], fun _ => [], fun i => [.row 24 2 i (fun r => [.int .i64 (q.endOf false o r), .int .i64 (q.endOf true o r)]) true], 0, ⟨by omega, some [some 0, some 1, none], ?_⟩, ?_⟩
  · (repeat' ((conv => whnf); (first | (with_reducible first | apply spl | apply spl') <;> intro hc <;> try (exfalso; omega) | with_reducible refine iJ fun hc => ?_ | refine vcq (k := ?_) | refine dr 11 (k := ?_) | refine dr 8 (k := ?_) | refine dr 20 (k := ?_) | refine dr 9 (k := ?_)))); all_goals ((try conv => whnf); try with_reducible exact trivial)
  · intro i hi
    have hi : i ≤ q.rq.length := hi
    have hti : (i : Int).toNat = i := Int.toNat_natCast i
    (repeat' ((conv => whnf); (first | (with_reducible first | apply spl | apply spl') <;> intro hc <;> try (exfalso; omega) | with_reducible refine iJ fun hc => ?_ | refine vcq (k := ?_) | refine dr 11 (k := ?_)))); all_goals ((try conv => whnf); try with_reducible exact trivial)
    · rw [hti]
      refine ⟨i + 1, ⟨by omega, by dsimp only; omega⟩, some [some 0, some 1, some 4], ?_⟩
      (repeat' ((conv => whnf); (first | (with_reducible first | apply spl | apply spl') <;> intro hc <;> try (exfalso; omega) | with_reducible refine iJ fun hc => ?_ | refine vcq (k := ?_) | refine dr 11 (k := ?_) | refine dr 8 (k := ?_) | refine dr 20 (k := ?_) | refine dr 9 (k := ?_)))); all_goals ((try conv => whnf); try with_reducible exact trivial)
      refine ⟨appF_last rfl, ?_⟩
      (repeat' ((conv => whnf); (first | (with_reducible first | apply spl | apply spl') <;> intro hc <;> try (exfalso; omega) | with_reducible refine iJ fun hc => ?_ | refine vcq (k := ?_) | refine dr 11 (k := ?_) | refine dr 8 (k := ?_) | refine dr 20 (k := ?_) | refine dr 9 (k := ?_)))); all_goals ((try conv => whnf); try with_reducible exact trivial)
    · obtain rfl : i = q.rq.length := by omega
      refine ⟨_, rfl, ?_⟩
      (repeat' ((conv => whnf); (first | (with_reducible first | apply spl | apply spl') <;> intro hc <;> try (exfalso; omega) | with_reducible refine iJ fun hc => ?_ | refine vcq (k := ?_) | refine dr 11 (k := ?_) | refine dr 8 (k := ?_) | refine dr 20 (k := ?_) | refine dr 9 (k := ?_)))); all_goals ((try conv => whnf); try with_reducible exact trivial)
theorem sameInts29 (a b : List Nat) (ha : a.length ≤ 1000000) (_hb : b.length ≤ 1000000) : PureC Try.prog 29 false [.sl 1 a.length (rowOf natC 0 a), .sl 1 b.length (rowOf natC 0 b)] (· = .prop (a = b) inferInstance) := by
  refine pureC_of_exec Try.E_ok Try.func29 rfl (by kernel_rfl) ?_
  (repeat' ((conv => whnf); (first | (with_reducible first | apply spl | apply spl') <;> intro hc <;> try (exfalso; omega) | with_reducible refine iJ fun hc => ?_ | refine vcq (k := ?_) | refine dr 9 (k := ?_)))); all_goals ((try conv => whnf); try with_reducible exact trivial)
  · refine ⟨_, rfl, ?_⟩
    (repeat' ((conv => whnf); (first | (with_reducible first | apply spl | apply spl') <;> intro hc <;> try (exfalso; omega) | with_reducible refine iJ fun hc => ?_ | refine vcq (k := ?_) | refine dr 11 (k := ?_) | refine dr 8 (k := ?_) | refine dr 20 (k := ?_) | refine dr 9 (k := ?_)))); all_goals ((try conv => whnf); try with_reducible exact trivial)
    exact ⟨fun h => hc (by rw [h]), trivial⟩
  · have hl : a.length = b.length := by omega
    refine ⟨Nat, fun i => i ≤ a.length ∧ ∀ j, j < i → a.getD j 0 = b.getD j 0, fun i => a.length - i, fun i => [(5, .int .i64 (i : Nat))], fun _ => [], fun _ => [], 0, ⟨⟨by omega, fun j hj => by omega⟩, none, ?_⟩, ?_⟩
    · (repeat' ((conv => whnf); (first | (with_reducible first | apply spl | apply spl') <;> intro hc <;> try (exfalso; omega) | with_reducible refine iJ fun hc => ?_ | refine vcq (k := ?_) | refine dr 11 (k := ?_) | refine dr 8 (k := ?_) | refine dr 20 (k := ?_) | refine dr 9 (k := ?_)))); all_goals ((try conv => whnf); try with_reducible exact trivial)
    · rintro i ⟨hi, hall⟩
      have hti : (i : Int).toNat = i := Int.toNat_natCast i
      (repeat' ((conv => whnf); (first | (with_reducible first | apply spl | apply spl') <;> intro hc <;> try (exfalso; omega) | with_reducible refine iJ fun hc => ?_ | refine vcq (k := ?_) | refine dr 9 (k := ?_)))); all_goals ((try conv => whnf); try with_reducible exact trivial)
      · rw [hti] at hc
        refine ⟨_, rfl, ?_⟩
        (repeat' ((conv => whnf); (first | (with_reducible first | apply spl | apply spl') <;> intro hc <;> try (exfalso; omega) | with_reducible refine iJ fun hc => ?_ | refine vcq (k := ?_) | refine dr 11 (k := ?_) | refine dr 8 (k := ?_) | refine dr 20 (k := ?_) | refine dr 9 (k := ?_)))); all_goals ((try conv => whnf); try with_reducible exact trivial)
        exact ⟨fun h => hc (by rw [h]), trivial⟩
      · rw [hti] at hc
        refine ⟨i + 1, ⟨⟨by omega, fun j hj => ?_⟩, by dsimp only; omega⟩, none, ?_⟩
        · rcases Nat.lt_or_eq_of_le (show j ≤ i by omega) with g | rfl
          · exact hall j g
          · omega
        · (repeat' ((conv => whnf); (first | (with_reducible first | apply spl | apply spl') <;> intro hc <;> try (exfalso; omega) | with_reducible refine iJ fun hc => ?_ | refine vcq (k := ?_) | refine dr 11 (k := ?_) | refine dr 8 (k := ?_) | refine dr 20 (k := ?_) | refine dr 9 (k := ?_)))); all_goals ((try conv => whnf); try with_reducible exact trivial)
      · obtain rfl : i = a.length := by omega
        refine ⟨_, rfl, ?_⟩
        (repeat' ((conv => whnf); (first | (with_reducible first | apply spl | apply spl') <;> intro hc <;> try (exfalso; omega) | with_reducible refine iJ fun hc => ?_ | refine vcq (k := ?_) | refine dr 11 (k := ?_) | refine dr 8 (k := ?_) | refine dr 20 (k := ?_) | refine dr 9 (k := ?_)))); all_goals ((try conv => whnf); try with_reducible exact trivial)
        refine ⟨List.ext_getElem hl fun j h1 h2 => ?_, trivial⟩
        have := hall j h1
        rwa [getD_get h1, getD_get h2] at this
theorem sameSpans30 (n m : Nat) (f g : Nat → Int × Int) (hn : n ≤ 1000000) (_hm : m ≤ 1000000) : PureC Try.prog 30 false [.sl 2 n (fun i => [.int .i64 (f i).1, .int .i64 (f i).2]), .sl 2 m (fun i => [.int .i64 (g i).1, .int .i64 (g i).2])] (· = .prop (n = m ∧ ∀ i, i < n → f i = g i) (Classical.propDecidable _)) := by
  refine pureC_of_exec Try.E_ok Try.func30 rfl (by kernel_rfl) ?_
  (repeat' ((conv => whnf); (first | (with_reducible first | apply spl | apply spl') <;> intro hc <;> try (exfalso; omega) | with_reducible refine iJ fun hc => ?_ | refine vcq (k := ?_) | refine dr 9 (k := ?_)))); all_goals ((try conv => whnf); try with_reducible exact trivial)
  · refine ⟨_, rfl, ?_⟩
    (repeat' ((conv => whnf); (first | (with_reducible first | apply spl | apply spl') <;> intro hc <;> try (exfalso; omega) | with_reducible refine iJ fun hc => ?_ | refine vcq (k := ?_) | refine dr 11 (k := ?_) | refine dr 8 (k := ?_) | refine dr 20 (k := ?_) | refine dr 9 (k := ?_)))); all_goals ((try conv => whnf); try with_reducible exact trivial)
  · have hl : n = m := by omega
    refine ⟨Nat, fun i => i ≤ n ∧ ∀ j, j < i → f j = g j, fun i => n - i, fun i => [(5, .int .i64 (i : Nat))], fun _ => [], fun _ => [], 0, ⟨⟨by omega, fun j hj => by omega⟩, none, ?_⟩, ?_⟩
    · (repeat' ((conv => whnf); (first | (with_reducible first | apply spl | apply spl') <;> intro hc <;> try (exfalso; omega) | with_reducible refine iJ fun hc => ?_ | refine vcq (k := ?_) | refine dr 11 (k := ?_) | refine dr 8 (k := ?_) | refine dr 20 (k := ?_) | refine dr 9 (k := ?_)))); all_goals ((try conv => whnf); try with_reducible exact trivial)
    · rintro i ⟨hi, hall⟩
      have hti : (i : Int).toNat = i := Int.toNat_natCast i
      (repeat' ((conv => whnf); (first | (with_reducible first | apply spl | apply spl') <;> intro hc <;> try (exfalso; omega) | with_reducible refine iJ fun hc => ?_ | refine vcq (k := ?_) | refine dr 9 (k := ?_)))); all_goals ((try conv => whnf); try with_reducible exact trivial)
      · rw [hti] at hc
        have hin : i < n := by omega
        refine ⟨_, rfl, ?_⟩
        (repeat' ((conv => whnf); (first | (with_reducible first | apply spl | apply spl') <;> intro hc <;> try (exfalso; omega) | with_reducible refine iJ fun hc => ?_ | refine vcq (k := ?_) | refine dr 11 (k := ?_) | refine dr 8 (k := ?_) | refine dr 20 (k := ?_) | refine dr 9 (k := ?_)))); all_goals ((try conv => whnf); try with_reducible exact trivial)
        exact ⟨fun h => hc (by rw [h.2 i hin]; exact ⟨rfl, rfl⟩), trivial⟩
      · rw [hti] at hc
        refine ⟨i + 1, ⟨⟨by omega, fun j hj => ?_⟩, by dsimp only; omega⟩, none, ?_⟩
        · rcases Nat.lt_or_eq_of_le (show j ≤ i by omega) with g1 | rfl
          · exact hall j g1
          · have := Classical.not_not.1 hc
            exact Prod.ext this.1 this.2
        · (repeat' ((conv => whnf); (first | (with_reducible first | apply spl | apply spl') <;> intro hc <;> try (exfalso; omega) | with_reducible refine iJ fun hc => ?_ | refine vcq (k := ?_) | refine dr 11 (k := ?_) | refine dr 8 (k := ?_) | refine dr 20 (k := ?_) | refine dr 9 (k := ?_)))); all_goals ((try conv => whnf); try with_reducible exact trivial)
      · obtain rfl : i = n := by omega
        refine ⟨_, rfl, ?_⟩
        (repeat' ((conv => whnf); (first | (with_reducible first | apply spl | apply spl') <;> intro hc <;> try (exfalso; omega) | with_reducible refine iJ fun hc => ?_ | refine vcq (k := ?_) | refine dr 11 (k := ?_) | refine dr 8 (k := ?_) | refine dr 20 (k := ?_) | refine dr 9 (k := ?_)))); all_goals ((try conv => whnf); try with_reducible exact trivial)
        exact ⟨⟨hl, hall⟩, trivial⟩
theorem IsAllowed24 (q : Qu) (hq : q.Ok) (o : List Nat) (ho : IsOrd q.rq.length o) : PureC Try.prog 24 false [.agg q.c, .sl 1 o.length (rowOf natC 0 o)] (· = .prop (AllR q.pas.toNat q.od o) (Classical.propDecidable _)) := by
  have hn := hq.rql
  have hp := hq.pas
  have hlen := ho.len
  have hlt : ∀ k, k < o.length → o.getD k 0 < q.rq.length := fun k hk => by rw [getD_get hk]; exact ho.lt _ (List.getElem_mem hk)
  refine pureC_of_exec Try.E_ok Try.func24 rfl (by kernel_rfl) ?_
  (repeat' ((conv => whnf); (first | (with_reducible first | apply spl | apply spl') <;> intro hc <;> try (exfalso; omega) | with_reducible refine iJ fun hc => ?_ | refine vcq (k := ?_) | refine dr 11 (k := ?_) | refine dr 8 (k := ?_) | refine dr 20 (k := ?_) | refine dr 9 (k := ?_)))); all_goals ((try conv => whnf); try with_reducible exact trivial)
  refine ⟨Nat, fun i => i ≤ o.length ∧ ∀ j, j < i → (∀ k, k < j → o.getD j 0 ≤ o.getD k 0 → ¬ q.od (o.getD k 0) ∧ ¬ q.od (o.getD j 0)) ∧ ((o.take j).filter fun b => decide (o.getD j 0 ≤ b)).length ≤ q.pas.toNat, fun i => o.length - i, fun i => [(5, .int .i64 (i : Nat)), (6, .any), (7, .any)], fun _ => [], fun _ => [], 0, ⟨⟨by omega, fun j hj => by omega⟩, none, ?_⟩, ?_⟩
  · (repeat' ((conv => whnf); (first | (with_reducible first | apply spl | apply spl') <;> intro hc <;> try (exfalso; omega) | with_reducible refine iJ fun hc => ?_ | refine vcq (k := ?_) | refine dr 11 (k := ?_) | refine dr 8 (k := ?_) | refine dr 20 (k := ?_) | refine dr 9 (k := ?_)))); all_goals ((try conv => whnf); try with_reducible exact trivial)
  · rintro i ⟨hi, hall⟩
    have hti : (i : Int).toNat = i := Int.toNat_natCast i
    (repeat' ((conv => whnf); (first | (with_reducible first | apply spl | apply spl') <;> intro hc <;> try (exfalso; omega) | with_reducible refine iJ fun hc => ?_ | refine vcq (k := ?_) | refine dr 11 (k := ?_) | refine dr 8 (k := ?_) | refine dr 20 (k := ?_) | refine dr 9 (k := ?_)))); all_goals ((try conv => whnf); try with_reducible exact trivial)
    · have hil : i < o.length := by omega
      refine ⟨Nat, fun k => k ≤ i ∧ ∀ m, m < k → o.getD i 0 ≤ o.getD m 0 → ¬ q.od (o.getD m 0) ∧ ¬ q.od (o.getD i 0), fun k => i - k, fun k => [(7, .int .i64 (k : Nat)), (6, .int .i64 (((o.take k).filter fun b => decide (o.getD i 0 ≤ b)).length : Nat))], fun _ => [], fun _ => [], 0, ⟨⟨by omega, fun j hj => by omega⟩, none, ?_⟩, ?_⟩
      · (repeat' ((conv => whnf); (first | (with_reducible first | apply spl | apply spl') <;> intro hc <;> try (exfalso; omega) | with_reducible refine iJ fun hc => ?_ | refine vcq (k := ?_) | refine dr 11 (k := ?_) | refine dr 8 (k := ?_) | refine dr 20 (k := ?_) | refine dr 9 (k := ?_)))); all_goals ((try conv => whnf); try with_reducible exact trivial)
      · rintro k ⟨hk, hord⟩
        have htk : (k : Int).toNat = k := Int.toNat_natCast k
        have hle : ((o.take k).filter fun b => decide (o.getD i 0 ≤ b)).length ≤ k := by
          have := List.length_filter_le (fun b => decide (o.getD i 0 ≤ b)) (o.take k)
          rw [List.length_take] at this
          omega
        have hs : k < o.length → ((o.take (k + 1)).filter fun b => decide (o.getD i 0 ≤ b)).length = ((o.take k).filter fun b => decide (o.getD i 0 ≤ b)).length + if o.getD i 0 ≤ o.getD k 0 then 1 else 0 := fun g => by
          rw [List.take_succ_eq_append_getElem g, ← getD_get g, List.filter_append, List.length_append]
          by_cases h : o.getD i 0 ≤ o.getD k 0 <;> simp only [List.filter_cons, h, decide_true, decide_false, if_true, if_false, Bool.false_eq_true, List.filter_nil, List.length_singleton, List.length_nil]
        (repeat' ((conv => whnf); (first | (with_reducible first | apply spl | apply spl') <;> intro hc <;> try (exfalso; omega) | with_reducible refine iJ fun hc => ?_ | refine vcq (k := ?_) | refine dr 9 (k := ?_) | refine dr 20 (k := ?_)))); all_goals ((try conv => whnf); try with_reducible exact trivial)
        · rw [htk, hti] at hc
          have hki : k < o.length := by omega
          have hs := hs hki
          rw [if_neg (by omega)] at hs
          refine ⟨k + 1, ⟨⟨by omega, fun m hm => ?_⟩, by dsimp only; omega⟩, none, ?_⟩
          · rcases Nat.lt_or_eq_of_le (show m ≤ k by omega) with g | rfl
            · exact hord m g
            · omega
          · (repeat' ((conv => whnf); (first | (with_reducible first | apply spl | apply spl') <;> intro hc <;> try (exfalso; omega) | with_reducible refine iJ fun hc => ?_ | refine vcq (k := ?_) | refine dr 11 (k := ?_) | refine dr 8 (k := ?_) | refine dr 20 (k := ?_) | refine dr 9 (k := ?_)))); all_goals ((try conv => whnf); try with_reducible exact trivial)
        · rw [htk, hti] at hc
          have hki : k < o.length := by omega
          have hlk := hlt k hki
          have hli := hlt i hil
          have hs := hs hki
          rw [if_pos (by omega)] at hs
          clear hle
          rw [htk]
          (repeat' ((conv => whnf); (first | (with_reducible first | apply spl | apply spl') <;> intro hc <;> try (exfalso; omega) | with_reducible refine iJ fun hc => ?_ | refine vcq (k := ?_) | refine dr 9 (k := ?_) | refine dr 20 (k := ?_)))); all_goals ((try conv => whnf); try with_reducible exact trivial)
          rw [hti]
          (repeat' ((conv => whnf); (first | (with_reducible first | apply spl | apply spl') <;> intro hc <;> try (exfalso; omega) | with_reducible refine iJ fun hc => ?_ | refine vcq (k := ?_) | refine dr 9 (k := ?_) | refine dr 20 (k := ?_)))); all_goals ((try conv => whnf); try with_reducible exact trivial)
          · rw [Int.toNat_natCast, Int.toNat_natCast] at *
            refine ⟨_, rfl, ?_⟩
            (repeat' ((conv => whnf); (first | (with_reducible first | apply spl | apply spl') <;> intro hc <;> try (exfalso; omega) | with_reducible refine iJ fun hc => ?_ | refine vcq (k := ?_) | refine dr 11 (k := ?_) | refine dr 8 (k := ?_) | refine dr 20 (k := ?_) | refine dr 9 (k := ?_)))); all_goals ((try conv => whnf); try with_reducible exact trivial)
            refine ⟨fun h => ?_, trivial⟩
            have := (h i hil).1 k (by omega) (by omega)
            rcases (by assumption : (q.rq.getD (o.getD k 0) Rq.none).od = true ∨ (q.rq.getD (o.getD i 0) Rq.none).od = true) with g | g
            · exact this.1 g
            · exact this.2 g
          · rw [Int.toNat_natCast, Int.toNat_natCast] at *
            refine ⟨k + 1, ⟨⟨by omega, fun m hm => ?_⟩, by dsimp only; omega⟩, none, ?_⟩
            · rcases Nat.lt_or_eq_of_le (show m ≤ k by omega) with g | rfl
              · exact hord m g
              · intro _
                have hn2 := (by assumption : ¬((q.rq.getD (o.getD m 0) Rq.none).od = true ∨ (q.rq.getD (o.getD i 0) Rq.none).od = true))
                exact ⟨fun g => hn2 (.inl g), fun g => hn2 (.inr g)⟩
            · (repeat' ((conv => whnf); (first | (with_reducible first | apply spl | apply spl') <;> intro hc <;> try (exfalso; omega) | with_reducible refine iJ fun hc => ?_ | refine vcq (k := ?_) | refine dr 11 (k := ?_) | refine dr 8 (k := ?_) | refine dr 20 (k := ?_) | refine dr 9 (k := ?_)))); all_goals ((try conv => whnf); try with_reducible exact trivial)
        · have hki : k = i := by omega
          subst hki
          refine ⟨_, rfl, ?_⟩
          (repeat' ((conv => whnf); (first | (with_reducible first | apply spl | apply spl') <;> intro hc <;> try (exfalso; omega) | with_reducible refine iJ fun hc => ?_ | refine vcq (k := ?_) | refine dr 11 (k := ?_) | refine dr 8 (k := ?_) | refine dr 20 (k := ?_) | refine dr 9 (k := ?_)))); all_goals ((try conv => whnf); try with_reducible exact trivial)
          exact ⟨fun h => by have := (h k hil).2; omega, trivial⟩
        · have hki : k = i := by omega
          subst hki
          refine ⟨k + 1, ⟨⟨by omega, fun m hm => ?_⟩, by dsimp only; omega⟩, none, ?_⟩
          · rcases Nat.lt_or_eq_of_le (show m ≤ k by omega) with g | rfl
            · exact hall m g
            · exact ⟨hord, by omega⟩
          · (repeat' ((conv => whnf); (first | (with_reducible first | apply spl | apply spl') <;> intro hc <;> try (exfalso; omega) | with_reducible refine iJ fun hc => ?_ | refine vcq (k := ?_) | refine dr 11 (k := ?_) | refine dr 8 (k := ?_) | refine dr 20 (k := ?_) | refine dr 9 (k := ?_)))); all_goals ((try conv => whnf); try with_reducible exact trivial)
    · obtain rfl : i = o.length := by omega
      refine ⟨_, rfl, ?_⟩
      (repeat' ((conv => whnf); (first | (with_reducible first | apply spl | apply spl') <;> intro hc <;> try (exfalso; omega) | with_reducible refine iJ fun hc => ?_ | refine vcq (k := ?_) | refine dr 11 (k := ?_) | refine dr 8 (k := ?_) | refine dr 20 (k := ?_) | refine dr 9 (k := ?_)))); all_goals ((try conv => whnf); try with_reducible exact trivial)
      exact ⟨hall, trivial⟩
end Go.Proofs

namespace Go.Proofs
open Go Go.Sx
set_option maxRecDepth 100000
set_option maxHeartbeats 4000000
noncomputable def bndH (r : Nat) (s : Int) (a b : Nat) : List O := [.loop [.any, .any, .any, .ptr a 0, .any, .any, .any, .ptr b 0, .any, .any, .any, .any, .any, .any, .any, .any, .any, .any, .any, .any, .any, .any, .any, .any, .any, .any, .any, .any, .any, .any, .any, .any, .any, .any, .any] [26] (rfA Try.f21) (rfB Try.f21) .ready, .cells 3 [.int .i64 r], .cells 3 [.int .i64 s]]
theorem round21 (q : Qu) (hq : q.Ok) (r : Nat) (hr : r < q.rq.length) (o : List Nat) (_ : IsOrd q.rq.length o) (s : Int) : YCall Try.prog 0 [crs q o] (bndH r s 1 2) (fun v H' => v = .kb true ∧ H' = bndH r (max s (q.endOf true o r)) 1 2) := by
  have hn := hq.rql
  refine YCall.ent (K := fun v H' => v = .kb true ∧ ∃ x, H' = bndH r (max s (q.endOf true o r)) 1 2 ++ [.cells 91 x]) (ycall_exec Try.E_ok rfl rfl rfl ?_) ?_
  · (repeat' ((conv => whnf); (first | (with_reducible first | apply spl | apply spl') <;> intro hc <;> try (exfalso; omega) | with_reducible refine iJ fun hc => ?_ | refine vcq (k := ?_) | refine dr 6 (k := ?_) | refine dr 2014 (k := ?_) | refine dr 40603052005 (k := ?_)))); all_goals ((try conv => whnf); try with_reducible exact trivial)
    rw [Int.toNat_natCast]
    exact ⟨_, rfl⟩
  · rintro v H' ⟨rfl, x, rfl⟩
    refine ⟨_, _, ⟨rfl, rfl⟩, some [some 0, some 1, some 2], ?_⟩
    (repeat' ((conv => whnf); (first | (with_reducible first | apply spl | apply spl') <;> intro hc <;> try (exfalso; omega) | with_reducible refine iJ fun hc => ?_ | refine vcq (k := ?_) | refine dr 6 (k := ?_) | refine dr 2014 (k := ?_) | refine dr 40603052005 (k := ?_)))); all_goals ((try conv => whnf); try with_reducible exact trivial)
theorem next21 (q : Qu) (hq : q.Ok) (r : Nat) (hr : r < q.rq.length) : ∀ (m : Nat) (b : List Nat) (s : Int), b.length + m = q.rq.length → b.Nodup → (∀ x ∈ b, x < q.rq.length) →
    Sx.Callee Try.prog 68 [.osl 0 b.length, .ptr 1 0, .ptr 2 0, .ptr 3 0] (nxtH q b false ++ bndH r s 5 6) (fun v H' => v = .kb true ∧ H' = nxtH q b false ++ bndH r (q.maxE r s (dfsQ q.rq.length q.pas.toNat q.od m b)) 5 6)
  | 0, b, s, hl, hnd, hlt => by
    have hn := hq.rql
    have ho : IsOrd q.rq.length b := ⟨by omega, hnd, hlt⟩
    refine callee_ent Try.E_ok Try.func68 rfl (by kernel_rfl) ?_
    (repeat' ((conv => whnf); (first | (with_reducible first | apply spl | apply spl') <;> intro hc <;> try (exfalso; omega) | with_reducible refine iJ fun hc => ?_ | refine vcq (k := ?_) | refine dr 40603052005 (k := ?_)))); all_goals ((try conv => whnf); try with_reducible exact trivial)
    refine callee_view (ends32 q hq true b ho) ?_
    (repeat' ((conv => whnf); (first | (with_reducible first | apply spl | apply spl') <;> intro hc <;> try (exfalso; omega) | with_reducible refine iJ fun hc => ?_ | refine vcq (k := ?_) | refine dr 6 (k := ?_) | refine dr 2014 (k := ?_) | refine dr 40603052005 (k := ?_)))); all_goals ((try conv => whnf); try with_reducible exact trivial)
    rintro _ rfl
    (repeat' ((conv => whnf); (first | (with_reducible first | apply spl | apply spl') <;> intro hc <;> try (exfalso; omega) | with_reducible refine iJ fun hc => ?_ | refine vcq (k := ?_) | refine dr 6 (k := ?_) | refine dr 2014 (k := ?_) | refine dr 40603052005 (k := ?_)))); all_goals ((try conv => whnf); try with_reducible exact trivial)
    refine ycall_frz rfl (by simp [app_eq]) ?_
    refine ycall_frame [4, 5, 6] (round21 q hq r hr b ho s) rfl rfl ?_ ?_
    · (repeat' ((conv => whnf); (first | (with_reducible first | apply spl | apply spl') <;> intro hc <;> try (exfalso; omega) | with_reducible refine iJ fun hc => ?_ | refine vcq (k := ?_) | refine dr 6 (k := ?_) | refine dr 2014 (k := ?_) | refine dr 40603052005 (k := ?_)))); all_goals ((try conv => whnf); try with_reducible exact trivial)
    · rintro _ _ ⟨rfl, rfl⟩
      (repeat' ((conv => whnf); (first | (with_reducible first | apply spl | apply spl') <;> intro hc <;> try (exfalso; omega) | with_reducible refine iJ fun hc => ?_ | refine vcq (k := ?_) | refine dr 6 (k := ?_) | refine dr 2014 (k := ?_) | refine dr 40603052005 (k := ?_)))); all_goals ((try conv => whnf); try with_reducible exact trivial)
      refine ⟨_, _, ⟨rfl, rfl⟩, some [some 0, some 1, some 2, some 3, some 4, some 5, some 6], ?_⟩
      (repeat' ((conv => whnf); (first | (with_reducible first | apply spl | apply spl') <;> intro hc <;> try (exfalso; omega) | with_reducible refine iJ fun hc => ?_ | refine vcq (k := ?_) | refine dr 6 (k := ?_) | refine dr 2014 (k := ?_) | refine dr 40603052005 (k := ?_)))); all_goals ((try conv => whnf); try with_reducible exact trivial)
  | m + 1, b, s, hl, hnd, hlt => by
    have ih := next21 q hq r hr m
    have hn := hq.rql
    refine callee_ent Try.E_ok Try.func68 rfl (by kernel_rfl) ?_
    (repeat' ((conv => whnf); (first | (with_reducible first | apply spl | apply spl') <;> intro hc <;> try (exfalso; omega) | with_reducible refine iJ fun hc => ?_ | refine vcq (k := ?_) | refine dr 6 (k := ?_) | refine dr 2014 (k := ?_) | refine dr 40603052005 (k := ?_)))); all_goals ((try conv => whnf); try with_reducible exact trivial)
    refine ⟨Nat × Int, fun p => p.1 ≤ q.rq.length ∧ p.2 = q.maxE r s (dfsP q.rq.length q.pas.toNat q.od m b p.1), fun p => q.rq.length - p.1, fun p => [(29, .int .i64 (p.1 : Nat))], fun p => [(6, .cells 3 [.int .i64 p.2])], fun _ => [], (0, s), ⟨⟨by dsimp only; omega, rfl⟩, none, ?_⟩, ?_⟩
    · (repeat' ((conv => whnf); (first | (with_reducible first | apply spl | apply spl') <;> intro hc <;> try (exfalso; omega) | with_reducible refine iJ fun hc => ?_ | refine vcq (k := ?_) | refine dr 6 (k := ?_) | refine dr 2014 (k := ?_) | refine dr 40603052005 (k := ?_)))); all_goals ((try conv => whnf); try with_reducible exact trivial)
      rfl
    · rintro ⟨i, t⟩ ⟨hi, ht⟩
      dsimp only at hi ht
      have hti : (i : Int).toNat = i := Int.toNat_natCast i
      (repeat' ((conv => whnf); (first | (with_reducible first | apply spl | apply spl') <;> intro hc <;> try (exfalso; omega) | with_reducible refine iJ fun hc => ?_ | refine vcq (k := ?_) | refine dr 6 (k := ?_) | refine dr 2014 (k := ?_) | refine dr 40603052005 (k := ?_)))); all_goals ((try conv => whnf); try with_reducible exact trivial)
      · refine ⟨Nat, fun j => j ≤ b.length ∧ i ∉ b.take j, fun j => b.length - j, fun j => [(34, .int .i64 (j : Nat))], fun _ => [], fun _ => [], 0, ⟨⟨by omega, by simp⟩, none, ?_⟩, ?_⟩
        · (repeat' ((conv => whnf); (first | (with_reducible first | apply spl | apply spl') <;> intro hc <;> try (exfalso; omega) | with_reducible refine iJ fun hc => ?_ | refine vcq (k := ?_) | refine dr 6 (k := ?_) | refine dr 2014 (k := ?_) | refine dr 40603052005 (k := ?_)))); all_goals ((try conv => whnf); try with_reducible exact trivial)
        · rintro j ⟨hj, hjm⟩
          have htj : (j : Int).toNat = j := Int.toNat_natCast j
          (repeat' ((conv => whnf); (first | (with_reducible first | apply spl | apply spl') <;> intro hc <;> try (exfalso; omega) | with_reducible refine iJ fun hc => ?_ | refine vcq (k := ?_) | refine dr 2014 (k := ?_)))); all_goals ((try conv => whnf); try with_reducible exact trivial)
          · rw [htj] at hc
            have hjb : j < b.length := by omega
            have hin : i ∈ b := by
              rw [show i = b.getD j 0 by omega, getD_get hjb]
              exact List.getElem_mem hjb
            have hil : i < q.rq.length := hlt i hin
            refine ⟨(i + 1, t), ⟨⟨by dsimp only; omega, by dsimp only; rw [dfsP_in hin]; exact ht⟩, by dsimp only; omega⟩, none, ?_⟩
            (repeat' ((conv => whnf); (first | (with_reducible first | apply spl | apply spl') <;> intro hc <;> try (exfalso; omega) | with_reducible refine iJ fun hc => ?_ | refine vcq (k := ?_) | refine dr 6 (k := ?_) | refine dr 2014 (k := ?_) | refine dr 40603052005 (k := ?_)))); all_goals ((try conv => whnf); try with_reducible exact trivial)
          · rw [htj] at hc
            have hjb : j < b.length := by omega
            refine ⟨j + 1, ⟨⟨by omega, ?_⟩, by dsimp only; omega⟩, none, ?_⟩
            · rw [List.take_succ_eq_append_getElem hjb, ← getD_get hjb, List.mem_append, List.mem_singleton]
              rintro (g | g)
              · exact hjm g
              · omega
            · (repeat' ((conv => whnf); (first | (with_reducible first | apply spl | apply spl') <;> intro hc <;> try (exfalso; omega) | with_reducible refine iJ fun hc => ?_ | refine vcq (k := ?_) | refine dr 6 (k := ?_) | refine dr 2014 (k := ?_) | refine dr 40603052005 (k := ?_)))); all_goals ((try conv => whnf); try with_reducible exact trivial)
          · obtain rfl : j = b.length := by omega
            rw [List.take_length] at hjm
            have hil : i < q.rq.length := by omega
            by_cases hf : FitsQ q.rq.length q.pas.toNat q.od b i
            · refine pcall_view (fitsT q hq b (by omega) i hil hf) ?_ ?_
              · (repeat' ((conv => whnf); (first | (with_reducible first | apply spl | apply spl') <;> intro hc <;> try (exfalso; omega) | with_reducible refine iJ fun hc => ?_ | refine vcq (k := ?_) | refine dr 6 (k := ?_) | refine dr 2014 (k := ?_) | refine dr 40603052005 (k := ?_)))); all_goals ((try conv => whnf); try with_reducible exact trivial)
              · (repeat' ((conv => whnf); (first | (with_reducible first | apply spl | apply spl') <;> intro hc <;> try (exfalso; omega) | with_reducible refine iJ fun hc => ?_ | refine vcq (k := ?_) | refine dr 2014 (k := ?_)))); all_goals ((try conv => whnf); try with_reducible exact trivial)
                have ⟨k1, k2, k3⟩ := snoc_ok hl hnd hlt hil hjm
                have hlen : (b ++ [i]).length = b.length + 1 := by simp
                refine callee_frame [8, 1, 2, 3, 4, 5, 6] (ih (b ++ [i]) t k1 k2 k3) rfl ?_ ?_
                · (repeat' ((conv => whnf); (first | (with_reducible first | apply spl | apply spl') <;> intro hc <;> try (exfalso; omega) | with_reducible refine iJ fun hc => ?_ | refine vcq (k := ?_) | refine dr 6 (k := ?_) | refine dr 2014 (k := ?_) | refine dr 40603052005 (k := ?_)))); all_goals ((try conv => whnf); try with_reducible exact trivial)
                  refine ⟨rowOf_snoc rfl (fun _ _ => rfl), ?_⟩
                  (repeat' ((conv => whnf); (first | (with_reducible first | apply spl | apply spl') <;> intro hc <;> try (exfalso; omega) | with_reducible refine iJ fun hc => ?_ | refine vcq (k := ?_) | refine dr 6 (k := ?_) | refine dr 2014 (k := ?_) | refine dr 40603052005 (k := ?_)))); all_goals ((try conv => whnf); try with_reducible exact trivial)
                · rintro _ _ ⟨rfl, rfl⟩
                  (repeat' ((conv => whnf); (first | (with_reducible first | apply spl | apply spl') <;> intro hc <;> try (exfalso; omega) | with_reducible refine iJ fun hc => ?_ | refine vcq (k := ?_) | refine dr 6 (k := ?_) | refine dr 2014 (k := ?_) | refine dr 40603052005 (k := ?_)))); all_goals ((try conv => whnf); try with_reducible exact trivial)
                  refine ⟨(i + 1, q.maxE r t (dfsQ q.rq.length q.pas.toNat q.od m (b ++ [i]))), ⟨⟨by dsimp only; omega, by dsimp only; rw [ht, dfsP_fit hjm hf]; exact List.foldl_append.symm⟩, by dsimp only; omega⟩, some [some 0, some 1, some 2, some 3, some 4, some 5, some 6], ?_⟩
                  (repeat' ((conv => whnf); (first | (with_reducible first | apply spl | apply spl') <;> intro hc <;> try (exfalso; omega) | with_reducible refine iJ fun hc => ?_ | refine vcq (k := ?_) | refine dr 6 (k := ?_) | refine dr 2014 (k := ?_) | refine dr 40603052005 (k := ?_)))); all_goals ((try conv => whnf); try with_reducible exact trivial)
            · refine pcall_view (fitsF q hq b (by omega) i hil hf) ?_ ?_
              · (repeat' ((conv => whnf); (first | (with_reducible first | apply spl | apply spl') <;> intro hc <;> try (exfalso; omega) | with_reducible refine iJ fun hc => ?_ | refine vcq (k := ?_) | refine dr 6 (k := ?_) | refine dr 2014 (k := ?_) | refine dr 40603052005 (k := ?_)))); all_goals ((try conv => whnf); try with_reducible exact trivial)
              · (repeat' ((conv => whnf); (first | (with_reducible first | apply spl | apply spl') <;> intro hc <;> try (exfalso; omega) | with_reducible refine iJ fun hc => ?_ | refine vcq (k := ?_) | refine dr 2014 (k := ?_)))); all_goals ((try conv => whnf); try with_reducible exact trivial)
                refine ⟨(i + 1, t), ⟨⟨by dsimp only; omega, by dsimp only; rw [dfsP_no hf]; exact ht⟩, by dsimp only; omega⟩, none, ?_⟩
                (repeat' ((conv => whnf); (first | (with_reducible first | apply spl | apply spl') <;> intro hc <;> try (exfalso; omega) | with_reducible refine iJ fun hc => ?_ | refine vcq (k := ?_) | refine dr 6 (k := ?_) | refine dr 2014 (k := ?_) | refine dr 40603052005 (k := ?_)))); all_goals ((try conv => whnf); try with_reducible exact trivial)
      · obtain rfl : i = q.rq.length := by omega
        subst ht
        refine ⟨_, _, ⟨rfl, rfl⟩, some [some 0, some 1, some 2, some 3, some 4, some 5, some 6], ?_⟩
        (repeat' ((conv => whnf); (first | (with_reducible first | apply spl | apply spl') <;> intro hc <;> try (exfalso; omega) | with_reducible refine iJ fun hc => ?_ | refine vcq (k := ?_) | refine dr 6 (k := ?_) | refine dr 2014 (k := ?_) | refine dr 40603052005 (k := ?_)))); all_goals ((try conv => whnf); try with_reducible exact trivial)
theorem next21N (q : Qu) (hq : q.Ok) (r : Nat) (hr : r < q.rq.length) : ∀ (m : Nat) (b : List Nat) (s : Int), b.length + m = q.rq.length → b.Nodup → (∀ x ∈ b, x < q.rq.length) →
    Sx.Callee Try.prog 68 [.osl 0 b.length, .ptr 1 0, .ptr 2 0, .ptr 3 0] (nxtH q b true ++ bndH r s 5 6) (fun v H' => v = .kb true ∧ H' = nxtH q b true ++ bndH r (q.maxE r s (dfsQ q.rq.length q.pas.toNat q.od m b)) 5 6)
  | 0, b, s, hl, hnd, hlt => by
    have hn := hq.rql
    have ho : IsOrd q.rq.length b := ⟨by omega, hnd, hlt⟩
    refine callee_ent Try.E_ok Try.func68 rfl (by kernel_rfl) ?_
    (repeat' ((conv => whnf); (first | (with_reducible first | apply spl | apply spl') <;> intro hc <;> try (exfalso; omega) | with_reducible refine iJ fun hc => ?_ | refine vcq (k := ?_) | refine dr 40603052005 (k := ?_)))); all_goals ((try conv => whnf); try with_reducible exact trivial)
    refine callee_view (ends32 q hq true b ho) ?_
    (repeat' ((conv => whnf); (first | (with_reducible first | apply spl | apply spl') <;> intro hc <;> try (exfalso; omega) | with_reducible refine iJ fun hc => ?_ | refine vcq (k := ?_) | refine dr 6 (k := ?_) | refine dr 2014 (k := ?_) | refine dr 40603052005 (k := ?_)))); all_goals ((try conv => whnf); try with_reducible exact trivial)
    rintro _ rfl
    (repeat' ((conv => whnf); (first | (with_reducible first | apply spl | apply spl') <;> intro hc <;> try (exfalso; omega) | with_reducible refine iJ fun hc => ?_ | refine vcq (k := ?_) | refine dr 6 (k := ?_) | refine dr 2014 (k := ?_) | refine dr 40603052005 (k := ?_)))); all_goals ((try conv => whnf); try with_reducible exact trivial)
    refine ycall_frz rfl (by simp [app_eq]) ?_
    refine ycall_frame [4, 5, 6] (round21 q hq r hr b ho s) rfl rfl ?_ ?_
    · (repeat' ((conv => whnf); (first | (with_reducible first | apply spl | apply spl') <;> intro hc <;> try (exfalso; omega) | with_reducible refine iJ fun hc => ?_ | refine vcq (k := ?_) | refine dr 6 (k := ?_) | refine dr 2014 (k := ?_) | refine dr 40603052005 (k := ?_)))); all_goals ((try conv => whnf); try with_reducible exact trivial)
    · rintro _ _ ⟨rfl, rfl⟩
      (repeat' ((conv => whnf); (first | (with_reducible first | apply spl | apply spl') <;> intro hc <;> try (exfalso; omega) | with_reducible refine iJ fun hc => ?_ | refine vcq (k := ?_) | refine dr 6 (k := ?_) | refine dr 2014 (k := ?_) | refine dr 40603052005 (k := ?_)))); all_goals ((try conv => whnf); try with_reducible exact trivial)
      refine ⟨_, _, ⟨rfl, rfl⟩, some [some 0, some 1, some 2, some 3, some 4, some 5, some 6], ?_⟩
      (repeat' ((conv => whnf); (first | (with_reducible first | apply spl | apply spl') <;> intro hc <;> try (exfalso; omega) | with_reducible refine iJ fun hc => ?_ | refine vcq (k := ?_) | refine dr 6 (k := ?_) | refine dr 2014 (k := ?_) | refine dr 40603052005 (k := ?_)))); all_goals ((try conv => whnf); try with_reducible exact trivial)
  | m + 1, b, s, hl, hnd, hlt => by
    have ih := next21 q hq r hr m
    have hn := hq.rql
    refine callee_ent Try.E_ok Try.func68 rfl (by kernel_rfl) ?_
    (repeat' ((conv => whnf); (first | (with_reducible first | apply spl | apply spl') <;> intro hc <;> try (exfalso; omega) | with_reducible refine iJ fun hc => ?_ | refine vcq (k := ?_) | refine dr 6 (k := ?_) | refine dr 2014 (k := ?_) | refine dr 40603052005 (k := ?_)))); all_goals ((try conv => whnf); try with_reducible exact trivial)
    refine ⟨Nat × Int, fun p => p.1 ≤ q.rq.length ∧ p.2 = q.maxE r s (dfsP q.rq.length q.pas.toNat q.od m b p.1), fun p => q.rq.length - p.1, fun p => [(29, .int .i64 (p.1 : Nat))], fun p => [(6, .cells 3 [.int .i64 p.2])], fun _ => [], (0, s), ⟨⟨by dsimp only; omega, rfl⟩, none, ?_⟩, ?_⟩
    · (repeat' ((conv => whnf); (first | (with_reducible first | apply spl | apply spl') <;> intro hc <;> try (exfalso; omega) | with_reducible refine iJ fun hc => ?_ | refine vcq (k := ?_) | refine dr 6 (k := ?_) | refine dr 2014 (k := ?_) | refine dr 40603052005 (k := ?_)))); all_goals ((try conv => whnf); try with_reducible exact trivial)
      rfl
    · rintro ⟨i, t⟩ ⟨hi, ht⟩
      dsimp only at hi ht
      have hti : (i : Int).toNat = i := Int.toNat_natCast i
      (repeat' ((conv => whnf); (first | (with_reducible first | apply spl | apply spl') <;> intro hc <;> try (exfalso; omega) | with_reducible refine iJ fun hc => ?_ | refine vcq (k := ?_) | refine dr 6 (k := ?_) | refine dr 2014 (k := ?_) | refine dr 40603052005 (k := ?_)))); all_goals ((try conv => whnf); try with_reducible exact trivial)
      · refine ⟨Nat, fun j => j ≤ b.length ∧ i ∉ b.take j, fun j => b.length - j, fun j => [(34, .int .i64 (j : Nat))], fun _ => [], fun _ => [], 0, ⟨⟨by omega, by simp⟩, none, ?_⟩, ?_⟩
        · (repeat' ((conv => whnf); (first | (with_reducible first | apply spl | apply spl') <;> intro hc <;> try (exfalso; omega) | with_reducible refine iJ fun hc => ?_ | refine vcq (k := ?_) | refine dr 6 (k := ?_) | refine dr 2014 (k := ?_) | refine dr 40603052005 (k := ?_)))); all_goals ((try conv => whnf); try with_reducible exact trivial)
        · rintro j ⟨hj, hjm⟩
          have htj : (j : Int).toNat = j := Int.toNat_natCast j
          (repeat' ((conv => whnf); (first | (with_reducible first | apply spl | apply spl') <;> intro hc <;> try (exfalso; omega) | with_reducible refine iJ fun hc => ?_ | refine vcq (k := ?_) | refine dr 2014 (k := ?_)))); all_goals ((try conv => whnf); try with_reducible exact trivial)
          · rw [htj] at hc
            have hjb : j < b.length := by omega
            have hin : i ∈ b := by
              rw [show i = b.getD j 0 by omega, getD_get hjb]
              exact List.getElem_mem hjb
            have hil : i < q.rq.length := hlt i hin
            refine ⟨(i + 1, t), ⟨⟨by dsimp only; omega, by dsimp only; rw [dfsP_in hin]; exact ht⟩, by dsimp only; omega⟩, none, ?_⟩
            (repeat' ((conv => whnf); (first | (with_reducible first | apply spl | apply spl') <;> intro hc <;> try (exfalso; omega) | with_reducible refine iJ fun hc => ?_ | refine vcq (k := ?_) | refine dr 6 (k := ?_) | refine dr 2014 (k := ?_) | refine dr 40603052005 (k := ?_)))); all_goals ((try conv => whnf); try with_reducible exact trivial)
          · rw [htj] at hc
            have hjb : j < b.length := by omega
            refine ⟨j + 1, ⟨⟨by omega, ?_⟩, by dsimp only; omega⟩, none, ?_⟩
            · rw [List.take_succ_eq_append_getElem hjb, ← getD_get hjb, List.mem_append, List.mem_singleton]
              rintro (g | g)
              · exact hjm g
              · omega
            · (repeat' ((conv => whnf); (first | (with_reducible first | apply spl | apply spl') <;> intro hc <;> try (exfalso; omega) | with_reducible refine iJ fun hc => ?_ | refine vcq (k := ?_) | refine dr 6 (k := ?_) | refine dr 2014 (k := ?_) | refine dr 40603052005 (k := ?_)))); all_goals ((try conv => whnf); try with_reducible exact trivial)
          · obtain rfl : j = b.length := by omega
            rw [List.take_length] at hjm
            have hil : i < q.rq.length := by omega
            by_cases hf : FitsQ q.rq.length q.pas.toNat q.od b i
            · refine pcall_view (fitsT q hq b (by omega) i hil hf) ?_ ?_
              · (repeat' ((conv => whnf); (first | (with_reducible first | apply spl | apply spl') <;> intro hc <;> try (exfalso; omega) | with_reducible refine iJ fun hc => ?_ | refine vcq (k := ?_) | refine dr 6 (k := ?_) | refine dr 2014 (k := ?_) | refine dr 40603052005 (k := ?_)))); all_goals ((try conv => whnf); try with_reducible exact trivial)
              · (repeat' ((conv => whnf); (first | (with_reducible first | apply spl | apply spl') <;> intro hc <;> try (exfalso; omega) | with_reducible refine iJ fun hc => ?_ | refine vcq (k := ?_) | refine dr 2014 (k := ?_)))); all_goals ((try conv => whnf); try with_reducible exact trivial)
                have ⟨k1, k2, k3⟩ := snoc_ok hl hnd hlt hil hjm
                have hlen : (b ++ [i]).length = b.length + 1 := by simp
                refine callee_frame [8, 1, 2, 3, 4, 5, 6] (ih (b ++ [i]) t k1 k2 k3) rfl ?_ ?_
                · (repeat' ((conv => whnf); (first | (with_reducible first | apply spl | apply spl') <;> intro hc <;> try (exfalso; omega) | with_reducible refine iJ fun hc => ?_ | refine vcq (k := ?_) | refine dr 6 (k := ?_) | refine dr 2014 (k := ?_) | refine dr 40603052005 (k := ?_)))); all_goals ((try conv => whnf); try with_reducible exact trivial)
                  refine ⟨rowOf_snoc rfl (fun _ _ => rfl), ?_⟩
                  (repeat' ((conv => whnf); (first | (with_reducible first | apply spl | apply spl') <;> intro hc <;> try (exfalso; omega) | with_reducible refine iJ fun hc => ?_ | refine vcq (k := ?_) | refine dr 6 (k := ?_) | refine dr 2014 (k := ?_) | refine dr 40603052005 (k := ?_)))); all_goals ((try conv => whnf); try with_reducible exact trivial)
                · rintro _ _ ⟨rfl, rfl⟩
                  (repeat' ((conv => whnf); (first | (with_reducible first | apply spl | apply spl') <;> intro hc <;> try (exfalso; omega) | with_reducible refine iJ fun hc => ?_ | refine vcq (k := ?_) | refine dr 6 (k := ?_) | refine dr 2014 (k := ?_) | refine dr 40603052005 (k := ?_)))); all_goals ((try conv => whnf); try with_reducible exact trivial)
                  refine ⟨(i + 1, q.maxE r t (dfsQ q.rq.length q.pas.toNat q.od m (b ++ [i]))), ⟨⟨by dsimp only; omega, by dsimp only; rw [ht, dfsP_fit hjm hf]; exact List.foldl_append.symm⟩, by dsimp only; omega⟩, some [some 0, some 1, some 2, some 3, some 4, some 5, some 6], ?_⟩
                  (repeat' ((conv => whnf); (first | (with_reducible first | apply spl | apply spl') <;> intro hc <;> try (exfalso; omega) | with_reducible refine iJ fun hc => ?_ | refine vcq (k := ?_) | refine dr 6 (k := ?_) | refine dr 2014 (k := ?_) | refine dr 40603052005 (k := ?_)))); all_goals ((try conv => whnf); try with_reducible exact trivial)
            · refine pcall_view (fitsF q hq b (by omega) i hil hf) ?_ ?_
              · (repeat' ((conv => whnf); (first | (with_reducible first | apply spl | apply spl') <;> intro hc <;> try (exfalso; omega) | with_reducible refine iJ fun hc => ?_ | refine vcq (k := ?_) | refine dr 6 (k := ?_) | refine dr 2014 (k := ?_) | refine dr 40603052005 (k := ?_)))); all_goals ((try conv => whnf); try with_reducible exact trivial)
              · (repeat' ((conv => whnf); (first | (with_reducible first | apply spl | apply spl') <;> intro hc <;> try (exfalso; omega) | with_reducible refine iJ fun hc => ?_ | refine vcq (k := ?_) | refine dr 2014 (k := ?_)))); all_goals ((try conv => whnf); try with_reducible exact trivial)
                refine ⟨(i + 1, t), ⟨⟨by dsimp only; omega, by dsimp only; rw [dfsP_no hf]; exact ht⟩, by dsimp only; omega⟩, none, ?_⟩
                (repeat' ((conv => whnf); (first | (with_reducible first | apply spl | apply spl') <;> intro hc <;> try (exfalso; omega) | with_reducible refine iJ fun hc => ?_ | refine vcq (k := ?_) | refine dr 6 (k := ?_) | refine dr 2014 (k := ?_) | refine dr 40603052005 (k := ?_)))); all_goals ((try conv => whnf); try with_reducible exact trivial)
      · obtain rfl : i = q.rq.length := by omega
        subst ht
        refine ⟨_, _, ⟨rfl, rfl⟩, some [some 0, some 1, some 2, some 3, some 4, some 5, some 6], ?_⟩
        (repeat' ((conv => whnf); (first | (with_reducible first | apply spl | apply spl') <;> intro hc <;> try (exfalso; omega) | with_reducible refine iJ fun hc => ?_ | refine vcq (k := ?_) | refine dr 6 (k := ?_) | refine dr 2014 (k := ?_) | refine dr 40603052005 (k := ?_)))); all_goals ((try conv => whnf); try with_reducible exact trivial)
end Go.Proofs

namespace Go.Proofs
open Go Go.Sx
set_option maxRecDepth 100000
set_option maxHeartbeats 40000000
theorem Order18 (q : Qu) (hq : q.Ok) : PureC Try.prog 18 true [.agg q.c] (· = .tup [.sl 1 (q.best q.pas).1.length (rowOf natC 0 (q.best q.pas).1), .int .i64 (q.best q.pas).2.1, .int .i64 (q.best q.pas).2.2, .int .i64 0]) := by
  refine pureC_of_exec Try.E_ok Try.func18 rfl (by kernel_rfl) ?_
  (repeat' ((conv => whnf); (first | (with_reducible first | apply spl | apply spl') <;> intro hc <;> try (exfalso; omega) | with_reducible refine iJ fun hc => ?_ | refine vcq (k := ?_) | fail))); all_goals ((try conv => whnf); try with_reducible exact trivial)
  refine callee_fo (Check43 q hq) rfl ?_
  rintro _ rfl
  (repeat' ((conv => whnf); (first | (with_reducible first | apply spl | apply spl') <;> intro hc <;> try (exfalso; omega) | with_reducible refine iJ fun hc => ?_ | refine vcq (k := ?_) | fail))); all_goals ((try conv => whnf); try with_reducible exact trivial)
  refine callee_fo (best44 q hq) rfl ?_
  rintro _ rfl
  (repeat' ((conv => whnf); (first | (with_reducible first | apply spl | apply spl') <;> intro hc <;> try (exfalso; omega) | with_reducible refine iJ fun hc => ?_ | refine vcq (k := ?_) | fail))); all_goals ((try conv => whnf); try with_reducible exact trivial)
  refine ⟨_, rfl, ?_⟩
  (repeat' ((conv => whnf); (first | (with_reducible first | apply spl | apply spl') <;> intro hc <;> try (exfalso; omega) | with_reducible refine iJ fun hc => ?_ | refine vcq (k := ?_) | fail))); all_goals ((try conv => whnf); try with_reducible exact trivial)
theorem Bound21 (q : Qu) (hq : q.Ok) (r : Nat) (hr : r < q.rq.length) : PureC Try.prog 21 false [.agg q.c, .int .i64 r] (· = .tup [.int .i64 (q.bound q.pas r), .int .i64 0]) := by
  have hn := hq.rql
  have hnx := next21N q hq r hr q.rq.length [] 0 (by simp) List.nodup_nil (by simp)
  refine pureC_of_exec Try.E_ok Try.func21 rfl (by kernel_rfl) ?_
  (repeat' ((conv => whnf); (first | (with_reducible first | apply spl | apply spl') <;> intro hc <;> try (exfalso; omega) | with_reducible refine iJ fun hc => ?_ | refine vcq (k := ?_) | fail))); all_goals ((try conv => whnf); try with_reducible exact trivial)
  refine callee_fo (Check43 q hq) rfl ?_
  rintro _ rfl
  (repeat' ((conv => whnf); (first | (with_reducible first | apply spl | apply spl') <;> intro hc <;> try (exfalso; omega) | with_reducible refine iJ fun hc => ?_ | refine vcq (k := ?_) | refine dr 7 (k := ?_)))); all_goals ((try conv => whnf); try with_reducible exact trivial)
  refine callee_exec Try.E_ok Try.func46 rfl (by kernel_rfl) ?_
  (repeat' ((conv => whnf); (first | (with_reducible first | apply spl | apply spl') <;> intro hc <;> try (exfalso; omega) | with_reducible refine iJ fun hc => ?_ | refine vcq (k := ?_) | fail))); all_goals ((try conv => whnf); try with_reducible exact trivial)
  refine callee_nil 3 1 (rowOf natC 0 []) ?_
  (repeat' ((conv => whnf); (first | (with_reducible first | apply spl | apply spl') <;> intro hc <;> try (exfalso; omega) | with_reducible refine iJ fun hc => ?_ | refine vcq (k := ?_) | fail))); all_goals ((try conv => whnf); try with_reducible exact trivial)
  refine ⟨?_, ?_⟩
  · (repeat' ((conv => whnf); (first | (with_reducible first | apply spl | apply spl') <;> intro hc <;> try (exfalso; omega) | with_reducible refine iJ fun hc => ?_ | refine vcq (k := ?_) | fail))); all_goals ((try conv => whnf); try with_reducible exact trivial)
  · refine callee_frame [7, 4, 5, 6, 3, 1, 2] hnx rfl ?_ ?_
    · (repeat' ((conv => whnf); (first | (with_reducible first | apply spl | apply spl') <;> intro hc <;> try (exfalso; omega) | with_reducible refine iJ fun hc => ?_ | refine vcq (k := ?_) | fail))); all_goals ((try conv => whnf); try with_reducible exact trivial)
    · rintro _ _ ⟨rfl, rfl⟩
      (repeat' ((conv => whnf); (first | (with_reducible first | apply spl | apply spl') <;> intro hc <;> try (exfalso; omega) | with_reducible refine iJ fun hc => ?_ | refine vcq (k := ?_) | fail))); all_goals ((try conv => whnf); try with_reducible exact trivial)
      have e : q.maxE r 0 (dfsQ q.rq.length q.pas.toNat q.od q.rq.length []) = q.bound q.pas r := rfl
      rw [e]
      refine ⟨_, rfl, ?_⟩
      (repeat' ((conv => whnf); (first | (with_reducible first | apply spl | apply spl') <;> intro hc <;> try (exfalso; omega) | with_reducible refine iJ fun hc => ?_ | refine vcq (k := ?_) | fail))); all_goals ((try conv => whnf); try with_reducible exact trivial)
theorem best_any {q : Qu} (p : Int) : 0 ≤ (q.best p).2.1 ∧ (q.best p).2.1 ≤ q.rq.length := by
  rw [(Qu.best_ok q p).2.1]
  exact q.lateTo_bnd _ _
def Qu.wp (q : Qu) (p : Int) : Qu := { q with pas := p }
theorem Qu.Ok.wp {q : Qu} (h : q.Ok) {p : Int} (hp : 0 ≤ p ∧ p ≤ 6) : (q.wp p).Ok := ⟨h.d, h.cyl, h.skl, h.rql, hp, h.sk, h.rq, h.asc⟩
theorem Qu.stQ_wp (q : Qu) (p : Int) (hi : Bool) (o : List Nat) : ∀ k, (q.wp p).stQ hi o k = q.stQ hi o k
  | 0 => rfl
  | k + 1 => by
    unfold Qu.stQ
    rw [Qu.stQ_wp q p hi o k]
    rfl
theorem Qu.endOf_wp (q : Qu) (p : Int) (hi : Bool) (o : List Nat) (r : Nat) : (q.wp p).endOf hi o r = q.endOf hi o r := by
  unfold Qu.endOf
  rw [Qu.stQ_wp]
theorem Qu.isLate_wp (q : Qu) (p : Int) (o : List Nat) (r : Nat) : (q.wp p).isLate o r ↔ q.isLate o r := by
  unfold Qu.isLate
  rw [Qu.endOf_wp]
  exact Iff.rfl
theorem Qu.lateTo_wp (q : Qu) (p : Int) (o : List Nat) : ∀ k, (q.wp p).lateTo o k = q.lateTo o k
  | 0 => rfl
  | k + 1 => by
    unfold Qu.lateTo
    rw [Qu.lateTo_wp q p o k]
    by_cases h : q.isLate o k
    · rw [if_pos h, if_pos ((q.isLate_wp p o k).2 h)]
    · rw [if_neg h, if_neg (fun g => h ((q.isLate_wp p o k).1 g))]
theorem Qu.lateC_wp (q : Qu) (p : Int) (o : List Nat) : (q.wp p).lateC o = q.lateC o := q.lateTo_wp p o q.n
theorem Qu.endC_wp (q : Qu) (p : Int) (o : List Nat) : (q.wp p).endC o = q.endC o := by unfold Qu.endC; rw [Qu.stQ_wp]
theorem Qu.stepB_wp (q : Qu) (p : Int) : (q.wp p).stepB = q.stepB := by
  funext s o
  unfold Qu.stepB
  rw [Qu.lateC_wp, Qu.endC_wp]
theorem Qu.best_wp (q : Qu) (p p' : Int) : (q.wp p).best p' = q.best p' := by
  unfold Qu.best Qu.foldB
  rw [Qu.stepB_wp]
  rfl
theorem Tight23 (q : Qu) (hq : q.Ok) : PureC Try.prog 23 false [.agg q.c] (fun r => ∃ t : Nat, (t ≤ 6 ∧ q.late t = q.late 6 ∧ ∀ p : Nat, p < t → q.late p ≠ q.late 6) ∧ r = .tup [.int .i64 t, .int .i64 0]) := by
  have hbw : ∀ p : Int, (q.best (q.wp p).pas).2.1 = q.late p := fun _ => rfl
  refine pureC_of_exec Try.E_ok Try.func23 rfl (by kernel_rfl) ?_
  (repeat' ((conv => whnf); (first | (with_reducible first | apply spl | apply spl') <;> intro hc <;> try (exfalso; omega) | with_reducible refine iJ fun hc => ?_ | refine vcq (k := ?_) | fail))); all_goals ((try conv => whnf); try with_reducible exact trivial)
  refine callee_fo (Check43 q hq) rfl ?_
  rintro _ rfl
  (repeat' ((conv => whnf); (first | (with_reducible first | apply spl | apply spl') <;> intro hc <;> try (exfalso; omega) | with_reducible refine iJ fun hc => ?_ | refine vcq (k := ?_) | fail))); all_goals ((try conv => whnf); try with_reducible exact trivial)
  have h6 := best44 (q.wp 6) (hq.wp (by omega))
  rw [Qu.best_wp] at h6
  refine callee_fo h6 rfl ?_
  rintro _ rfl
  (repeat' ((conv => whnf); (first | (with_reducible first | apply spl | apply spl') <;> intro hc <;> try (exfalso; omega) | with_reducible refine iJ fun hc => ?_ | refine vcq (k := ?_) | fail))); all_goals ((try conv => whnf); try with_reducible exact trivial)
  refine ⟨Nat, fun p => p ≤ 6 ∧ ∀ p' : Nat, p' < p → q.late p' ≠ q.late 6, fun p => 6 - p, fun _ => [], fun p => [(1, .cells 69 (q.wp (p : Nat)).c)], fun _ => [], 0, ⟨⟨by omega, fun p hp => by omega⟩, none, ?_⟩, ?_⟩
  · (repeat' ((conv => whnf); (first | (with_reducible first | apply spl | apply spl') <;> intro hc <;> try (exfalso; omega) | with_reducible refine iJ fun hc => ?_ | refine vcq (k := ?_) | fail))); all_goals ((try conv => whnf); try with_reducible exact trivial)
    rfl
  · rintro p ⟨hp, hall⟩
    have hpp : (q.wp (p : Nat)).pas = (p : Nat) := rfl
    (repeat' ((conv => whnf); (first | (with_reducible first | apply spl | apply spl') <;> intro hc <;> try (exfalso; omega) | with_reducible refine iJ fun hc => ?_ | refine vcq (k := ?_) | fail))); all_goals ((try conv => whnf); try with_reducible exact trivial)
    · have h6 := best44 (q.wp p) (hq.wp (by omega))
      rw [Qu.best_wp] at h6
      refine callee_fo h6 rfl ?_
      rintro _ rfl
      (repeat' ((conv => whnf); (first | (with_reducible first | apply spl | apply spl') <;> intro hc <;> try (exfalso; omega) | with_reducible refine iJ fun hc => ?_ | refine vcq (k := ?_) | fail))); all_goals ((try conv => whnf); try with_reducible exact trivial)
      · rw [hbw, hbw] at hc
        refine ⟨_, ⟨p, ⟨hp, hc, hall⟩, rfl⟩, ?_⟩
        (repeat' ((conv => whnf); (first | (with_reducible first | apply spl | apply spl') <;> intro hc <;> try (exfalso; omega) | with_reducible refine iJ fun hc => ?_ | refine vcq (k := ?_) | fail))); all_goals ((try conv => whnf); try with_reducible exact trivial)
      · rw [hbw, hbw] at hc
        rw [hpp]
        (repeat' ((conv => whnf); (first | (with_reducible first | apply spl | apply spl') <;> intro hc <;> try (exfalso; omega) | with_reducible refine iJ fun hc => ?_ | refine vcq (k := ?_) | fail))); all_goals ((try conv => whnf); try with_reducible exact trivial)
        refine ⟨p + 1, ⟨⟨by omega, fun p' hp' => ?_⟩, by dsimp only; omega⟩, none, ?_⟩
        · rcases Nat.lt_or_eq_of_le (show p' ≤ p by omega) with g | rfl
          · exact hall p' g
          · exact hc
        · (repeat' ((conv => whnf); (first | (with_reducible first | apply spl | apply spl') <;> intro hc <;> try (exfalso; omega) | with_reducible refine iJ fun hc => ?_ | refine vcq (k := ?_) | fail))); all_goals ((try conv => whnf); try with_reducible exact trivial)
          rfl
    · have h6 : p = 6 := by omega
      subst h6
      refine ⟨_, ⟨6, ⟨hp, rfl, hall⟩, rfl⟩, ?_⟩
      (repeat' ((conv => whnf); (first | (with_reducible first | apply spl | apply spl') <;> intro hc <;> try (exfalso; omega) | with_reducible refine iJ fun hc => ?_ | refine vcq (k := ?_) | fail))); all_goals ((try conv => whnf); try with_reducible exact trivial)
end Go.Proofs

namespace Go.Proofs
open Go Go.Sx
set_option maxRecDepth 100000
set_option maxHeartbeats 40000000
def exD : Dk := ⟨2, 60, [(2, 6), (1, 5)], 10, 25, (4, 12), (20, 30)⟩
def exQ : Qu := ⟨exD, 0, 2, [(0, 0), (10, 40), (15, 30)], [⟨30, 2, 0, -1, false⟩, ⟨0, 3, 0, 100, false⟩, ⟨14, 1, 5, 150, false⟩, ⟨1, 2, 10, -1, true⟩]⟩
instance (n p : Nat) (od : Nat → Prop) [DecidablePred od] (b : List Nat) (r : Nat) : Decidable (FitsQ n p od b r) := inferInstanceAs (Decidable (∀ m, m < n → m < r → m ∉ b → _))
instance (n p : Nat) (od : Nat → Prop) [DecidablePred od] : DecidablePred (AllP n p od) := fun o => inferInstanceAs (Decidable (∀ i, i < o.length → _))
instance (q : Qu) : DecidablePred q.od := fun r => inferInstanceAs (Decidable ((q.req r).od = true))
theorem exQ_all : exQ.all 2 = (ordsQ 4 4 []).filter (fun o => decide (AllP 4 2 exQ.od o)) := allQ_eq 4 2 exQ.od
theorem ex_best : exQ.best 2 = ([1, 2, 0, 3], 0, 330) := by
  unfold Qu.best
  rw [exQ_all]
  decide +kernel
theorem ex_bound : exQ.bound 2 0 = 236 := by
  unfold Qu.bound
  rw [exQ_all]
  decide +kernel
def exF (r : Nat) : Int × Int := (exQ.endOf false [0, 1, 2, 3] r, exQ.endOf true [0, 1, 2, 3] r)
def exG (r : Nat) : Int × Int := [(56, 56), (150, 150), (185, 245), (270, 330)].getD r (0, 0)
theorem ex_ends : ∀ r, r < 4 → exF r = exG r := by decide +kernel
theorem exD_ok : exD.Ok := by
  refine ⟨?_, ?_, ?_, ?_, ?_, ?_, ?_, ?_⟩ <;> (try unfold Dk.SpanOk) <;> decide +kernel
theorem exQ_ok : exQ.Ok := by
  have h : ∀ i, i < 3 → (exQ.rq.getD i Rq.none).t0 ≤ (exQ.rq.getD (i + 1) Rq.none).t0 := by decide +kernel
  refine ⟨exD_ok, ?_, ?_, ?_, ?_, ?_, ?_, fun i hi => h i (by have : exQ.rq.length = 4 := rfl; omega)⟩ <;> (try unfold Qu.RqOk) <;> decide +kernel
theorem ex_ord : IsOrd 4 [0, 1, 2, 3] := ⟨rfl, by decide, by decide⟩
end Go.Proofs

namespace Go.Proofs
open Go Go.Sx
set_option maxRecDepth 100000
set_option maxHeartbeats 40000000
theorem propV {p q : Prop} {dp : Decidable p} {dq : Decidable q} (h : p ↔ q) : V.prop p dp = V.prop q dq := by
  cases propext h
  rw [Subsingleton.elim dp dq]
theorem Example50 : PureC Try.prog 50 false [] (· = exD.v) := by
  refine pureC_of_exec Try.E_ok Try.func50 rfl (by kernel_rfl) ?_
  (repeat' ((conv => whnf); (first | (with_reducible first | apply spl | apply spl') <;> intro hc <;> try (exfalso; omega) | with_reducible refine iJ fun hc => ?_ | refine vcq (k := ?_) | fail))); all_goals ((try conv => whnf); try with_reducible exact trivial); (repeat' ((first | (refine callee_fo (span69 _ _) rfl ?_; rintro _ rfl) | (refine pcall_intro (span69 _ _) rfl ?_) | (refine pcall_soft (fun _ => span69 _ _) rfl ?_)); (repeat' ((conv => whnf); (first | (with_reducible first | apply spl | apply spl') <;> intro hc <;> try (exfalso; omega) | with_reducible refine iJ fun hc => ?_ | refine vcq (k := ?_) | fail))); all_goals ((try conv => whnf); try with_reducible exact trivial)))
  refine ⟨_, rfl, ?_⟩
  (repeat' ((conv => whnf); (first | (with_reducible first | apply spl | apply spl') <;> intro hc <;> try (exfalso; omega) | with_reducible refine iJ fun hc => ?_ | refine vcq (k := ?_) | fail))); all_goals ((try conv => whnf); try with_reducible exact trivial)
  refine ⟨fun i hi => ?_, .inr fun i hi => rfl, ?_⟩
  · have : i = 0 ∨ i = 1 := by omega
    rcases this with rfl | rfl <;> rfl
  · (repeat' ((conv => whnf); (first | (with_reducible first | apply spl | apply spl') <;> intro hc <;> try (exfalso; omega) | with_reducible refine iJ fun hc => ?_ | refine vcq (k := ?_) | fail))); all_goals ((try conv => whnf); try with_reducible exact trivial)
theorem Example28 : PureC Try.prog 28 true [] (· = .agg exQ.c) := by
  refine pureC_of_exec Try.E_ok Try.func28 rfl (by kernel_rfl) ?_
  (repeat' ((conv => whnf); (first | (with_reducible first | apply spl | apply spl') <;> intro hc <;> try (exfalso; omega) | with_reducible refine iJ fun hc => ?_ | refine vcq (k := ?_) | fail))); all_goals ((try conv => whnf); try with_reducible exact trivial); (repeat' ((first | (refine callee_fo (Example50) rfl ?_; rintro _ rfl) | (refine pcall_intro (Example50) rfl ?_) | (refine pcall_soft (fun _ => Example50) rfl ?_) | (refine callee_fo (span16 _ _) rfl ?_; rintro _ rfl) | (refine pcall_intro (span16 _ _) rfl ?_) | (refine pcall_soft (fun _ => span16 _ _) rfl ?_)); (repeat' ((conv => whnf); (first | (with_reducible first | apply spl | apply spl') <;> intro hc <;> try (exfalso; omega) | with_reducible refine iJ fun hc => ?_ | refine vcq (k := ?_) | fail))); all_goals ((try conv => whnf); try with_reducible exact trivial)))
  refine ⟨_, rfl, ?_⟩
  (repeat' ((conv => whnf); (first | (with_reducible first | apply spl | apply spl') <;> intro hc <;> try (exfalso; omega) | with_reducible refine iJ fun hc => ?_ | refine vcq (k := ?_) | fail))); all_goals ((try conv => whnf); try with_reducible exact trivial)
  refine ⟨fun i hi => ?_, .inl rfl, ?_⟩
  · have : i = 0 ∨ i = 1 ∨ i = 2 := by omega
    rcases this with rfl | rfl | rfl <;> rfl
  · (repeat' ((conv => whnf); (first | (with_reducible first | apply spl | apply spl') <;> intro hc <;> try (exfalso; omega) | with_reducible refine iJ fun hc => ?_ | refine vcq (k := ?_) | fail))); all_goals ((try conv => whnf); try with_reducible exact trivial)
    refine ⟨fun i hi => ?_, ?_⟩
    · have : i = 0 ∨ i = 1 ∨ i = 2 ∨ i = 3 := by omega
      rcases this with rfl | rfl | rfl | rfl
      · exact congrArg (fun x => [V.int .i64 30, .int .i64 2, .int .i64 0, .int .i64 (-1), x]) (propV (by decide))
      · exact congrArg (fun x => [V.int .i64 0, .int .i64 3, .int .i64 0, .int .i64 100, x]) (propV (by decide))
      · exact congrArg (fun x => [V.int .i64 14, .int .i64 1, .int .i64 5, .int .i64 150, x]) (propV (by decide))
      · exact congrArg (fun x => [V.int .i64 1, .int .i64 2, .int .i64 10, .int .i64 (-1), x]) (propV (by decide))
    · (repeat' ((conv => whnf); (first | (with_reducible first | apply spl | apply spl') <;> intro hc <;> try (exfalso; omega) | with_reducible refine iJ fun hc => ?_ | refine vcq (k := ?_) | fail))); all_goals ((try conv => whnf); try with_reducible exact trivial)
theorem works10 : PureC Try.prog 10 false [] (· = .prop True inferInstance) := by
  have hO := Order18 exQ exQ_ok
  rw [show exQ.pas = 2 from rfl, ex_best] at hO
  dsimp only at hO
  have hB := Bound21 exQ exQ_ok 0 (by decide)
  rw [show exQ.pas = 2 from rfl, ex_bound] at hB
  have hE := Ends11 exQ exQ_ok [0, 1, 2, 3] ex_ord
  refine pureC_of_exec Try.E_ok Try.func10 rfl (by kernel_rfl) ?_
  (repeat' ((conv => whnf); (first | (with_reducible first | apply spl | apply spl') <;> intro hc <;> try (exfalso; omega) | with_reducible refine iJ fun hc => ?_ | refine vcq (k := ?_) | fail))); all_goals ((try conv => whnf); try with_reducible exact trivial)
  refine callee_fo Example28 rfl ?_
  rintro _ rfl
  (repeat' ((conv => whnf); (first | (with_reducible first | apply spl | apply spl') <;> intro hc <;> try (exfalso; omega) | with_reducible refine iJ fun hc => ?_ | refine vcq (k := ?_) | fail))); all_goals ((try conv => whnf); try with_reducible exact trivial)
  refine callee_fo hO rfl ?_
  rintro _ rfl
  (repeat' ((conv => whnf); (first | (with_reducible first | apply spl | apply spl') <;> intro hc <;> try (exfalso; omega) | with_reducible refine iJ fun hc => ?_ | refine vcq (k := ?_) | fail))); all_goals ((try conv => whnf); try with_reducible exact trivial)
  refine callee_fo hB rfl ?_
  rintro _ rfl
  (repeat' ((conv => whnf); (first | (with_reducible first | apply spl | apply spl') <;> intro hc <;> try (exfalso; omega) | with_reducible refine iJ fun hc => ?_ | refine vcq (k := ?_) | fail))); all_goals ((try conv => whnf); try with_reducible exact trivial)
  refine callee_view hE ?_
  (repeat' ((conv => whnf); (first | (with_reducible first | apply spl | apply spl') <;> intro hc <;> try (exfalso; omega) | with_reducible refine iJ fun hc => ?_ | refine vcq (k := ?_) | fail))); all_goals ((try conv => whnf); try with_reducible exact trivial)
  refine ⟨fun i hi => ?_, ?_⟩
  · have : i = 0 ∨ i = 1 ∨ i = 2 ∨ i = 3 := by omega
    rcases this with rfl | rfl | rfl | rfl <;> rfl
  · (repeat' ((conv => whnf); (first | (with_reducible first | apply spl | apply spl') <;> intro hc <;> try (exfalso; omega) | with_reducible refine iJ fun hc => ?_ | refine vcq (k := ?_) | fail))); all_goals ((try conv => whnf); try with_reducible exact trivial)
    rintro _ rfl
    (repeat' ((conv => whnf); (first | (with_reducible first | apply spl | apply spl') <;> intro hc <;> try (exfalso; omega) | with_reducible refine iJ fun hc => ?_ | refine vcq (k := ?_) | fail))); all_goals ((try conv => whnf); try with_reducible exact trivial)
    refine callee_view (sameInts29 [1, 2, 0, 3] [1, 2, 0, 3] (by decide) (by decide)) ?_
    (repeat' ((conv => whnf); (first | (with_reducible first | apply spl | apply spl') <;> intro hc <;> try (exfalso; omega) | with_reducible refine iJ fun hc => ?_ | refine vcq (k := ?_) | fail))); all_goals ((try conv => whnf); try with_reducible exact trivial)
    refine ⟨fun i hi => ?_, ?_⟩
    · have : i = 0 ∨ i = 1 ∨ i = 2 ∨ i = 3 := by omega
      rcases this with rfl | rfl | rfl | rfl <;> rfl
    · (repeat' ((conv => whnf); (first | (with_reducible first | apply spl | apply spl') <;> intro hc <;> try (exfalso; omega) | with_reducible refine iJ fun hc => ?_ | refine vcq (k := ?_) | fail))); all_goals ((try conv => whnf); try with_reducible exact trivial)
      rintro _ rfl
      (repeat' ((conv => whnf); (first | (with_reducible first | apply spl | apply spl') <;> intro hc <;> try (exfalso; omega) | with_reducible refine iJ fun hc => ?_ | refine vcq (k := ?_) | fail))); all_goals ((try conv => whnf); try with_reducible exact trivial)
      · refine callee_fo (span16 _ _) rfl ?_
        rintro _ rfl
        (repeat' ((conv => whnf); (first | (with_reducible first | apply spl | apply spl') <;> intro hc <;> try (exfalso; omega) | with_reducible refine iJ fun hc => ?_ | refine vcq (k := ?_) | fail))); all_goals ((try conv => whnf); try with_reducible exact trivial)
        refine callee_fo (span16 _ _) rfl ?_
        rintro _ rfl
        (repeat' ((conv => whnf); (first | (with_reducible first | apply spl | apply spl') <;> intro hc <;> try (exfalso; omega) | with_reducible refine iJ fun hc => ?_ | refine vcq (k := ?_) | fail))); all_goals ((try conv => whnf); try with_reducible exact trivial)
        refine callee_fo (span16 _ _) rfl ?_
        rintro _ rfl
        (repeat' ((conv => whnf); (first | (with_reducible first | apply spl | apply spl') <;> intro hc <;> try (exfalso; omega) | with_reducible refine iJ fun hc => ?_ | refine vcq (k := ?_) | fail))); all_goals ((try conv => whnf); try with_reducible exact trivial)
        refine callee_fo (span16 _ _) rfl ?_
        rintro _ rfl
        (repeat' ((conv => whnf); (first | (with_reducible first | apply spl | apply spl') <;> intro hc <;> try (exfalso; omega) | with_reducible refine iJ fun hc => ?_ | refine vcq (k := ?_) | fail))); all_goals ((try conv => whnf); try with_reducible exact trivial)
        refine callee_view (sameSpans30 4 4 exF exG (by decide) (by decide)) ?_
        (repeat' ((conv => whnf); (first | (with_reducible first | apply spl | apply spl') <;> intro hc <;> try (exfalso; omega) | with_reducible refine iJ fun hc => ?_ | refine vcq (k := ?_) | fail))); all_goals ((try conv => whnf); try with_reducible exact trivial)
        refine ⟨fun i hi => ?_, .inl rfl, ?_⟩
        · have : i = 0 ∨ i = 1 ∨ i = 2 ∨ i = 3 := by omega
          rcases this with rfl | rfl | rfl | rfl <;> rfl
        · (repeat' ((conv => whnf); (first | (with_reducible first | apply spl | apply spl') <;> intro hc <;> try (exfalso; omega) | with_reducible refine iJ fun hc => ?_ | refine vcq (k := ?_) | fail))); all_goals ((try conv => whnf); try with_reducible exact trivial)
          rintro _ rfl
          (repeat' ((conv => whnf); (first | (with_reducible first | apply spl | apply spl') <;> intro hc <;> try (exfalso; omega) | with_reducible refine iJ fun hc => ?_ | refine vcq (k := ?_) | fail))); all_goals ((try conv => whnf); try with_reducible exact trivial)
          refine ⟨_, rfl, ?_⟩
          (repeat' ((conv => whnf); (first | (with_reducible first | apply spl | apply spl') <;> intro hc <;> try (exfalso; omega) | with_reducible refine iJ fun hc => ?_ | refine vcq (k := ?_) | fail))); all_goals ((try conv => whnf); try with_reducible exact trivial)
          exact ⟨⟨fun _ => trivial, fun _ => ⟨rfl, ex_ends⟩⟩, trivial⟩
      · exact absurd ⟨⟨⟨rfl, rfl⟩, rfl⟩, rfl⟩ hc
end Go.Proofs
