/- Own work: texts of the proof of a law (QuD9). No condition. -/
import Derived.Test.YthjcfbkgfnnkkaaPart20
namespace Go.Proofs
open Go Go.Sx
set_option maxRecDepth 100000
set_option maxHeartbeats 40000000
theorem Cyl13 (q : Qu) (hq : q.Ok) (n : Int) (h0 : 0 ≤ n) (h1 : n < q.d.cnt) : PureC Try.prog 13 false [.agg q.c, .int .i64 n] (· = .int .i64 (q.cy n)) := by
  have h := Cylinder13 q hq n.toNat (by omega)
  rwa [Int.toNat_of_nonneg h0] at h
theorem Run14q (q : Qu) (hq : q.Ok) (r : Nat) (hr : r < q.rq.length) : PureC Try.prog 14 false [q.d.v, .int .i64 (q.rq.getD r Rq.none).fr, .int .i64 (q.rq.getD r Rq.none).ct] (· = .tup [.agg [.int .i64 (q.rn false r), .int .i64 (q.rn true r)], .int .i64 0]) := by
  have hr1 := Qu.rq_at hq hr
  unfold Qu.RqOk at hr1
  have h := Run14 q.d hq.d (q.rq.getD r Rq.none).fr.toNat (q.rq.getD r Rq.none).ct.toNat (by omega) (by omega)
  rw [Int.toNat_of_nonneg (by omega), Int.toNat_of_nonneg (by omega)] at h
  exact h
theorem place_facts {q : Qu} (hq : q.Ok) {o : List Nat} (ho : ∀ x ∈ o, x < q.rq.length) (hol : o.length ≤ 6) {i : Nat} (hi : i < o.length) :
    o.getD i 0 < q.rq.length ∧ (0 ≤ (q.rq.getD (o.getD i 0) Rq.none).fr ∧ (q.rq.getD (o.getD i 0) Rq.none).fr < q.d.cnt) ∧
    (1 ≤ (q.rq.getD (o.getD i 0) Rq.none).ct ∧ 0 ≤ (q.rq.getD (o.getD i 0) Rq.none).fr + (q.rq.getD (o.getD i 0) Rq.none).ct - 1 ∧ (q.rq.getD (o.getD i 0) Rq.none).fr + (q.rq.getD (o.getD i 0) Rq.none).ct - 1 < q.d.cnt) ∧
    q.cy (q.rq.getD (o.getD i 0) Rq.none).fr < q.d.S.length ∧ ((q.stQ true o i).1 < q.d.S.length) ∧
    (∀ hi, 0 ≤ (q.stQ hi o i).2 ∧ (q.stQ hi o i).2 ≤ 180000000) ∧ (∀ hi, 0 ≤ q.rn hi (o.getD i 0) ∧ q.rn hi (o.getD i 0) ≤ 24000000) := by
  have hr : o.getD i 0 < q.rq.length := by rw [getD_get hi]; exact ho _ (List.getElem_mem hi)
  have hr1 := Qu.rq_at hq hr
  unfold Qu.RqOk at hr1
  have hb := fun h => Qu.stQ_bnd hq h ho i (by omega)
  refine ⟨hr, by omega, by omega, Qu.cy_lt (by omega) (by omega), (hb true).1, fun h => ⟨(hb h).2.1, by have := (hb h).2.2; omega⟩, fun h => Qu.rn_bndB hq hr h⟩
end Go.Proofs
