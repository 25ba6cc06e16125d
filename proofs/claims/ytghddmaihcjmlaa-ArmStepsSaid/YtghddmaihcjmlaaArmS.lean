/- Own work: a text of the proof of a law (ArmS). -/
import Derived.Test.YtghddmaihcjmlaaArmM
namespace Go.Proofs
open Go Go.Sx
set_option maxRecDepth 100000
set_option maxHeartbeats 4000000

theorem prop_eq {p q : Prop} {d : Decidable p} {d' : Decidable q} (h : p ↔ q) : V.prop p d = V.prop q d' := by
  obtain rfl : p = q := propext h
  congr 1
  exact Subsingleton.elim _ _

noncomputable def boolC (D : Int → Int → Prop) (s : Int × Int) : List V := [.prop (D s.1 s.2) (Classical.propDecidable _)]

theorem states61 (a : Arm) (ha : a.Ok) : PureC Try.prog 61 false [a.v] (· = .sl 2 a.spots.length (rowOf spotCs (0, 0) a.spots)) := by
  have hL := ha.L
  have hS := ha.S
  refine pureC_of_exec Try.E_ok Try.func61 rfl (by kernel_rfl) ?_
  (repeat' ((conv => whnf); (first | ((with_reducible refine spl (fun hc => ?_) (fun hc => ?_)) <;> (try (exfalso; omega))) | ((with_reducible refine spl' (fun hc => ?_) (fun hc => ?_)) <;> (try (exfalso; omega))) | (with_reducible refine imp_intro (fun hc => ?_)) | refine vc (k := ?_) | refine dr 1 (k := ?_) | refine dr 2 (k := ?_) | refine dr 3 (k := ?_) | refine dr 4 (k := ?_) | refine dr 5 (k := ?_) | refine dr 6 (k := ?_) | refine dr 7 (k := ?_) | refine dr 8 (k := ?_) | refine dr 9 (k := ?_) | refine dr 10 (k := ?_) | refine dr 11 (k := ?_) | refine dr 12 (k := ?_) | fail))); (all_goals (try (conv => whnf))); (all_goals (try exact trivial))
  refine ⟨Nat × List (Int × Int), fun i => (i.1 : Int) ≤ a.L + 1 ∧ i.2 = a.spotsTo i.1, fun i => (a.L + 1 - i.1).toNat, fun i => [(4, .int .i64 i.1), (3, .osl 1 i.2.length)], fun _ => [], fun i => [.row 25 2 i.2.length (rowOf spotCs (0, 0) i.2) true], (0, []), ⟨⟨by dsimp only; omega, rfl⟩, some [some 0, none], ?_⟩, ?_⟩
  · (repeat' ((conv => whnf); (first | ((with_reducible refine spl (fun hc => ?_) (fun hc => ?_)) <;> (try (exfalso; omega))) | ((with_reducible refine spl' (fun hc => ?_) (fun hc => ?_)) <;> (try (exfalso; omega))) | (with_reducible refine imp_intro (fun hc => ?_)) | refine vc (k := ?_) | refine dr 1 (k := ?_) | refine dr 2 (k := ?_) | refine dr 3 (k := ?_) | refine dr 4 (k := ?_) | refine dr 5 (k := ?_) | refine dr 6 (k := ?_) | refine dr 7 (k := ?_) | refine dr 8 (k := ?_) | refine dr 9 (k := ?_) | refine dr 10 (k := ?_) | refine dr 11 (k := ?_) | refine dr 12 (k := ?_) | fail))); (all_goals (try (conv => whnf))); (all_goals (try exact trivial))
  · rintro ⟨i, l⟩ ⟨hi, hl⟩
    dsimp only at hi hl
    (repeat' ((conv => whnf); (first | ((with_reducible refine spl (fun hc => ?_) (fun hc => ?_)) <;> (try (exfalso; omega))) | ((with_reducible refine spl' (fun hc => ?_) (fun hc => ?_)) <;> (try (exfalso; omega))) | (with_reducible refine imp_intro (fun hc => ?_)) | refine vc (k := ?_) | refine dr 1 (k := ?_) | refine dr 2 (k := ?_) | refine dr 3 (k := ?_) | refine dr 4 (k := ?_) | refine dr 5 (k := ?_) | refine dr 6 (k := ?_) | refine dr 7 (k := ?_) | refine dr 8 (k := ?_) | refine dr 9 (k := ?_) | refine dr 10 (k := ?_) | refine dr 11 (k := ?_) | refine dr 12 (k := ?_) | fail))); (all_goals (try (conv => whnf))); (all_goals (try exact trivial))
    · have hlen := a.spotsTo_length i
      have hlen2 : i * (2 * a.S + 1).toNat ≤ 41 * 17 := Nat.mul_le_mul (by omega) (by omega)
      refine ⟨Nat × List (Int × Int), fun j => (j.1 : Int) ≤ 2 * a.S + 1 ∧ j.2 = a.spotsTo i ++ a.rowTo i j.1, fun j => (2 * a.S + 1 - j.1).toNat, fun j => [(5, .int .i64 (-a.S + j.1)), (3, .osl 1 j.2.length)], fun j => [(1, .row 25 2 j.2.length (rowOf spotCs (0, 0) j.2) true)], fun _ => [], (0, l), ⟨⟨by dsimp only; omega, by simp [Arm.rowTo, hl]⟩, some [some 0, some 1], ?_⟩, ?_⟩
      · (repeat' ((conv => whnf); (first | ((with_reducible refine spl (fun hc => ?_) (fun hc => ?_)) <;> (try (exfalso; omega))) | ((with_reducible refine spl' (fun hc => ?_) (fun hc => ?_)) <;> (try (exfalso; omega))) | (with_reducible refine imp_intro (fun hc => ?_)) | refine vc (k := ?_) | refine dr 1 (k := ?_) | refine dr 2 (k := ?_) | refine dr 3 (k := ?_) | refine dr 4 (k := ?_) | refine dr 5 (k := ?_) | refine dr 6 (k := ?_) | refine dr 7 (k := ?_) | refine dr 8 (k := ?_) | refine dr 9 (k := ?_) | refine dr 10 (k := ?_) | refine dr 11 (k := ?_) | refine dr 12 (k := ?_) | fail))); (all_goals (try (conv => whnf))); (all_goals (try exact trivial))
      · rintro ⟨j, l⟩ ⟨hj, hl⟩
        dsimp only at hj hl
        have hb : l.length ≤ 10000 := by
          rw [hl, List.length_append, a.rowTo_length]
          omega
        (repeat' ((conv => whnf); (first | ((with_reducible refine spl (fun hc => ?_) (fun hc => ?_)) <;> (try (exfalso; omega))) | ((with_reducible refine spl' (fun hc => ?_) (fun hc => ?_)) <;> (try (exfalso; omega))) | (with_reducible refine imp_intro (fun hc => ?_)) | refine vc (k := ?_) | refine dr 1 (k := ?_) | refine dr 2 (k := ?_) | refine dr 3 (k := ?_) | refine dr 4 (k := ?_) | refine dr 5 (k := ?_) | refine dr 6 (k := ?_) | refine dr 7 (k := ?_) | refine dr 8 (k := ?_) | refine dr 9 (k := ?_) | refine dr 10 (k := ?_) | refine dr 11 (k := ?_) | refine dr 12 (k := ?_) | fail))); (all_goals (try (conv => whnf))); (all_goals (try exact trivial))
        · refine ⟨(j + 1, l ++ [((i : Int), -a.S + (j : Int))]), ⟨⟨by dsimp only; omega, ?_⟩, by dsimp only; omega⟩, some [some 0, some 3], ?_⟩
          · dsimp only
            rw [a.rowTo_succ, ← List.append_assoc, ← hl]
          · (repeat' ((conv => whnf); (first | ((with_reducible refine spl (fun hc => ?_) (fun hc => ?_)) <;> (try (exfalso; omega))) | ((with_reducible refine spl' (fun hc => ?_) (fun hc => ?_)) <;> (try (exfalso; omega))) | (with_reducible refine imp_intro (fun hc => ?_)) | refine vc (k := ?_) | refine dr 1 (k := ?_) | refine dr 2 (k := ?_) | refine dr 3 (k := ?_) | refine dr 4 (k := ?_) | refine dr 5 (k := ?_) | refine dr 6 (k := ?_) | refine dr 7 (k := ?_) | refine dr 8 (k := ?_) | refine dr 9 (k := ?_) | refine dr 10 (k := ?_) | refine dr 11 (k := ?_) | refine dr 12 (k := ?_) | fail))); (all_goals (try (conv => whnf))); (all_goals (try exact trivial))
            refine ⟨by simp, ?_⟩
            (repeat' ((conv => whnf); (first | ((with_reducible refine spl (fun hc => ?_) (fun hc => ?_)) <;> (try (exfalso; omega))) | ((with_reducible refine spl' (fun hc => ?_) (fun hc => ?_)) <;> (try (exfalso; omega))) | (with_reducible refine imp_intro (fun hc => ?_)) | refine vc (k := ?_) | refine dr 1 (k := ?_) | refine dr 2 (k := ?_) | refine dr 3 (k := ?_) | refine dr 4 (k := ?_) | refine dr 5 (k := ?_) | refine dr 6 (k := ?_) | refine dr 7 (k := ?_) | refine dr 8 (k := ?_) | refine dr 9 (k := ?_) | refine dr 10 (k := ?_) | refine dr 11 (k := ?_) | refine dr 12 (k := ?_) | fail))); (all_goals (try (conv => whnf))); (all_goals (try exact trivial))
            refine ⟨by simp, rowOf_snoc (c := spotCs) (a := ((i : Int), -a.S + (j : Int))) rfl (fun _ _ => rfl), ?_⟩
            (repeat' ((conv => whnf); (first | ((with_reducible refine spl (fun hc => ?_) (fun hc => ?_)) <;> (try (exfalso; omega))) | ((with_reducible refine spl' (fun hc => ?_) (fun hc => ?_)) <;> (try (exfalso; omega))) | (with_reducible refine imp_intro (fun hc => ?_)) | refine vc (k := ?_) | refine dr 1 (k := ?_) | refine dr 2 (k := ?_) | refine dr 3 (k := ?_) | refine dr 4 (k := ?_) | refine dr 5 (k := ?_) | refine dr 6 (k := ?_) | refine dr 7 (k := ?_) | refine dr 8 (k := ?_) | refine dr 9 (k := ?_) | refine dr 10 (k := ?_) | refine dr 11 (k := ?_) | refine dr 12 (k := ?_) | fail))); (all_goals (try (conv => whnf))); (all_goals (try exact trivial))
        · refine ⟨(i + 1, l), ⟨⟨by dsimp only; omega, ?_⟩, by dsimp only; omega⟩, some [some 0, some 1], ?_⟩
          · obtain rfl : j = (2 * a.S + 1).toNat := by omega
            rw [hl, a.spotsTo_succ]
          · (repeat' ((conv => whnf); (first | ((with_reducible refine spl (fun hc => ?_) (fun hc => ?_)) <;> (try (exfalso; omega))) | ((with_reducible refine spl' (fun hc => ?_) (fun hc => ?_)) <;> (try (exfalso; omega))) | (with_reducible refine imp_intro (fun hc => ?_)) | refine vc (k := ?_) | refine dr 1 (k := ?_) | refine dr 2 (k := ?_) | refine dr 3 (k := ?_) | refine dr 4 (k := ?_) | refine dr 5 (k := ?_) | refine dr 6 (k := ?_) | refine dr 7 (k := ?_) | refine dr 8 (k := ?_) | refine dr 9 (k := ?_) | refine dr 10 (k := ?_) | refine dr 11 (k := ?_) | refine dr 12 (k := ?_) | fail))); (all_goals (try (conv => whnf))); (all_goals (try exact trivial))
    · obtain rfl : i = (a.L + 1).toNat := by omega
      subst hl
      refine ⟨_, rfl, ?_⟩
      (repeat' ((conv => whnf); (first | ((with_reducible refine spl (fun hc => ?_) (fun hc => ?_)) <;> (try (exfalso; omega))) | ((with_reducible refine spl' (fun hc => ?_) (fun hc => ?_)) <;> (try (exfalso; omega))) | (with_reducible refine imp_intro (fun hc => ?_)) | refine vc (k := ?_) | refine dr 1 (k := ?_) | refine dr 2 (k := ?_) | refine dr 3 (k := ?_) | refine dr 4 (k := ?_) | refine dr 5 (k := ?_) | refine dr 6 (k := ?_) | refine dr 7 (k := ?_) | refine dr 8 (k := ?_) | refine dr 9 (k := ?_) | refine dr 10 (k := ?_) | refine dr 11 (k := ?_) | refine dr 12 (k := ?_) | fail))); (all_goals (try (conv => whnf))); (all_goals (try exact trivial))

theorem number49 (a : Arm) (ha : a.Ok) (x v : Int) (hx : -100 ≤ x ∧ x ≤ 100) (hv : -100 ≤ v ∧ v ≤ 100) : PureC Try.prog 49 false [a.v, spotV x v] (· = .int .i64 (x * (2 * a.S + 1) + v + a.S)) := by
  have hS := ha.S
  have hm : -1700 ≤ x * (2 * a.S + 1) ∧ x * (2 * a.S + 1) ≤ 1700 := by
    have h1 : x * (2 * a.S + 1) ≤ 100 * (2 * a.S + 1) := Int.mul_le_mul_of_nonneg_right hx.2 (by omega)
    have h2 : -100 * (2 * a.S + 1) ≤ x * (2 * a.S + 1) := Int.mul_le_mul_of_nonneg_right hx.1 (by omega)
    omega
  refine pureC_of_exec Try.E_ok Try.func49 rfl (by kernel_rfl) ?_
  (repeat' ((conv => whnf); (first | ((with_reducible refine spl (fun hc => ?_) (fun hc => ?_)) <;> (try (exfalso; omega))) | ((with_reducible refine spl' (fun hc => ?_) (fun hc => ?_)) <;> (try (exfalso; omega))) | (with_reducible refine imp_intro (fun hc => ?_)) | refine vc (k := ?_) | refine dr 1 (k := ?_) | refine dr 2 (k := ?_) | refine dr 3 (k := ?_) | refine dr 4 (k := ?_) | refine dr 5 (k := ?_) | refine dr 6 (k := ?_) | refine dr 7 (k := ?_) | refine dr 8 (k := ?_) | refine dr 9 (k := ?_) | refine dr 10 (k := ?_) | refine dr 11 (k := ?_) | refine dr 12 (k := ?_) | fail))); (all_goals (try (conv => whnf))); (all_goals (try exact trivial))
  refine ⟨_, rfl, ?_⟩
  (repeat' ((conv => whnf); (first | ((with_reducible refine spl (fun hc => ?_) (fun hc => ?_)) <;> (try (exfalso; omega))) | ((with_reducible refine spl' (fun hc => ?_) (fun hc => ?_)) <;> (try (exfalso; omega))) | (with_reducible refine imp_intro (fun hc => ?_)) | refine vc (k := ?_) | refine dr 1 (k := ?_) | refine dr 2 (k := ?_) | refine dr 3 (k := ?_) | refine dr 4 (k := ?_) | refine dr 5 (k := ?_) | refine dr 6 (k := ?_) | refine dr 7 (k := ?_) | refine dr 8 (k := ?_) | refine dr 9 (k := ?_) | refine dr 10 (k := ?_) | refine dr 11 (k := ?_) | refine dr 12 (k := ?_) | fail))); (all_goals (try (conv => whnf))); (all_goals (try exact trivial))

theorem Arm.spotsTo_pre (a : Arm) (i : Nat) : ∀ j, i ≤ j → ∃ r, a.spotsTo j = a.spotsTo i ++ r
  | 0, h => ⟨[], by obtain rfl : i = 0 := by omega
                    simp⟩
  | j + 1, h => by
    by_cases hij : i = j + 1
    · subst hij; exact ⟨[], by simp⟩
    · obtain ⟨r, hr⟩ := a.spotsTo_pre i j (by omega)
      exact ⟨r ++ a.rowTo j (2 * a.S + 1).toNat, by rw [a.spotsTo_succ, hr, List.append_assoc]⟩

/-- the place of a state -/
theorem Arm.spots_at {a : Arm} (ha : a.Ok) {x v : Int} (h : a.Has x v) : 0 ≤ x * (2 * a.S + 1) + v + a.S ∧ x * (2 * a.S + 1) + v + a.S < a.spots.length ∧ a.spots.getD (x * (2 * a.S + 1) + v + a.S).toNat (0, 0) = (x, v) := by
  have hS := ha.S
  obtain ⟨⟨h1, h2⟩, h3, h4⟩ := h
  obtain ⟨n, rfl⟩ : ∃ n : Nat, x = n := ⟨x.toNat, by omega⟩
  obtain ⟨m, hm⟩ : ∃ m : Nat, (m : Int) = v + a.S := ⟨(v + a.S).toNat, by omega⟩
  obtain ⟨q, hq⟩ : ∃ q : Nat, (q : Int) = 2 * a.S + 1 := ⟨(2 * a.S + 1).toNat, by omega⟩
  have hqn : (2 * a.S + 1).toNat = q := by omega
  have hidx : (n : Int) * (2 * a.S + 1) + v + a.S = ((n * q + m : Nat) : Int) := by
    rw [← hq, Int.add_assoc, ← hm]
    simp
  rw [hidx]
  obtain ⟨r, hr⟩ := a.spotsTo_pre (n + 1) (a.L + 1).toNat (by omega)
  have hget : a.spots[n * q + m]? = some ((n : Int), v) := by
    unfold Arm.spots
    rw [hr, a.spotsTo_succ, hqn, List.append_assoc, List.getElem?_append_right (by rw [a.spotsTo_length, hqn]; omega), a.spotsTo_length, hqn]
    rw [show n * q + m - n * q = m by omega, List.getElem?_append_left (by rw [a.rowTo_length]; omega)]
    unfold Arm.rowTo
    rw [List.getElem?_map, List.getElem?_range (by omega)]
    simp only [Option.map_some, Option.some.injEq, Prod.mk.injEq, true_and]
    omega
  have hlt := (List.getElem?_eq_some_iff.1 hget).1
  refine ⟨by omega, by omega, ?_⟩
  rw [Int.toNat_natCast, List.getD_eq_getElem?_getD, hget]
  rfl

theorem command63 (a : Arm) (ha : a.Ok) (D : Int → Int → Prop) (x v : Int) (hx : a.Has x v) : PureC Try.prog 63 false [a.v, spotV x v, .sl 1 a.spots.length (rowOf (boolC D) (0, 0) a.spots)]
    (· = .tup [.int .i64 (a.cmd D x v), .prop (a.Can D x v) (Classical.propDecidable _)]) := by
  have hL := ha.L
  have hS := ha.S
  have hF := ha.F
  have hK := ha.K
  obtain ⟨hx1, hx2⟩ := id hx
  refine pureC_of_exec Try.E_ok Try.func63 rfl (by kernel_rfl) ?_
  (repeat' ((conv => whnf); (first | ((with_reducible refine spl (fun hc => ?_) (fun hc => ?_)) <;> (try (exfalso; omega))) | ((with_reducible refine spl' (fun hc => ?_) (fun hc => ?_)) <;> (try (exfalso; omega))) | (with_reducible refine imp_intro (fun hc => ?_)) | refine vc (k := ?_) | refine dr 1 (k := ?_) | refine dr 2 (k := ?_) | refine dr 3 (k := ?_) | refine dr 4 (k := ?_) | refine dr 5 (k := ?_) | refine dr 6 (k := ?_) | refine dr 7 (k := ?_) | refine dr 8 (k := ?_) | refine dr 9 (k := ?_) | refine dr 10 (k := ?_) | refine dr 11 (k := ?_) | refine dr 12 (k := ?_) | fail))); (all_goals (try (conv => whnf))); (all_goals (try exact trivial))
  refine ⟨Int, fun c => (-a.F ≤ c ∧ c ≤ a.F + 1) ∧ ∀ d, -a.F ≤ d → d < c → ¬ a.Good D x v d, fun c => (a.F + 1 - c).toNat, fun c => [(8, .int .i64 c)], fun _ => [], fun _ => [], -a.F, ⟨⟨by omega, fun d _ _ => by omega⟩, none, ?_⟩, fun c hc => ?_⟩
  · (repeat' ((conv => whnf); (first | ((with_reducible refine spl (fun hc => ?_) (fun hc => ?_)) <;> (try (exfalso; omega))) | ((with_reducible refine spl' (fun hc => ?_) (fun hc => ?_)) <;> (try (exfalso; omega))) | (with_reducible refine imp_intro (fun hc => ?_)) | refine vc (k := ?_) | refine dr 1 (k := ?_) | refine dr 2 (k := ?_) | refine dr 3 (k := ?_) | refine dr 4 (k := ?_) | refine dr 5 (k := ?_) | refine dr 6 (k := ?_) | refine dr 7 (k := ?_) | refine dr 8 (k := ?_) | refine dr 9 (k := ?_) | refine dr 10 (k := ?_) | refine dr 11 (k := ?_) | refine dr 12 (k := ?_) | fail))); (all_goals (try (conv => whnf))); (all_goals (try exact trivial))
  · obtain ⟨hc1, hc2⟩ := hc
    (repeat' ((conv => whnf); (first | ((with_reducible refine spl (fun hc => ?_) (fun hc => ?_)) <;> (try (exfalso; omega))) | ((with_reducible refine spl' (fun hc => ?_) (fun hc => ?_)) <;> (try (exfalso; omega))) | (with_reducible refine imp_intro (fun hc => ?_)) | refine vc (k := ?_) | refine dr 1 (k := ?_) | refine dr 2 (k := ?_) | refine dr 3 (k := ?_) | refine dr 4 (k := ?_) | refine dr 5 (k := ?_) | refine dr 6 (k := ?_) | refine dr 7 (k := ?_) | refine dr 8 (k := ?_) | refine dr 9 (k := ?_) | refine dr 10 (k := ?_) | refine dr 11 (k := ?_) | refine dr 12 (k := ?_) | fail))); (all_goals (try (conv => whnf))); (all_goals (try exact trivial))
    · refine ⟨Int × Prop, fun i => (-a.K ≤ i.1 ∧ i.1 ≤ a.K + 1) ∧ (i.2 ↔ ∀ k, -a.K ≤ k → k < i.1 → a.Has (x + (v + (c + k))) (v + (c + k)) ∧ D (x + (v + (c + k))) (v + (c + k))), fun i => (a.K + 1 - i.1).toNat, fun i => [(10, .int .i64 i.1), (9, .prop i.2 (Classical.propDecidable _))], fun _ => [], fun _ => [], (-a.K, True), ⟨⟨by dsimp only; omega, ⟨fun _ k h1 h2 => by dsimp only at h2; omega, fun _ => trivial⟩⟩, none, ?_⟩, ?_⟩
      · (repeat' ((conv => whnf); (first | ((with_reducible refine spl (fun hc => ?_) (fun hc => ?_)) <;> (try (exfalso; omega))) | ((with_reducible refine spl' (fun hc => ?_) (fun hc => ?_)) <;> (try (exfalso; omega))) | (with_reducible refine imp_intro (fun hc => ?_)) | refine vc (k := ?_) | refine dr 1 (k := ?_) | refine dr 2 (k := ?_) | refine dr 3 (k := ?_) | refine dr 4 (k := ?_) | refine dr 5 (k := ?_) | refine dr 6 (k := ?_) | refine dr 7 (k := ?_) | refine dr 8 (k := ?_) | refine dr 9 (k := ?_) | refine dr 10 (k := ?_) | refine dr 11 (k := ?_) | refine dr 12 (k := ?_) | fail))); (all_goals (try (conv => whnf))); (all_goals (try exact trivial))
      · rintro ⟨k, q⟩ ⟨hk1, hk2⟩
        dsimp only at hk1 hk2
        have e1 : v + c + k = v + (c + k) := by omega
        have hst := step14 a ha x v c k (by omega) (by omega) (by omega)
        (repeat' ((conv => whnf); (first | ((with_reducible refine spl (fun hc => ?_) (fun hc => ?_)) <;> (try (exfalso; omega))) | ((with_reducible refine spl' (fun hc => ?_) (fun hc => ?_)) <;> (try (exfalso; omega))) | (with_reducible refine imp_intro (fun hc => ?_)) | refine vc (k := ?_) | refine dr 1 (k := ?_) | refine dr 2 (k := ?_) | refine dr 3 (k := ?_) | refine dr 4 (k := ?_) | refine dr 5 (k := ?_) | refine dr 6 (k := ?_) | refine dr 7 (k := ?_) | refine dr 8 (k := ?_) | refine dr 9 (k := ?_) | refine dr 10 (k := ?_) | refine dr 11 (k := ?_) | refine dr 12 (k := ?_) | fail))); (all_goals (try (conv => whnf))); (all_goals (try exact trivial))
        · have hst := hst (by omega)
          rw [e1] at hst
          (repeat' ((conv => whnf); (first | ((with_reducible refine spl (fun hc => ?_) (fun hc => ?_)) <;> (try (exfalso; omega))) | ((with_reducible refine spl' (fun hc => ?_) (fun hc => ?_)) <;> (try (exfalso; omega))) | (with_reducible refine imp_intro (fun hc => ?_)) | refine vc (k := ?_) | refine dr 1 (k := ?_) | refine dr 2 (k := ?_) | refine dr 3 (k := ?_) | refine dr 4 (k := ?_) | refine dr 5 (k := ?_) | refine dr 6 (k := ?_) | refine dr 7 (k := ?_) | refine dr 8 (k := ?_) | refine dr 9 (k := ?_) | refine dr 10 (k := ?_) | refine dr 11 (k := ?_) | refine dr 12 (k := ?_) | fail))); (all_goals (try (conv => whnf))); (all_goals (try exact trivial)); (repeat' ((first | (refine callee_fo (hst) rfl ?_; rintro _ rfl) | (refine pcall_intro (hst) rfl ?_) | (refine pcall_soft (fun _ => hst) rfl ?_)); (repeat' ((conv => whnf); (first | ((with_reducible refine spl (fun hc => ?_) (fun hc => ?_)) <;> (try (exfalso; omega))) | ((with_reducible refine spl' (fun hc => ?_) (fun hc => ?_)) <;> (try (exfalso; omega))) | (with_reducible refine imp_intro (fun hc => ?_)) | refine vc (k := ?_) | refine dr 1 (k := ?_) | refine dr 2 (k := ?_) | refine dr 3 (k := ?_) | refine dr 4 (k := ?_) | refine dr 5 (k := ?_) | refine dr 6 (k := ?_) | refine dr 7 (k := ?_) | refine dr 8 (k := ?_) | refine dr 9 (k := ?_) | refine dr 10 (k := ?_) | refine dr 11 (k := ?_) | refine dr 12 (k := ?_) | fail))); (all_goals (try (conv => whnf))); (all_goals (try exact trivial)))); (all_goals (try (refine ⟨_, rfl, ?_⟩; (repeat' ((conv => whnf); (first | ((with_reducible refine spl (fun hc => ?_) (fun hc => ?_)) <;> (try (exfalso; omega))) | ((with_reducible refine spl' (fun hc => ?_) (fun hc => ?_)) <;> (try (exfalso; omega))) | (with_reducible refine imp_intro (fun hc => ?_)) | refine vc (k := ?_) | refine dr 1 (k := ?_) | refine dr 2 (k := ?_) | refine dr 3 (k := ?_) | refine dr 4 (k := ?_) | refine dr 5 (k := ?_) | refine dr 6 (k := ?_) | refine dr 7 (k := ?_) | refine dr 8 (k := ?_) | refine dr 9 (k := ?_) | refine dr 10 (k := ?_) | refine dr 11 (k := ?_) | refine dr 12 (k := ?_) | fail))); (all_goals (try (conv => whnf))); (all_goals (try exact trivial)))))
          · obtain ⟨hq, hh⟩ := id hc
            obtain ⟨i1, i2, i3⟩ := Arm.spots_at ha hh
            obtain ⟨hh1, hh2⟩ := id hh
            have hq := hk2.1 hq
            (repeat' ((conv => whnf); (first | ((with_reducible refine spl (fun hc => ?_) (fun hc => ?_)) <;> (try (exfalso; omega))) | ((with_reducible refine spl' (fun hc => ?_) (fun hc => ?_)) <;> (try (exfalso; omega))) | (with_reducible refine imp_intro (fun hc => ?_)) | refine vc (k := ?_) | refine dr 1 (k := ?_) | refine dr 2 (k := ?_) | refine dr 3 (k := ?_) | refine dr 4 (k := ?_) | refine dr 5 (k := ?_) | refine dr 6 (k := ?_) | refine dr 7 (k := ?_) | refine dr 8 (k := ?_) | refine dr 9 (k := ?_) | refine dr 10 (k := ?_) | refine dr 11 (k := ?_) | refine dr 12 (k := ?_) | fail))); (all_goals (try (conv => whnf))); (all_goals (try exact trivial)); (repeat' ((first | (refine callee_fo (number49 a ha (x + (v + (c + k))) (v + (c + k)) (by omega) (by omega)) rfl ?_; rintro _ rfl) | (refine pcall_intro (number49 a ha (x + (v + (c + k))) (v + (c + k)) (by omega) (by omega)) rfl ?_) | (refine pcall_soft (fun _ => number49 a ha (x + (v + (c + k))) (v + (c + k)) (by omega) (by omega)) rfl ?_)); (repeat' ((conv => whnf); (first | ((with_reducible refine spl (fun hc => ?_) (fun hc => ?_)) <;> (try (exfalso; omega))) | ((with_reducible refine spl' (fun hc => ?_) (fun hc => ?_)) <;> (try (exfalso; omega))) | (with_reducible refine imp_intro (fun hc => ?_)) | refine vc (k := ?_) | refine dr 1 (k := ?_) | refine dr 2 (k := ?_) | refine dr 3 (k := ?_) | refine dr 4 (k := ?_) | refine dr 5 (k := ?_) | refine dr 6 (k := ?_) | refine dr 7 (k := ?_) | refine dr 8 (k := ?_) | refine dr 9 (k := ?_) | refine dr 10 (k := ?_) | refine dr 11 (k := ?_) | refine dr 12 (k := ?_) | fail))); (all_goals (try (conv => whnf))); (all_goals (try exact trivial)))); (all_goals (try (refine ⟨_, rfl, ?_⟩; (repeat' ((conv => whnf); (first | ((with_reducible refine spl (fun hc => ?_) (fun hc => ?_)) <;> (try (exfalso; omega))) | ((with_reducible refine spl' (fun hc => ?_) (fun hc => ?_)) <;> (try (exfalso; omega))) | (with_reducible refine imp_intro (fun hc => ?_)) | refine vc (k := ?_) | refine dr 1 (k := ?_) | refine dr 2 (k := ?_) | refine dr 3 (k := ?_) | refine dr 4 (k := ?_) | refine dr 5 (k := ?_) | refine dr 6 (k := ?_) | refine dr 7 (k := ?_) | refine dr 8 (k := ?_) | refine dr 9 (k := ?_) | refine dr 10 (k := ?_) | refine dr 11 (k := ?_) | refine dr 12 (k := ?_) | fail))); (all_goals (try (conv => whnf))); (all_goals (try exact trivial)))))
            refine ⟨(k + 1, D (a.spots.getD ((x + (v + (c + k))) * (2 * a.S + 1) + (v + (c + k)) + a.S).toNat (0, 0)).1 (a.spots.getD ((x + (v + (c + k))) * (2 * a.S + 1) + (v + (c + k)) + a.S).toNat (0, 0)).2), ⟨⟨by dsimp only; omega, ?_⟩, by dsimp only; omega⟩, some [some 0, some 1], ?_⟩
            · dsimp only
              rw [i3]
              refine ⟨fun hm j h1 h2 => ?_, fun h => (h k (by omega) (by omega)).2⟩
              rcases Int.lt_or_eq_of_le (show j ≤ k by omega) with h3 | rfl
              · exact hq j h1 h3
              · exact ⟨hh, hm⟩
            · (repeat' ((conv => whnf); (first | ((with_reducible refine spl (fun hc => ?_) (fun hc => ?_)) <;> (try (exfalso; omega))) | ((with_reducible refine spl' (fun hc => ?_) (fun hc => ?_)) <;> (try (exfalso; omega))) | (with_reducible refine imp_intro (fun hc => ?_)) | refine vc (k := ?_) | refine dr 1 (k := ?_) | refine dr 2 (k := ?_) | refine dr 3 (k := ?_) | refine dr 4 (k := ?_) | refine dr 5 (k := ?_) | refine dr 6 (k := ?_) | refine dr 7 (k := ?_) | refine dr 8 (k := ?_) | refine dr 9 (k := ?_) | refine dr 10 (k := ?_) | refine dr 11 (k := ?_) | refine dr 12 (k := ?_) | fail))); (all_goals (try (conv => whnf))); (all_goals (try exact trivial))
          · refine ⟨(k + 1, False), ⟨⟨by dsimp only; omega, ⟨False.elim, fun h => hc ⟨hk2.2 fun j h1 h2 => h j h1 (by dsimp only; omega), (h k (by omega) (by dsimp only; omega)).1⟩⟩⟩, by dsimp only; omega⟩, some [some 0, some 1], ?_⟩
            (repeat' ((conv => whnf); (first | ((with_reducible refine spl (fun hc => ?_) (fun hc => ?_)) <;> (try (exfalso; omega))) | ((with_reducible refine spl' (fun hc => ?_) (fun hc => ?_)) <;> (try (exfalso; omega))) | (with_reducible refine imp_intro (fun hc => ?_)) | refine vc (k := ?_) | refine dr 1 (k := ?_) | refine dr 2 (k := ?_) | refine dr 3 (k := ?_) | refine dr 4 (k := ?_) | refine dr 5 (k := ?_) | refine dr 6 (k := ?_) | refine dr 7 (k := ?_) | refine dr 8 (k := ?_) | refine dr 9 (k := ?_) | refine dr 10 (k := ?_) | refine dr 11 (k := ?_) | refine dr 12 (k := ?_) | fail))); (all_goals (try (conv => whnf))); (all_goals (try exact trivial))
        · have hkk : k = a.K + 1 := by omega
          subst hkk
          have hg : a.IsCmd D x v c := ⟨hc1.1, by omega, fun d h1 h2 => hk2.1 hc d h1 (by omega), hc2⟩
          refine ⟨_, rfl, ?_⟩
          (repeat' ((conv => whnf); (first | ((with_reducible refine spl (fun hc => ?_) (fun hc => ?_)) <;> (try (exfalso; omega))) | ((with_reducible refine spl' (fun hc => ?_) (fun hc => ?_)) <;> (try (exfalso; omega))) | (with_reducible refine imp_intro (fun hc => ?_)) | refine vc (k := ?_) | refine dr 1 (k := ?_) | refine dr 2 (k := ?_) | refine dr 3 (k := ?_) | refine dr 4 (k := ?_) | refine dr 5 (k := ?_) | refine dr 6 (k := ?_) | refine dr 7 (k := ?_) | refine dr 8 (k := ?_) | refine dr 9 (k := ?_) | refine dr 10 (k := ?_) | refine dr 11 (k := ?_) | refine dr 12 (k := ?_) | fail))); (all_goals (try (conv => whnf))); (all_goals (try exact trivial))
          exact ⟨(a.cmd_eq hg).symm, ⟨c, hg.1, hg.2.1, hg.2.2.1⟩, trivial⟩
        · have hnq := hc
          have hkk : k = a.K + 1 := by omega
          subst hkk
          refine ⟨c + 1, ⟨⟨by omega, fun d h1 h2 hg => ?_⟩, by dsimp only; omega⟩, none, ?_⟩
          · rcases Int.lt_or_eq_of_le (show d ≤ c by omega) with h3 | rfl
            · exact hc2 d h1 h3 hg
            · exact hnq (hk2.2 fun j h1 h2 => hg j h1 (by omega))
          · (repeat' ((conv => whnf); (first | ((with_reducible refine spl (fun hc => ?_) (fun hc => ?_)) <;> (try (exfalso; omega))) | ((with_reducible refine spl' (fun hc => ?_) (fun hc => ?_)) <;> (try (exfalso; omega))) | (with_reducible refine imp_intro (fun hc => ?_)) | refine vc (k := ?_) | refine dr 1 (k := ?_) | refine dr 2 (k := ?_) | refine dr 3 (k := ?_) | refine dr 4 (k := ?_) | refine dr 5 (k := ?_) | refine dr 6 (k := ?_) | refine dr 7 (k := ?_) | refine dr 8 (k := ?_) | refine dr 9 (k := ?_) | refine dr 10 (k := ?_) | refine dr 11 (k := ?_) | refine dr 12 (k := ?_) | fail))); (all_goals (try (conv => whnf))); (all_goals (try exact trivial))
    · have hn : ¬ a.Can D x v := fun ⟨d, h1, h2, h3⟩ => hc2 d h1 (by omega) h3
      refine ⟨_, rfl, ?_⟩
      (repeat' ((conv => whnf); (first | ((with_reducible refine spl (fun hc => ?_) (fun hc => ?_)) <;> (try (exfalso; omega))) | ((with_reducible refine spl' (fun hc => ?_) (fun hc => ?_)) <;> (try (exfalso; omega))) | (with_reducible refine imp_intro (fun hc => ?_)) | refine vc (k := ?_) | refine dr 1 (k := ?_) | refine dr 2 (k := ?_) | refine dr 3 (k := ?_) | refine dr 4 (k := ?_) | refine dr 5 (k := ?_) | refine dr 6 (k := ?_) | refine dr 7 (k := ?_) | refine dr 8 (k := ?_) | refine dr 9 (k := ?_) | refine dr 10 (k := ?_) | refine dr 11 (k := ?_) | refine dr 12 (k := ?_) | fail))); (all_goals (try (conv => whnf))); (all_goals (try exact trivial))
      exact ⟨(a.cmd_none hn).symm, hn, trivial⟩

theorem spots_mem {a : Arm} (ha : a.Ok) {i : Nat} (hi : i < a.spots.length) : a.Has (a.spots.getD i (0, 0)).1 (a.spots.getD i (0, 0)).2 := by
  rw [List.getD_eq_getElem?_getD, List.getElem?_eq_getElem hi, Option.getD_some]
  exact (a.mem_spots ha _ _).1 (List.getElem_mem hi)

theorem Arm.spots_nodup (a : Arm) : a.spots.Nodup := by
  unfold Arm.spots Arm.spotsTo
  rw [List.Nodup, List.flatMap, List.pairwise_flatten]
  refine ⟨?_, ?_⟩
  · intro l hl
    obtain ⟨i, _, rfl⟩ := List.mem_map.1 hl
    unfold Arm.rowTo
    rw [List.pairwise_map]
    exact List.nodup_range.imp (fun h h2 => h (by simp only [Prod.mk.injEq] at h2; omega))
  · rw [List.pairwise_map]
    refine List.nodup_range.imp ?_
    intro i j hij x hx y hy hxy
    subst hxy
    unfold Arm.rowTo at hx hy
    simp only [List.mem_map] at hx hy
    obtain ⟨k, _, rfl⟩ := hx
    obtain ⟨k', _, h⟩ := hy
    simp only [Prod.mk.injEq] at h
    omega

theorem spots_inj {a : Arm} {i j : Nat} (hi : i < a.spots.length) (hj : j < a.spots.length) (h : a.spots.getD i (0, 0) = a.spots.getD j (0, 0)) : i = j := by
  rw [List.getD_eq_getElem?_getD, List.getElem?_eq_getElem hi, List.getD_eq_getElem?_getD, List.getElem?_eq_getElem hj] at h
  rcases Nat.lt_trichotomy i j with h1 | h1 | h1
  · exact absurd h (List.pairwise_iff_getElem.1 a.spots_nodup i j hi hj h1)
  · exact h1
  · exact absurd h.symm (List.pairwise_iff_getElem.1 a.spots_nodup j i hj hi h1)

/-- a set without one state -/
def without (D : Int → Int → Prop) (s : Int × Int) (x v : Int) : Prop := D x v ∧ (x, v) ≠ s

theorem keep62 (a : Arm) (ha : a.Ok) (p : Int → Int → Prop) : PureC Try.prog 62 false [a.v, .sl 1 a.spots.length (rowOf (boolC p) (0, 0) a.spots)] (· = .sl 1 a.spots.length (rowOf (boolC (a.Kept p)) (0, 0) a.spots)) := by
  have hsl := Arm.spots_le ha
  refine pureC_of_exec Try.E_ok Try.func62 rfl (by kernel_rfl) ?_
  (repeat' ((conv => whnf); (first | ((with_reducible refine spl (fun hc => ?_) (fun hc => ?_)) <;> (try (exfalso; omega))) | ((with_reducible refine spl' (fun hc => ?_) (fun hc => ?_)) <;> (try (exfalso; omega))) | (with_reducible refine imp_intro (fun hc => ?_)) | refine vc (k := ?_) | refine dr 1 (k := ?_) | refine dr 2 (k := ?_) | refine dr 3 (k := ?_) | refine dr 4 (k := ?_) | refine dr 5 (k := ?_) | refine dr 6 (k := ?_) | refine dr 7 (k := ?_) | refine dr 8 (k := ?_) | refine dr 9 (k := ?_) | refine dr 10 (k := ?_) | refine dr 11 (k := ?_) | refine dr 12 (k := ?_) | fail))); (all_goals (try (conv => whnf))); (all_goals (try exact trivial)); (repeat' ((first | (refine callee_fo (states61 a ha) rfl ?_; rintro _ rfl) | (refine pcall_intro (states61 a ha) rfl ?_) | (refine pcall_soft (fun _ => states61 a ha) rfl ?_)); (repeat' ((conv => whnf); (first | ((with_reducible refine spl (fun hc => ?_) (fun hc => ?_)) <;> (try (exfalso; omega))) | ((with_reducible refine spl' (fun hc => ?_) (fun hc => ?_)) <;> (try (exfalso; omega))) | (with_reducible refine imp_intro (fun hc => ?_)) | refine vc (k := ?_) | refine dr 1 (k := ?_) | refine dr 2 (k := ?_) | refine dr 3 (k := ?_) | refine dr 4 (k := ?_) | refine dr 5 (k := ?_) | refine dr 6 (k := ?_) | refine dr 7 (k := ?_) | refine dr 8 (k := ?_) | refine dr 9 (k := ?_) | refine dr 10 (k := ?_) | refine dr 11 (k := ?_) | refine dr 12 (k := ?_) | fail))); (all_goals (try (conv => whnf))); (all_goals (try exact trivial)))); (all_goals (try (refine ⟨_, rfl, ?_⟩; (repeat' ((conv => whnf); (first | ((with_reducible refine spl (fun hc => ?_) (fun hc => ?_)) <;> (try (exfalso; omega))) | ((with_reducible refine spl' (fun hc => ?_) (fun hc => ?_)) <;> (try (exfalso; omega))) | (with_reducible refine imp_intro (fun hc => ?_)) | refine vc (k := ?_) | refine dr 1 (k := ?_) | refine dr 2 (k := ?_) | refine dr 3 (k := ?_) | refine dr 4 (k := ?_) | refine dr 5 (k := ?_) | refine dr 6 (k := ?_) | refine dr 7 (k := ?_) | refine dr 8 (k := ?_) | refine dr 9 (k := ?_) | refine dr 10 (k := ?_) | refine dr 11 (k := ?_) | refine dr 12 (k := ?_) | fail))); (all_goals (try (conv => whnf))); (all_goals (try exact trivial)))))
  refine ⟨(Int → Int → Prop) × Prop, fun i => (∀ x v, i.1 x v → a.Has x v → p x v) ∧ (∀ x v, a.Kept p x v → i.1 x v) ∧ (¬ i.2 → ∀ x v, a.Has x v → i.1 x v → a.Can i.1 x v), fun i => 2 * (sel i.1 a.spots).length + (@ite _ i.2 (Classical.propDecidable _) 1 0), fun i => [(7, .prop i.2 (Classical.propDecidable _))], fun i => [(2, .row 4 1 (0 + a.spots.length) (rowOf (boolC i.1) (0, 0) a.spots) false)], fun _ => [], (p, True), ⟨⟨fun _ _ h _ => h, fun _ _ h => h.told, fun h => (h trivial).elim⟩, some [some 0, some 1, some 2], ?_⟩, ?_⟩
  · (repeat' ((conv => whnf); (first | ((with_reducible refine spl (fun hc => ?_) (fun hc => ?_)) <;> (try (exfalso; omega))) | ((with_reducible refine spl' (fun hc => ?_) (fun hc => ?_)) <;> (try (exfalso; omega))) | (with_reducible refine imp_intro (fun hc => ?_)) | refine vc (k := ?_) | refine dr 1 (k := ?_) | refine dr 2 (k := ?_) | refine dr 3 (k := ?_) | refine dr 4 (k := ?_) | refine dr 5 (k := ?_) | refine dr 6 (k := ?_) | refine dr 7 (k := ?_) | refine dr 8 (k := ?_) | refine dr 9 (k := ?_) | refine dr 10 (k := ?_) | refine dr 11 (k := ?_) | refine dr 12 (k := ?_) | fail))); (all_goals (try (conv => whnf))); (all_goals (try exact trivial))
  · rintro ⟨D, ch⟩ ⟨hD1, hD2, hD3⟩
    dsimp only at hD1 hD2 hD3
    (repeat' ((conv => whnf); (first | ((with_reducible refine spl (fun hc => ?_) (fun hc => ?_)) <;> (try (exfalso; omega))) | ((with_reducible refine spl' (fun hc => ?_) (fun hc => ?_)) <;> (try (exfalso; omega))) | (with_reducible refine imp_intro (fun hc => ?_)) | refine vc (k := ?_) | refine dr 1 (k := ?_) | refine dr 2 (k := ?_) | refine dr 3 (k := ?_) | refine dr 4 (k := ?_) | refine dr 5 (k := ?_) | refine dr 6 (k := ?_) | refine dr 7 (k := ?_) | refine dr 8 (k := ?_) | refine dr 9 (k := ?_) | refine dr 10 (k := ?_) | refine dr 11 (k := ?_) | refine dr 12 (k := ?_) | fail))); (all_goals (try (conv => whnf))); (all_goals (try exact trivial))
    · refine ⟨Nat × (Int → Int → Prop) × Prop, fun i => i.1 ≤ a.spots.length ∧ (∀ x v, i.2.1 x v → D x v) ∧ (∀ x v, a.Kept p x v → i.2.1 x v) ∧ (¬ i.2.2 → i.2.1 = D ∧ ∀ j, j < i.1 → D (a.spots.getD j (0, 0)).1 (a.spots.getD j (0, 0)).2 → a.Can D (a.spots.getD j (0, 0)).1 (a.spots.getD j (0, 0)).2) ∧ (i.2.2 → (sel i.2.1 a.spots).length < (sel D a.spots).length), fun i => a.spots.length - i.1, fun i => [(8, .int .i64 i.1), (7, .prop i.2.2 (Classical.propDecidable _))], fun i => [(2, .row 4 1 (0 + a.spots.length) (rowOf (boolC i.2.1) (0, 0) a.spots) false)], fun _ => [], (0, D, False), ⟨⟨by simp, fun _ _ h => h, hD2, fun _ => ⟨rfl, fun j h => by simp at h⟩, False.elim⟩, some [some 0, some 1, some 2], ?_⟩, ?_⟩
      · (repeat' ((conv => whnf); (first | ((with_reducible refine spl (fun hc => ?_) (fun hc => ?_)) <;> (try (exfalso; omega))) | ((with_reducible refine spl' (fun hc => ?_) (fun hc => ?_)) <;> (try (exfalso; omega))) | (with_reducible refine imp_intro (fun hc => ?_)) | refine vc (k := ?_) | refine dr 1 (k := ?_) | refine dr 2 (k := ?_) | refine dr 3 (k := ?_) | refine dr 4 (k := ?_) | refine dr 5 (k := ?_) | refine dr 6 (k := ?_) | refine dr 7 (k := ?_) | refine dr 8 (k := ?_) | refine dr 9 (k := ?_) | refine dr 10 (k := ?_) | refine dr 11 (k := ?_) | refine dr 12 (k := ?_) | fail))); (all_goals (try (conv => whnf))); (all_goals (try exact trivial))
      · rintro ⟨i, D', ch'⟩ ⟨h1, h2, h3, h4, h5⟩
        dsimp only at h1 h2 h3 h4 h5
        (repeat' ((conv => whnf); (first | ((with_reducible refine spl (fun hc => ?_) (fun hc => ?_)) <;> (try (exfalso; omega))) | ((with_reducible refine spl' (fun hc => ?_) (fun hc => ?_)) <;> (try (exfalso; omega))) | (with_reducible refine imp_intro (fun hc => ?_)) | refine vc (k := ?_) | refine dr 1 (k := ?_) | refine dr 2 (k := ?_) | refine dr 3 (k := ?_) | refine dr 4 (k := ?_) | refine dr 5 (k := ?_) | refine dr 6 (k := ?_) | refine dr 7 (k := ?_) | refine dr 8 (k := ?_) | refine dr 9 (k := ?_) | refine dr 10 (k := ?_) | refine dr 11 (k := ?_) | refine dr 12 (k := ?_) | fail))); (all_goals (try (conv => whnf))); (all_goals (try exact trivial))
        · have hi : i < a.spots.length := by omega
          have hnD : ¬ D' (a.spots.getD (i : Int).toNat (0, 0)).1 (a.spots.getD (i : Int).toNat (0, 0)).2 := hc
          rw [Int.toNat_natCast] at hnD
          refine ⟨(i + 1, D', ch'), ⟨⟨by dsimp only; omega, h2, h3, fun hn => ⟨(h4 hn).1, fun j hj hd => ?_⟩, h5⟩, by dsimp only; omega⟩, some [some 0, some 1, some 2], ?_⟩
          · dsimp only at hj
            rcases Nat.lt_or_eq_of_le (show j ≤ i by omega) with h6 | rfl
            · exact (h4 hn).2 j h6 hd
            · rw [(h4 hn).1] at hnD; exact absurd hd hnD
          · (repeat' ((conv => whnf); (first | ((with_reducible refine spl (fun hc => ?_) (fun hc => ?_)) <;> (try (exfalso; omega))) | ((with_reducible refine spl' (fun hc => ?_) (fun hc => ?_)) <;> (try (exfalso; omega))) | (with_reducible refine imp_intro (fun hc => ?_)) | refine vc (k := ?_) | refine dr 1 (k := ?_) | refine dr 2 (k := ?_) | refine dr 3 (k := ?_) | refine dr 4 (k := ?_) | refine dr 5 (k := ?_) | refine dr 6 (k := ?_) | refine dr 7 (k := ?_) | refine dr 8 (k := ?_) | refine dr 9 (k := ?_) | refine dr 10 (k := ?_) | refine dr 11 (k := ?_) | refine dr 12 (k := ?_) | fail))); (all_goals (try (conv => whnf))); (all_goals (try exact trivial))
        · have hi : i < a.spots.length := by omega
          have hhas := spots_mem ha hi
          have hDi : D' (a.spots.getD (i : Int).toNat (0, 0)).1 (a.spots.getD (i : Int).toNat (0, 0)).2 := Classical.not_not.1 hc
          have hti : (i : Int).toNat = i := Int.toNat_natCast i
          refine pcall_view (command63 a ha D' (a.spots.getD (i : Int).toNat (0, 0)).1 (a.spots.getD (i : Int).toNat (0, 0)).2 (by rw [hti]; exact hhas)) (by (repeat' ((conv => whnf); (first | ((with_reducible refine spl (fun hc => ?_) (fun hc => ?_)) <;> (try (exfalso; omega))) | ((with_reducible refine spl' (fun hc => ?_) (fun hc => ?_)) <;> (try (exfalso; omega))) | (with_reducible refine imp_intro (fun hc => ?_)) | refine vc (k := ?_) | refine dr 1 (k := ?_) | refine dr 2 (k := ?_) | refine dr 3 (k := ?_) | refine dr 4 (k := ?_) | refine dr 5 (k := ?_) | refine dr 6 (k := ?_) | refine dr 7 (k := ?_) | refine dr 8 (k := ?_) | refine dr 9 (k := ?_) | refine dr 10 (k := ?_) | refine dr 11 (k := ?_) | refine dr 12 (k := ?_) | fail))); (all_goals (try (conv => whnf))); (all_goals (try exact trivial))) ?_
          (repeat' ((conv => whnf); (first | ((with_reducible refine spl (fun hc => ?_) (fun hc => ?_)) <;> (try (exfalso; omega))) | ((with_reducible refine spl' (fun hc => ?_) (fun hc => ?_)) <;> (try (exfalso; omega))) | (with_reducible refine imp_intro (fun hc => ?_)) | refine vc (k := ?_) | refine dr 1 (k := ?_) | refine dr 2 (k := ?_) | refine dr 3 (k := ?_) | refine dr 4 (k := ?_) | refine dr 5 (k := ?_) | refine dr 6 (k := ?_) | refine dr 7 (k := ?_) | refine dr 8 (k := ?_) | refine dr 9 (k := ?_) | refine dr 10 (k := ?_) | refine dr 11 (k := ?_) | refine dr 12 (k := ?_) | fail))); (all_goals (try (conv => whnf))); (all_goals (try exact trivial))
          · have hncan : ¬ a.Can D' (a.spots.getD (i : Int).toNat (0, 0)).1 (a.spots.getD (i : Int).toNat (0, 0)).2 := hc
            rw [hti] at hncan hDi
            refine ⟨(i + 1, without D' (a.spots.getD i (0, 0)), True), ⟨⟨by dsimp only; omega, fun x v h => h2 x v h.1, fun x v hk => ⟨h3 x v hk, fun he => ?_⟩, fun hn => (hn trivial).elim, fun _ => ?_⟩, by dsimp only; omega⟩, some [some 0, some 1, some 2], ?_⟩
            · rw [← he] at hncan
              exact hncan (hk.can.mono fun y u _ hy => h3 y u hy)
            · have hlt : (sel (without D' (a.spots.getD i (0, 0))) a.spots).length < (sel D' a.spots).length := sel_lt (fun _ _ h => h.1) (s := a.spots.getD i (0, 0)) ((a.mem_spots ha _ _).2 hhas) hDi (fun h => h.2 rfl)
              by_cases hch : ch'
              · have := h5 hch; dsimp only; omega
              · rw [(h4 hch).1] at hlt; dsimp only; rw [(h4 hch).1]; exact hlt
            · (repeat' ((conv => whnf); (first | ((with_reducible refine spl (fun hc => ?_) (fun hc => ?_)) <;> (try (exfalso; omega))) | ((with_reducible refine spl' (fun hc => ?_) (fun hc => ?_)) <;> (try (exfalso; omega))) | (with_reducible refine imp_intro (fun hc => ?_)) | refine vc (k := ?_) | refine dr 1 (k := ?_) | refine dr 2 (k := ?_) | refine dr 3 (k := ?_) | refine dr 4 (k := ?_) | refine dr 5 (k := ?_) | refine dr 6 (k := ?_) | refine dr 7 (k := ?_) | refine dr 8 (k := ?_) | refine dr 9 (k := ?_) | refine dr 10 (k := ?_) | refine dr 11 (k := ?_) | refine dr 12 (k := ?_) | fail))); (all_goals (try (conv => whnf))); (all_goals (try exact trivial))
              refine ⟨fun j hj => ?_, ?_⟩
              · have hj : j < a.spots.length := by omega
                dsimp only
                rw [hti]
                by_cases hji : j = i
                · subst hji
                  rw [if_pos rfl]
                  show [_] = [_]
                  congr 1
                  exact prop_eq ⟨False.elim, fun h => h.2 rfl⟩
                · rw [if_neg hji]
                  show [_] = [_]
                  congr 1
                  exact prop_eq ⟨fun h => ⟨h, fun he => hji (spots_inj hj hi he)⟩, fun h => h.1⟩
              · (repeat' ((conv => whnf); (first | ((with_reducible refine spl (fun hc => ?_) (fun hc => ?_)) <;> (try (exfalso; omega))) | ((with_reducible refine spl' (fun hc => ?_) (fun hc => ?_)) <;> (try (exfalso; omega))) | (with_reducible refine imp_intro (fun hc => ?_)) | refine vc (k := ?_) | refine dr 1 (k := ?_) | refine dr 2 (k := ?_) | refine dr 3 (k := ?_) | refine dr 4 (k := ?_) | refine dr 5 (k := ?_) | refine dr 6 (k := ?_) | refine dr 7 (k := ?_) | refine dr 8 (k := ?_) | refine dr 9 (k := ?_) | refine dr 10 (k := ?_) | refine dr 11 (k := ?_) | refine dr 12 (k := ?_) | fail))); (all_goals (try (conv => whnf))); (all_goals (try exact trivial))
          · have hcan : a.Can D' (a.spots.getD (i : Int).toNat (0, 0)).1 (a.spots.getD (i : Int).toNat (0, 0)).2 := Classical.not_not.1 hc
            rw [hti] at hcan
            refine ⟨(i + 1, D', ch'), ⟨⟨by dsimp only; omega, h2, h3, fun hn => ⟨(h4 hn).1, fun j hj hd => ?_⟩, h5⟩, by dsimp only; omega⟩, some [some 0, some 1, some 2], ?_⟩
            · dsimp only at hj
              rcases Nat.lt_or_eq_of_le (show j ≤ i by omega) with h6 | rfl
              · exact (h4 hn).2 j h6 hd
              · rw [(h4 hn).1] at hcan; exact hcan
            · (repeat' ((conv => whnf); (first | ((with_reducible refine spl (fun hc => ?_) (fun hc => ?_)) <;> (try (exfalso; omega))) | ((with_reducible refine spl' (fun hc => ?_) (fun hc => ?_)) <;> (try (exfalso; omega))) | (with_reducible refine imp_intro (fun hc => ?_)) | refine vc (k := ?_) | refine dr 1 (k := ?_) | refine dr 2 (k := ?_) | refine dr 3 (k := ?_) | refine dr 4 (k := ?_) | refine dr 5 (k := ?_) | refine dr 6 (k := ?_) | refine dr 7 (k := ?_) | refine dr 8 (k := ?_) | refine dr 9 (k := ?_) | refine dr 10 (k := ?_) | refine dr 11 (k := ?_) | refine dr 12 (k := ?_) | fail))); (all_goals (try (conv => whnf))); (all_goals (try exact trivial))
        · have hii : i = a.spots.length := by dsimp only at hc; omega
          have hch : ch := by assumption
          refine ⟨(D', ch'), ⟨⟨fun x v h => hD1 x v (h2 x v h), h3, fun hn x v hx hd => ?_⟩, ?_⟩, some [some 0, some 1, some 2], ?_⟩
          · obtain ⟨j, hj, hjs⟩ := List.getElem_of_mem ((a.mem_spots ha x v).2 hx)
            have hg : a.spots.getD j (0, 0) = (x, v) := by rw [List.getD_eq_getElem?_getD, List.getElem?_eq_getElem hj, Option.getD_some, hjs]
            have := (h4 hn).2 j (by omega)
            rw [hg] at this
            dsimp only at hd ⊢
            rw [(h4 hn).1] at hd ⊢
            exact this hd
          · dsimp only
            rw [if_pos hch]
            by_cases hc' : ch'
            · rw [if_pos hc']; have := h5 hc'; omega
            · rw [if_neg hc', (h4 hc').1]; omega
          · (repeat' ((conv => whnf); (first | ((with_reducible refine spl (fun hc => ?_) (fun hc => ?_)) <;> (try (exfalso; omega))) | ((with_reducible refine spl' (fun hc => ?_) (fun hc => ?_)) <;> (try (exfalso; omega))) | (with_reducible refine imp_intro (fun hc => ?_)) | refine vc (k := ?_) | refine dr 1 (k := ?_) | refine dr 2 (k := ?_) | refine dr 3 (k := ?_) | refine dr 4 (k := ?_) | refine dr 5 (k := ?_) | refine dr 6 (k := ?_) | refine dr 7 (k := ?_) | refine dr 8 (k := ?_) | refine dr 9 (k := ?_) | refine dr 10 (k := ?_) | refine dr 11 (k := ?_) | refine dr 12 (k := ?_) | fail))); (all_goals (try (conv => whnf))); (all_goals (try exact trivial))
    · have hn : ¬ ch := hc
      have hst : ∀ x v, a.Has x v → (D x v ↔ a.Kept p x v) := fun x v hx => ⟨fun hd => Arm.Kept.of (A := fun x v => a.Has x v ∧ D x v) (fun x v h => ⟨h.1, hD1 x v h.2 h.1, (hD3 hn x v h.1 h.2).mono fun y u hy hd => ⟨hy, hd⟩⟩) ⟨hx, hd⟩, hD2 x v⟩
      refine ⟨_, rfl, ?_⟩
      (repeat' ((conv => whnf); (first | ((with_reducible refine spl (fun hc => ?_) (fun hc => ?_)) <;> (try (exfalso; omega))) | ((with_reducible refine spl' (fun hc => ?_) (fun hc => ?_)) <;> (try (exfalso; omega))) | (with_reducible refine imp_intro (fun hc => ?_)) | refine vc (k := ?_) | refine dr 1 (k := ?_) | refine dr 2 (k := ?_) | refine dr 3 (k := ?_) | refine dr 4 (k := ?_) | refine dr 5 (k := ?_) | refine dr 6 (k := ?_) | refine dr 7 (k := ?_) | refine dr 8 (k := ?_) | refine dr 9 (k := ?_) | refine dr 10 (k := ?_) | refine dr 11 (k := ?_) | refine dr 12 (k := ?_) | fail))); (all_goals (try (conv => whnf))); (all_goals (try exact trivial))
      refine ⟨fun i hi => ?_, ?_⟩
      · have hi : i < a.spots.length := by omega
        show [_] = [_]
        congr 1
        exact prop_eq (hst _ _ (spots_mem ha hi))
      · (repeat' ((conv => whnf); (first | ((with_reducible refine spl (fun hc => ?_) (fun hc => ?_)) <;> (try (exfalso; omega))) | ((with_reducible refine spl' (fun hc => ?_) (fun hc => ?_)) <;> (try (exfalso; omega))) | (with_reducible refine imp_intro (fun hc => ?_)) | refine vc (k := ?_) | refine dr 1 (k := ?_) | refine dr 2 (k := ?_) | refine dr 3 (k := ?_) | refine dr 4 (k := ?_) | refine dr 5 (k := ?_) | refine dr 6 (k := ?_) | refine dr 7 (k := ?_) | refine dr 8 (k := ?_) | refine dr 9 (k := ?_) | refine dr 10 (k := ?_) | refine dr 11 (k := ?_) | refine dr 12 (k := ?_) | fail))); (all_goals (try (conv => whnf))); (all_goals (try exact trivial))
end Go.Proofs
