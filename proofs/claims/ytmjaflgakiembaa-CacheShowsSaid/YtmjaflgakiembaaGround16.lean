/- Own work: texts of the proof of a law (CaC19, CaU1, CaU2, CaU3, CaC20, CaC22, CaC23, CaR0, CaL1, CaU4, CaC10, CaC11, CaC12). No condition. -/
import Derived.Test.YtmjaflgakiembaaGround15
namespace Go.Proofs
open Go Go.Sx
set_option maxRecDepth 100000
set_option maxHeartbeats 4000000
def intC (n : Int) : List V := [.int .i64 n]
def swapAt : Nat → List Int → List Int
  | 0, x :: y :: l => y :: x :: l
  | k + 1, x :: l => x :: swapAt k l
  | _, l => l
theorem swapAt_perm : ∀ (k : Nat) (l : List Int), (swapAt k l).Perm l
  | 0, [] => .refl _
  | 0, [_] => .refl _
  | 0, x :: y :: l => .swap x y l
  | _ + 1, [] => .refl _
  | k + 1, x :: l => (swapAt_perm k l).cons x
theorem swapAt_getD : ∀ (k : Nat) (l : List Int), k + 1 < l.length → ∀ i, (swapAt k l).getD i 0 = if i = k then l.getD (k + 1) 0 else if i = k + 1 then l.getD k 0 else l.getD i 0
  | 0, [], h, _ => by simp at h
  | 0, [_], h, _ => by simp at h
  | 0, x :: y :: l, _, i => by
    match i with
    | 0 => simp [swapAt]
    | 1 => simp [swapAt]
    | i + 2 => simp [swapAt]
  | k + 1, [], h, _ => by simp at h
  | k + 1, x :: l, h, i => by
    match i with
    | 0 => simp [swapAt]
    | i + 1 =>
      have := swapAt_getD k l (by simpa using h) i
      simp only [swapAt, List.getD_cons_succ]
      rw [this]
      simp
theorem less103 (x y : Int) : PureC Try.prog 103 false [.int .i64 x, .int .i64 y] (· = .prop (x < y) inferInstance) := by
  have h116 : ∀ z : Int, PureC Try.prog 116 false [.int .i64 z] (· = .prop (z ≠ z) inferInstance) := fun z => by
    refine pureC_of_exec Try.E_ok Try.func116 rfl (by kernel_rfl) ?_
    (repeat' ((conv => whnf); (first | (with_reducible first | apply spl | apply spl') <;> intro hc <;> try (exfalso; omega) | with_reducible refine iJ fun hc => ?_ | refine vcq (k := ?_) | fail))); all_goals ((try conv => whnf); try with_reducible exact trivial)
    refine ⟨_, rfl, ?_⟩
    (repeat' ((conv => whnf); (first | (with_reducible first | apply spl | apply spl') <;> intro hc <;> try (exfalso; omega) | with_reducible refine iJ fun hc => ?_ | refine vcq (k := ?_) | fail))); all_goals ((try conv => whnf); try with_reducible exact trivial)
  refine pureC_of_exec Try.E_ok Try.func103 rfl (by kernel_rfl) ?_
  (repeat' ((conv => whnf); (first | (with_reducible first | apply spl | apply spl') <;> intro hc <;> try (exfalso; omega) | with_reducible refine iJ fun hc => ?_ | refine vcq (k := ?_) | fail))); all_goals ((try conv => whnf); try with_reducible exact trivial); (repeat' ((first | (refine callee_fo (h116 x) rfl ?_; rintro _ rfl) | (refine pcall_intro (h116 x) rfl ?_) | (refine pcall_soft (fun _ => h116 x) rfl ?_) | (refine callee_fo (h116 y) rfl ?_; rintro _ rfl) | (refine pcall_intro (h116 y) rfl ?_) | (refine pcall_soft (fun _ => h116 y) rfl ?_)); (repeat' ((conv => whnf); (first | (with_reducible first | apply spl | apply spl') <;> intro hc <;> try (exfalso; omega) | with_reducible refine iJ fun hc => ?_ | refine vcq (k := ?_) | fail))); all_goals ((try conv => whnf); try with_reducible exact trivial))); (all_goals (try (refine ⟨_, rfl, ?_⟩; (repeat' ((conv => whnf); (first | (with_reducible first | apply spl | apply spl') <;> intro hc <;> try (exfalso; omega) | with_reducible refine iJ fun hc => ?_ | refine vcq (k := ?_) | fail))); all_goals ((try conv => whnf); try with_reducible exact trivial))))
theorem isort97 (l : List Int) (hl : l.length ≤ 12) : Sx.Callee Try.prog 97 [.osl 0 l.length, .int .i64 0, .int .i64 l.length] [.row 3 1 l.length (rowOf intC 0 l) true]
    (fun r H => r = .tup [] ∧ ∃ m : List Int, m.Perm l ∧ (∀ p q, p < q → q < l.length → m.getD p 0 ≤ m.getD q 0) ∧ H = [.row 3 1 l.length (rowOf intC 0 m) true]) := by
  refine callee_ent Try.E_ok Try.func97 rfl (by kernel_rfl) ?_
  (repeat' ((conv => whnf); (first | (with_reducible first | apply spl | apply spl') <;> intro hc <;> try (exfalso; omega) | with_reducible refine iJ fun hc => ?_ | refine vcq (k := ?_) | refine dr 15 (k := ?_) | refine dr 2015 (k := ?_)))); all_goals ((try conv => whnf); try with_reducible exact trivial)
  refine ⟨Nat × List Int, fun i => i.2.Perm l ∧ 1 ≤ i.1 ∧ (i.1 ≤ l.length ∨ i.1 = 1) ∧ ∀ p q, p < q → q < i.1 → q < l.length → i.2.getD p 0 ≤ i.2.getD q 0, fun i => l.length - i.1, fun i => [(6, .int .i64 i.1)], fun i => [(0, .row 3 1 l.length (rowOf intC 0 i.2) true)], fun _ => [], (1, l), ⟨⟨.refl _, by simp, .inr rfl, fun p q h1 h2 _ => by dsimp only at h2; omega⟩, some [some 0], ?_⟩, ?_⟩
  · (repeat' ((conv => whnf); (first | (with_reducible first | apply spl | apply spl') <;> intro hc <;> try (exfalso; omega) | with_reducible refine iJ fun hc => ?_ | refine vcq (k := ?_) | refine dr 15 (k := ?_) | refine dr 2015 (k := ?_)))); all_goals ((try conv => whnf); try with_reducible exact trivial)
  · rintro ⟨i, m⟩ ⟨h1, h2, h3, h4⟩
    dsimp only at h1 h2 h3 h4
    (repeat' ((conv => whnf); (first | (with_reducible first | apply spl | apply spl') <;> intro hc <;> try (exfalso; omega) | with_reducible refine iJ fun hc => ?_ | refine vcq (k := ?_) | refine dr 15 (k := ?_) | refine dr 2015 (k := ?_)))); all_goals ((try conv => whnf); try with_reducible exact trivial)
    · have hi : i < l.length := by dsimp only at hc; omega
      refine ⟨Nat × List Int, fun j => j.2.Perm l ∧ j.1 ≤ i ∧ (∀ p q, p < q → q ≤ i → p ≠ j.1 → q ≠ j.1 → j.2.getD p 0 ≤ j.2.getD q 0) ∧ ∀ q, j.1 < q → q ≤ i → j.2.getD j.1 0 ≤ j.2.getD q 0, fun j => j.1, fun j => [(7, .int .i64 j.1)], fun j => [(0, .row 3 1 l.length (rowOf intC 0 j.2) true)], fun _ => [], (i, m), ⟨⟨h1, Nat.le_refl _, fun p q g1 g2 g3 g4 => ?_, fun q g1 g2 => ?_⟩, some [some 0], ?_⟩, ?_⟩
      · dsimp only at *
        exact h4 p q g1 (by omega) (by omega)
      · dsimp only at *
        omega
      · (repeat' ((conv => whnf); (first | (with_reducible first | apply spl | apply spl') <;> intro hc <;> try (exfalso; omega) | with_reducible refine iJ fun hc => ?_ | refine vcq (k := ?_) | refine dr 15 (k := ?_) | refine dr 2015 (k := ?_)))); all_goals ((try conv => whnf); try with_reducible exact trivial)
      · rintro ⟨j, n⟩ ⟨g1, g2, g3, g4⟩
        dsimp only at g1 g2 g3 g4
        have hnl : n.length = l.length := g1.length_eq
        (repeat' ((conv => whnf); (first | (with_reducible first | apply spl | apply spl') <;> intro hc <;> try (exfalso; omega) | with_reducible refine iJ fun hc => ?_ | refine vcq (k := ?_) | refine dr 15 (k := ?_) | refine dr 2015 (k := ?_)))); all_goals ((try conv => whnf); try with_reducible exact trivial)
        refine pcall_soft (fun _ => less103 _ _) rfl ?_
        have hti : (j : Int).toNat = j := Int.toNat_natCast j
        (repeat' ((conv => whnf); (first | (with_reducible first | apply spl | apply spl') <;> intro hc <;> try (exfalso; omega) | with_reducible refine iJ fun hc => ?_ | refine vcq (k := ?_) | refine dr 15 (k := ?_) | refine dr 2015 (k := ?_)))); all_goals ((try conv => whnf); try with_reducible exact trivial)
        · dsimp only at hc
          rw [hti] at hc
          have hj0 : 0 < j := by omega
          have e1 : ((j : Int) - 1).toNat = j - 1 := by omega
          rw [e1] at hc
          have hsw := swapAt_getD (j - 1) n (by omega)
          have e2 : j - 1 + 1 = j := by omega
          rw [e2] at hsw
          refine ⟨(j - 1, swapAt (j - 1) n), ⟨⟨(swapAt_perm _ _).trans g1, by dsimp only; omega, fun p q k1 k2 k3 k4 => ?_, fun q k1 k2 => ?_⟩, by dsimp only; omega⟩, some [some 0], ?_⟩
          · dsimp only at *
            rw [hsw p, hsw q, if_neg k3, if_neg k4]
            by_cases c1 : p = j
            · rw [if_pos c1, if_neg (by omega)]
              exact g3 (j - 1) q (by omega) k2 (by omega) (by omega)
            · rw [if_neg c1]
              by_cases c2 : q = j
              · rw [if_pos c2]
                exact g3 p (j - 1) (by omega) (by omega) c1 (by omega)
              · rw [if_neg c2]
                exact g3 p q k1 k2 c1 c2
          · dsimp only at *
            rw [hsw (j - 1), hsw q, if_pos rfl, if_neg (by omega)]
            by_cases c2 : q = j
            · rw [if_pos c2]; omega
            · rw [if_neg c2]
              exact g4 q (by omega) k2
          · (repeat' ((conv => whnf); (first | (with_reducible first | apply spl | apply spl') <;> intro hc <;> try (exfalso; omega) | with_reducible refine iJ fun hc => ?_ | refine vcq (k := ?_) | refine dr 15 (k := ?_) | refine dr 2015 (k := ?_)))); all_goals ((try conv => whnf); try with_reducible exact trivial)
            refine ⟨fun k _ => ?_, ?_⟩
            · dsimp only
              rw [hti, e1]
              unfold rowOf
              rw [hsw k]
              by_cases c1 : k = j - 1
              · rw [spliceP_pos c1, if_pos c1, spliceP_neg (show ¬ k = j by omega)]; rfl
              · rw [spliceP_neg c1, if_neg c1]
                by_cases c2 : k = j
                · rw [spliceP_pos c2, if_pos c2]; rfl
                · rw [spliceP_neg c2, if_neg c2]
            · (repeat' ((conv => whnf); (first | (with_reducible first | apply spl | apply spl') <;> intro hc <;> try (exfalso; omega) | with_reducible refine iJ fun hc => ?_ | refine vcq (k := ?_) | refine dr 15 (k := ?_) | refine dr 2015 (k := ?_)))); all_goals ((try conv => whnf); try with_reducible exact trivial)
        · dsimp only at hc
          rw [hti] at hc
          have hi : i < l.length := by omega
          refine ⟨(i + 1, n), ⟨⟨g1, by dsimp only; omega, by dsimp only; omega, fun p q k1 k2 k3 => ?_⟩, by dsimp only; omega⟩, some [some 0], ?_⟩
          · dsimp only at *
            by_cases c1 : p = j
            · subst c1; exact g4 q k1 (by omega)
            · by_cases c2 : q = j
              · subst c2
                have e1 : ((q : Int) - 1).toNat = q - 1 := by omega
                rw [e1] at hc
                have : n.getD (q - 1) 0 ≤ n.getD q 0 := by omega
                by_cases c3 : p = q - 1
                · rw [c3]; exact this
                · exact Int.le_trans (g3 p (q - 1) (by omega) (by omega) c1 (by omega)) this
              · exact g3 p q k1 (by omega) c1 c2
          · (repeat' ((conv => whnf); (first | (with_reducible first | apply spl | apply spl') <;> intro hc <;> try (exfalso; omega) | with_reducible refine iJ fun hc => ?_ | refine vcq (k := ?_) | refine dr 15 (k := ?_) | refine dr 2015 (k := ?_)))); all_goals ((try conv => whnf); try with_reducible exact trivial)
    · refine ⟨_, _, ⟨rfl, m, h1, fun p q g1 g2 => h4 p q g1 (by dsimp only at hc; omega) g2, rfl⟩, some [some 0], ?_⟩
      (repeat' ((conv => whnf); (first | (with_reducible first | apply spl | apply spl') <;> intro hc <;> try (exfalso; omega) | with_reducible refine iJ fun hc => ?_ | refine vcq (k := ?_) | refine dr 15 (k := ?_) | refine dr 2015 (k := ?_)))); all_goals ((try conv => whnf); try with_reducible exact trivial)
theorem byteAt_le (s : ByteArray) (i : Nat) : 0 ≤ byteAt s i ∧ byteAt s i ≤ 255 := by
  unfold byteAt
  cases s[i]? with
  | none => simp
  | some b =>
    simp only [Option.map_some, Option.getD_some]
    have := b.toNat_lt
    omega
theorem len94 (n : Nat) (h : n ≤ 12) : PureC Try.prog 94 false [.int .u64 n] (fun r => ∃ k : Int, r = .int .i64 k) := by
  refine pureC_of_exec Try.E_ok Try.func94 rfl (by kernel_rfl) ?_
  (repeat' ((conv => whnf); (first | (with_reducible first | apply spl | apply spl') <;> intro hc <;> try (exfalso; omega) | with_reducible refine iJ fun hc => ?_ | refine vcq (k := ?_) | refine dr 15 (k := ?_) | refine dr 2015 (k := ?_)))); all_goals ((try conv => whnf); try with_reducible exact trivial)
  refine callee_exec Try.E_ok Try.func107 rfl (by kernel_rfl) ?_
  (repeat' ((conv => whnf); (first | (with_reducible first | apply spl | apply spl') <;> intro hc <;> try (exfalso; omega) | with_reducible refine iJ fun hc => ?_ | refine vcq (k := ?_) | refine dr 15 (k := ?_) | refine dr 2015 (k := ?_)))); all_goals ((try conv => whnf); try with_reducible exact trivial)
  refine ⟨⟨by show (0 : Int) ≤ n; omega, by show (n : Int) ≤ 255; omega⟩, ?_⟩
  (repeat' ((conv => whnf); (first | (with_reducible first | apply spl | apply spl') <;> intro hc <;> try (exfalso; omega) | with_reducible refine iJ fun hc => ?_ | refine vcq (k := ?_) | refine dr 15 (k := ?_) | refine dr 2015 (k := ?_)))); all_goals ((try conv => whnf); try with_reducible exact trivial)
  refine ⟨⟨by omega, Int.lt_of_lt_of_le (show (n : Int) < 256 by omega) (by decide +kernel)⟩, ?_⟩
  generalize hby : byteAt _ _ = y
  have hy : 0 ≤ y ∧ y ≤ 255 := by rw [← hby]; exact byteAt_le _ _
  (repeat' ((conv => whnf); (first | (with_reducible first | apply spl | apply spl') <;> intro hc <;> try (exfalso; omega) | with_reducible refine iJ fun hc => ?_ | refine vcq (k := ?_) | refine dr 15 (k := ?_) | refine dr 2015 (k := ?_)))); all_goals ((try conv => whnf); try with_reducible exact trivial)
  exact ⟨_, ⟨_, rfl⟩, rfl, trivial⟩
theorem pdq93 (l : List Int) (hl : l.length ≤ 12) (k : Int) : Sx.Callee Try.prog 93 [.osl 0 l.length, .int .i64 0, .int .i64 l.length, .int .i64 k] [.row 3 1 l.length (rowOf intC 0 l) true]
    (fun r H => r = .tup [] ∧ ∃ m : List Int, m.Perm l ∧ (∀ p q, p < q → q < l.length → m.getD p 0 ≤ m.getD q 0) ∧ H = [.row 3 1 l.length (rowOf intC 0 m) true]) := by
  refine callee_ent Try.E_ok Try.func93 rfl (by kernel_rfl) ?_
  (repeat' ((conv => whnf); (first | (with_reducible first | apply spl | apply spl') <;> intro hc <;> try (exfalso; omega) | with_reducible refine iJ fun hc => ?_ | refine vcq (k := ?_) | refine dr 15 (k := ?_) | refine dr 2015 (k := ?_)))); all_goals ((try conv => whnf); try with_reducible exact trivial)
  refine ⟨Unit, fun _ => True, fun _ => 0, fun _ => [(1, .int .i64 0), (2, .int .i64 l.length), (3, .int .i64 k)], fun _ => [], fun _ => [], (), ⟨trivial, some [some 0], ?_⟩, ?_⟩
  · (repeat' ((conv => whnf); (first | (with_reducible first | apply spl | apply spl') <;> intro hc <;> try (exfalso; omega) | with_reducible refine iJ fun hc => ?_ | refine vcq (k := ?_) | refine dr 15 (k := ?_) | refine dr 2015 (k := ?_)))); all_goals ((try conv => whnf); try with_reducible exact trivial)
  · rintro ⟨⟩ _
    (repeat' ((conv => whnf); (first | (with_reducible first | apply spl | apply spl') <;> intro hc <;> try (exfalso; omega) | with_reducible refine iJ fun hc => ?_ | refine vcq (k := ?_) | refine dr 15 (k := ?_) | refine dr 2015 (k := ?_)))); all_goals ((try conv => whnf); try with_reducible exact trivial)
    refine callee_frame [0] (isort97 l hl) rfl ?_ ?_
    · (repeat' ((conv => whnf); (first | (with_reducible first | apply spl | apply spl') <;> intro hc <;> try (exfalso; omega) | with_reducible refine iJ fun hc => ?_ | refine vcq (k := ?_) | refine dr 15 (k := ?_) | refine dr 2015 (k := ?_)))); all_goals ((try conv => whnf); try with_reducible exact trivial)
    · rintro _ _ ⟨rfl, m, h1, h2, rfl⟩
      (repeat' ((conv => whnf); (first | (with_reducible first | apply spl | apply spl') <;> intro hc <;> try (exfalso; omega) | with_reducible refine iJ fun hc => ?_ | refine vcq (k := ?_) | refine dr 15 (k := ?_) | refine dr 2015 (k := ?_)))); all_goals ((try conv => whnf); try with_reducible exact trivial)
      refine ⟨_, _, ⟨rfl, m, h1, h2, rfl⟩, some [some 0], ?_⟩
      (repeat' ((conv => whnf); (first | (with_reducible first | apply spl | apply spl') <;> intro hc <;> try (exfalso; omega) | with_reducible refine iJ fun hc => ?_ | refine vcq (k := ?_) | refine dr 15 (k := ?_) | refine dr 2015 (k := ?_)))); all_goals ((try conv => whnf); try with_reducible exact trivial)
theorem sort80 (l : List Int) (hl : l.length ≤ 12) : Sx.Callee Try.prog 80 [.osl 0 l.length] [.row 3 1 l.length (rowOf intC 0 l) true]
    (fun r H => r = .tup [] ∧ ∃ m : List Int, m.Perm l ∧ (∀ p q, p < q → q < l.length → m.getD p 0 ≤ m.getD q 0) ∧ H = [.row 3 1 l.length (rowOf intC 0 m) true]) := by
  refine callee_ent Try.E_ok Try.func80 rfl (by kernel_rfl) ?_
  (repeat' ((conv => whnf); (first | (with_reducible first | apply spl | apply spl') <;> intro hc <;> try (exfalso; omega) | with_reducible refine iJ fun hc => ?_ | refine vcq (k := ?_) | refine dr 15 (k := ?_) | refine dr 2015 (k := ?_)))); all_goals ((try conv => whnf); try with_reducible exact trivial)
  refine ⟨⟨by show (0 : Int) ≤ l.length; omega, by show (l.length : Int) ≤ 18446744073709551615; omega⟩, ?_⟩
  (repeat' ((conv => whnf); (first | (with_reducible first | apply spl | apply spl') <;> intro hc <;> try (exfalso; omega) | with_reducible refine iJ fun hc => ?_ | refine vcq (k := ?_) | refine dr 15 (k := ?_) | refine dr 2015 (k := ?_)))); all_goals ((try conv => whnf); try with_reducible exact trivial)
  refine callee_fo (len94 l.length hl) rfl ?_
  rintro _ ⟨k, rfl⟩
  (repeat' ((conv => whnf); (first | (with_reducible first | apply spl | apply spl') <;> intro hc <;> try (exfalso; omega) | with_reducible refine iJ fun hc => ?_ | refine vcq (k := ?_) | refine dr 15 (k := ?_) | refine dr 2015 (k := ?_)))); all_goals ((try conv => whnf); try with_reducible exact trivial)
  refine callee_frame [0] (pdq93 l hl k) rfl ?_ ?_
  · (repeat' ((conv => whnf); (first | (with_reducible first | apply spl | apply spl') <;> intro hc <;> try (exfalso; omega) | with_reducible refine iJ fun hc => ?_ | refine vcq (k := ?_) | refine dr 15 (k := ?_) | refine dr 2015 (k := ?_)))); all_goals ((try conv => whnf); try with_reducible exact trivial)
  · rintro _ _ ⟨rfl, m, h1, h2, rfl⟩
    (repeat' ((conv => whnf); (first | (with_reducible first | apply spl | apply spl') <;> intro hc <;> try (exfalso; omega) | with_reducible refine iJ fun hc => ?_ | refine vcq (k := ?_) | refine dr 15 (k := ?_) | refine dr 2015 (k := ?_)))); all_goals ((try conv => whnf); try with_reducible exact trivial)
    refine ⟨_, _, ⟨rfl, m, h1, h2, rfl⟩, some [some 0], ?_⟩
    (repeat' ((conv => whnf); (first | (with_reducible first | apply spl | apply spl') <;> intro hc <;> try (exfalso; omega) | with_reducible refine iJ fun hc => ?_ | refine vcq (k := ?_) | refine dr 15 (k := ?_) | refine dr 2015 (k := ?_)))); all_goals ((try conv => whnf); try with_reducible exact trivial)
theorem sorted_unique : ∀ (m l : List Int), m.Perm l → m.Pairwise (· ≤ ·) → l.Pairwise (· < ·) → m = l
  | [], l, h, _, _ => (List.nil_perm.1 h).symm
  | x :: m, [], h, _, _ => absurd h.length_eq (by simp)
  | x :: m, y :: l, h, h1, h2 => by
    have p1 := List.pairwise_cons.1 h1
    have p2 := List.pairwise_cons.1 h2
    have hxy : x = y := by
      have hx : x ∈ y :: l := h.mem_iff.1 List.mem_cons_self
      have hy : y ∈ x :: m := h.mem_iff.2 List.mem_cons_self
      rcases List.mem_cons.1 hx with h | hx
      · exact h
      · rcases List.mem_cons.1 hy with h | hy
        · exact h.symm
        · have := p1.1 y hy
          have := p2.1 x hx
          omega
    subst hxy
    rw [sorted_unique m l (List.Perm.cons_inv h) p1.2 p2.2]
theorem pairwise_of_getD {m : List Int} (h : ∀ p q, p < q → q < m.length → m.getD p 0 ≤ m.getD q 0) : m.Pairwise (· ≤ ·) := by
  rw [List.pairwise_iff_getElem]
  intro i j hi hj hij
  have := h i j hij hj
  rwa [List.getD_eq_getElem?_getD, List.getElem?_eq_getElem hi, List.getD_eq_getElem?_getD, List.getElem?_eq_getElem hj] at this
theorem sorted57 (l : List Int) (hl : l.length ≤ 12) (ha : l.Pairwise (· < ·)) (dom : List Int → Prop) (c : List Int → Int) (hd : ∀ n, dom [n] ↔ n ∈ l) (n0 : Nat) (g : MG) : Sx.Callee Try.prog 57 [.fn (.func 81) [] [.ptr 1 0]] [.map [.i64] false false dom (fun k => [.int .i64 (c k)]) n0 g, .cells 89 [.map 0]]
    (fun r H => r = .osl 2 l.length ∧ H = [.map [.i64] false false dom (fun k => [.int .i64 (c k)]) n0 g, .cells 89 [.map 0], .row 3 1 l.length (rowOf intC 0 l) true]) := by
  refine callee_ent Try.E_ok Try.func57 rfl (by kernel_rfl) ?_
  (repeat' ((conv => whnf); (first | (with_reducible first | apply spl | apply spl') <;> intro hc <;> try (exfalso; omega) | with_reducible refine iJ fun hc => ?_ | refine vcq (k := ?_) | refine dr 15 (k := ?_) | refine dr 2015 (k := ?_)))); all_goals ((try conv => whnf); try with_reducible exact trivial)
  refine callee_exec Try.E_ok Try.func79 rfl (by kernel_rfl) ?_
  (repeat' ((conv => whnf); (first | (with_reducible first | apply spl | apply spl') <;> intro hc <;> try (exfalso; omega) | with_reducible refine iJ fun hc => ?_ | refine vcq (k := ?_) | refine dr 15 (k := ?_) | refine dr 2015 (k := ?_)))); all_goals ((try conv => whnf); try with_reducible exact trivial)
  refine callee_exec Try.E_ok Try.func92 rfl (by kernel_rfl) ?_
  (repeat' ((conv => whnf); (first | (with_reducible first | apply spl | apply spl') <;> intro hc <;> try (exfalso; omega) | with_reducible refine iJ fun hc => ?_ | refine vcq (k := ?_) | refine dr 15 (k := ?_) | refine dr 2015 (k := ?_)))); all_goals ((try conv => whnf); try with_reducible exact trivial)
  refine callee_exec Try.E_ok Try.func81 rfl (by kernel_rfl) ?_
  (repeat' ((conv => whnf); (first | (with_reducible first | apply spl | apply spl') <;> intro hc <;> try (exfalso; omega) | with_reducible refine iJ fun hc => ?_ | refine vcq (k := ?_) | refine dr 15 (k := ?_) | refine dr 2015 (k := ?_)))); all_goals ((try conv => whnf); try with_reducible exact trivial)
  refine ⟨List Int, fun ks => ks.Nodup ∧ ∀ n ∈ ks, n ∈ l, fun ks => l.length - ks.length, fun _ => [], fun ks => [(2, .cells 31 [.osl 5 ks.length]), (4, .iter 0 g (fun k => dom k ∧ k.length = [IntKind.i64].length) (ks.map fun n => [n]))], fun ks => [.row 3 1 ks.length (rowOf intC 0 ks.reverse) true], [], ⟨⟨List.nodup_nil, by simp⟩, some [some 0, some 1, some 2, some 3, some 4, none], ?_⟩, ?_⟩
  · (repeat' ((conv => whnf); (first | (with_reducible first | apply spl | apply spl') <;> intro hc <;> try (exfalso; omega) | with_reducible refine iJ fun hc => ?_ | refine vcq (k := ?_) | refine dr 15 (k := ?_) | refine dr 2015 (k := ?_)))); all_goals ((try conv => whnf); try with_reducible exact trivial)
  · rintro ks ⟨h1, h2⟩
    (repeat' ((conv => whnf); (first | (with_reducible first | apply spl | apply spl') <;> intro hc <;> try (exfalso; omega) | with_reducible refine iJ fun hc => ?_ | refine vcq (k := ?_) | refine dr 15 (k := ?_) | refine dr 2015 (k := ?_)))); all_goals ((try conv => whnf); try with_reducible exact trivial)
    refine ⟨fun k hk hd => ⟨hd, hk⟩, ?_, ?_⟩
    · intro x hx hnew _
      have hx : x ∈ l := (hd x).1 hx
      have hnk : x ∉ ks := fun h => hnew (List.mem_map.2 ⟨x, h, rfl⟩)
      have hnd : (x :: ks).Nodup := List.nodup_cons.2 ⟨hnk, h1⟩
      have hsub : ∀ n ∈ x :: ks, n ∈ l := fun n hn => by
        rcases List.mem_cons.1 hn with rfl | hn
        · exact hx
        · exact h2 n hn
      have hlt := nodup_length_le hnd hsub
      simp only [List.length_cons] at hlt
      (repeat' ((conv => whnf); (first | (with_reducible first | apply spl | apply spl') <;> intro hc <;> try (exfalso; omega) | with_reducible refine iJ fun hc => ?_ | refine vcq (k := ?_) | refine dr 15 (k := ?_) | refine dr 2015 (k := ?_)))); all_goals ((try conv => whnf); try with_reducible exact trivial)
      refine ⟨⟨rfl, (hd x).2 hx, rfl⟩, ?_⟩
      (repeat' ((conv => whnf); (first | (with_reducible first | apply spl | apply spl') <;> intro hc <;> try (exfalso; omega) | with_reducible refine iJ fun hc => ?_ | refine vcq (k := ?_) | refine dr 15 (k := ?_) | refine dr 2015 (k := ?_)))); all_goals ((try conv => whnf); try with_reducible exact trivial)
      refine ycall_exec Try.E_ok rfl rfl rfl ?_
      (repeat' ((conv => whnf); (first | (with_reducible first | apply spl | apply spl') <;> intro hc <;> try (exfalso; omega) | with_reducible refine iJ fun hc => ?_ | refine vcq (k := ?_) | refine dr 15 (k := ?_) | refine dr 2015 (k := ?_)))); all_goals ((try conv => whnf); try with_reducible exact trivial)
      refine ⟨x :: ks, ⟨⟨hnd, hsub⟩, by simp only [List.length_cons]; omega⟩, some [some 0, some 1, some 2, some 3, some 4, some 7], ?_⟩
      (repeat' ((conv => whnf); (first | (with_reducible first | apply spl | apply spl') <;> intro hc <;> try (exfalso; omega) | with_reducible refine iJ fun hc => ?_ | refine vcq (k := ?_) | refine dr 15 (k := ?_) | refine dr 2015 (k := ?_)))); all_goals ((try conv => whnf); try with_reducible exact trivial)
      refine ⟨fun i hi => ?_, ?_⟩
      · rw [List.reverse_cons]
        exact rowOf_snoc (c := intC) (a := x) (by simp) (fun _ _ => rfl) i hi
      · (repeat' ((conv => whnf); (first | (with_reducible first | apply spl | apply spl') <;> intro hc <;> try (exfalso; omega) | with_reducible refine iJ fun hc => ?_ | refine vcq (k := ?_) | refine dr 15 (k := ?_) | refine dr 2015 (k := ?_)))); all_goals ((try conv => whnf); try with_reducible exact trivial)
    · intro hall
      have hperm : ks.reverse.Perm l := (List.reverse_perm ks).trans ((List.perm_ext_iff_of_nodup h1 (ha.imp (fun h => Int.ne_of_lt h))).2 fun n => ⟨h2 n, fun hn => by
        obtain ⟨m, hm, he⟩ := List.mem_map.1 (hall n ((hd n).2 hn))
        simp only [List.cons.injEq, and_true] at he
        rwa [← he]⟩)
      have hlen : ks.reverse.length = l.length := by have := hperm.length_eq; simpa using this
      have hlen2 : ks.length = ks.reverse.length := by simp
      (repeat' ((conv => whnf); (first | (with_reducible first | apply spl | apply spl') <;> intro hc <;> try (exfalso; omega) | with_reducible refine iJ fun hc => ?_ | refine vcq (k := ?_) | refine dr 15 (k := ?_) | refine dr 2015 (k := ?_)))); all_goals ((try conv => whnf); try with_reducible exact trivial)
      rw [hlen2]
      refine callee_frame [5] (sort80 ks.reverse (by omega)) rfl ?_ ?_
      · (repeat' ((conv => whnf); (first | (with_reducible first | apply spl | apply spl') <;> intro hc <;> try (exfalso; omega) | with_reducible refine iJ fun hc => ?_ | refine vcq (k := ?_) | refine dr 15 (k := ?_) | refine dr 2015 (k := ?_)))); all_goals ((try conv => whnf); try with_reducible exact trivial)
      · rintro _ _ ⟨rfl, m, g1, g2, rfl⟩
        have hml : m = l := sorted_unique m _ (g1.trans hperm) (pairwise_of_getD (fun p q hp hq => g2 p q hp (by have := g1.length_eq; omega))) ha
        have hml' := hml.symm
        clear hml
        subst hml'
        have hk : ks.reverse.length = l.length := g1.length_eq.symm
        rw [hk]
        (repeat' ((conv => whnf); (first | (with_reducible first | apply spl | apply spl') <;> intro hc <;> try (exfalso; omega) | with_reducible refine iJ fun hc => ?_ | refine vcq (k := ?_) | refine dr 15 (k := ?_) | refine dr 2015 (k := ?_)))); all_goals ((try conv => whnf); try with_reducible exact trivial)
        refine ⟨_, _, ⟨rfl, rfl⟩, some [some 0, some 1, some 5], ?_⟩
        (repeat' ((conv => whnf); (first | (with_reducible first | apply spl | apply spl') <;> intro hc <;> try (exfalso; omega) | with_reducible refine iJ fun hc => ?_ | refine vcq (k := ?_) | refine dr 15 (k := ?_) | refine dr 2015 (k := ?_)))); all_goals ((try conv => whnf); try with_reducible exact trivial)
end Go.Proofs


namespace Go.Proofs
open Go Go.Sx
set_option maxRecDepth 100000
set_option maxHeartbeats 1000000
abbrev NO : C6 := C6.all (-3)
namespace C6
def overB (M c : C6) : Nat → C6
  | 0 => M
  | b + 1 => if c.get b = -3 then overB M c b else (overB M c b).set b (c.get b)
def clrB (c : C6) : Nat → C6
  | 0 => c
  | b + 1 => (clrB c b).set b (-3)
theorem clrB_get (c : C6) : ∀ (b j : Nat), b ≤ 6 → j < 6 → (clrB c b).get j = if j < b then -3 else c.get j
  | 0, j, _, _ => by simp [clrB]
  | b + 1, j, hb, hj => by
    simp only [clrB]
    rw [get_set (by omega) hj, clrB_get c b j (by omega) hj]
    by_cases h1 : j = b
    · rw [if_pos h1, if_pos (by omega)]
    · rw [if_neg h1]
      by_cases h2 : j < b
      · rw [if_pos h2, if_pos (by omega)]
      · rw [if_neg h2, if_neg (by omega)]
theorem clrB_all (c : C6) : clrB c 6 = NO := by
  refine ext' fun b hb => ?_
  rw [clrB_get c 6 b (by omega) hb, if_pos hb, get_all hb]
theorem overB_get (M c : C6) : ∀ (b j : Nat), b ≤ 6 → j < 6 → (overB M c b).get j = if j < b ∧ c.get j ≠ -3 then c.get j else M.get j
  | 0, j, _, _ => by simp [overB]
  | b + 1, j, hb, hj => by
    simp only [overB]
    by_cases h0 : c.get b = -3
    · rw [if_pos h0, overB_get M c b j (by omega) hj]
      by_cases h1 : j = b
      · subst h1; simp [h0]
      · by_cases h2 : j < b
        · simp [h2, show j < b + 1 by omega]
        · simp [h2, show ¬ j < b + 1 by omega]
    · rw [if_neg h0, get_set (by omega) hj, overB_get M c b j (by omega) hj]
      by_cases h1 : j = b
      · subst h1; rw [if_pos rfl, if_pos ⟨by omega, h0⟩]
      · rw [if_neg h1]
        by_cases h2 : j < b
        · simp [h2, show j < b + 1 by omega]
        · simp [h2, show ¬ j < b + 1 by omega]
theorem overB_no (M : C6) (b : Nat) (hb : b ≤ 6) : overB M NO b = M := by
  refine ext' fun j hj => ?_
  rw [overB_get M _ b j hb hj, if_neg (fun h => h.2 (get_all hj))]
theorem set_self {c : C6} {b : Nat} {n : Int} (hb : b < 6) (h : c.get b = n) : c.set b n = c := by
  refine ext' fun j hj => ?_
  rw [get_set hb hj]
  split
  · rename_i h1; rw [h1, h]
  · rfl
end C6
theorem cntC_no (b : Nat) (hb : b ≤ 6) : cntC NO b = 0 := by
  induction b with
  | zero => rfl
  | succ b ih => rw [cntC_neg (C6.get_all (by omega)), ih (by omega)]
def cntL : List C6 → Int
  | [] => 0
  | c :: l => cntC c 6 + cntL l
theorem cntL_append : ∀ l m : List C6, cntL (l ++ m) = cntL l + cntL m
  | [], m => by simp [cntL]
  | c :: l, m => by simp only [List.cons_append, cntL, cntL_append l m]; omega
theorem cntL_nonneg : ∀ l : List C6, 0 ≤ cntL l
  | [] => by simp [cntL]
  | c :: l => by have := cntL_nonneg l; have := cntC_le c 6; simp only [cntL]; omega
theorem cntL_filter : ∀ l : List C6, cntL (l.filter isS) = cntL l
  | [] => rfl
  | c :: l => by
    rw [List.filter_cons]
    split
    · simp only [cntL, cntL_filter l]
    · rename_i h
      have : c = NO := Classical.not_not.1 (fun hh => h (isS_iff.2 hh))
      subst this
      simp only [cntL, cntL_filter l, cntC_no 6 (by omega)]
      omega
def apM (M : C6) (l : List C6) : C6 := l.foldl (fun M c => C6.overB M c 6) M
theorem apM_filter (l : List C6) : ∀ M, apM M (l.filter isS) = apM M l := by
  induction l with
  | nil => intro M; rfl
  | cons c l ih =>
    intro M
    rw [List.filter_cons]
    split
    · exact ih _
    · rename_i h
      have : c = NO := Classical.not_not.1 (fun hh => h (isS_iff.2 hh))
      subst this
      rw [ih]
      show _ = apM (C6.overB M NO 6) l
      rw [C6.overB_no M 6 (by omega)]
namespace PS
theorem wr_at (M : C6) (pre : List C6) (c : C6) (post : List C6) (W : Int) (b : Nat) :
    (⟨M, pre ++ c :: post, W⟩ : PS).wr pre.length b = if c.get b = -3 then ⟨M, pre ++ c :: post, W⟩ else ⟨M.set b (c.get b), pre ++ c.set b (-3) :: post, W + 1⟩ := by
  have e : (pre ++ c :: post).getD pre.length NO = c := by simp [List.getD_eq_getElem?_getD]
  unfold wr ep
  dsimp only
  rw [e]
  split
  · rfl
  · simp
theorem wrB_at (M : C6) (pre : List C6) (c : C6) (post : List C6) (W : Int) : ∀ b : Nat, b ≤ 6 →
    (⟨M, pre ++ c :: post, W⟩ : PS).wrB pre.length b = ⟨C6.overB M c b, pre ++ C6.clrB c b :: post, W + cntC c b⟩
  | 0, _ => by simp [wrB, C6.overB, C6.clrB, cntC]
  | b + 1, hb => by
    simp only [wrB]
    rw [wrB_at M pre c post W b (by omega), wr_at]
    have hg : (C6.clrB c b).get b = c.get b := by rw [C6.clrB_get c b b (by omega) (by omega), if_neg (by omega)]
    rw [hg]
    by_cases h : c.get b = -3
    · rw [if_pos h]
      simp only [C6.overB, C6.clrB, if_pos h, cntC_neg h]
      rw [C6.set_self (by omega) (by rw [hg, h])]
    · rw [if_neg h]
      simp only [C6.overB, C6.clrB, if_neg h, cntC_pos h]
      congr 1
      omega
theorem wrE_at (_post : List C6) : ∀ (n : Nat) (l : List C6), l.length = n → ∀ (M : C6) (post : List C6) (W : Int), (⟨M, l ++ post, W⟩ : PS).wrE n = ⟨apM M l, List.replicate n NO ++ post, W + cntL l⟩
  | 0, l, hl, M, post, W => by
    have : l = [] := List.length_eq_zero_iff.1 hl
    subst this
    simp [wrE, apM, cntL]
  | n + 1, l, hl, M, post, W => by
    obtain ⟨l', c, rfl⟩ : ∃ l' c, l = l' ++ [c] := by
      have hne : l ≠ [] := by intro h; subst h; simp at hl
      exact ⟨l.dropLast, l.getLast hne, (List.dropLast_concat_getLast hne).symm⟩
    have hl' : l'.length = n := by simpa using hl
    simp only [wrE]
    rw [List.append_assoc, List.singleton_append, wrE_at post n l' hl' M (c :: post) W]
    have hr : (List.replicate n NO).length = n := List.length_replicate
    have := wrB_at (apM M l') (List.replicate n NO) c post (W + cntL l') 6 (by omega)
    rw [hr] at this
    rw [this, C6.clrB_all]
    have e1 : apM M (l' ++ [c]) = C6.overB (apM M l') c 6 := by simp [apM]
    have e2 : List.replicate (n + 1) NO ++ post = List.replicate n NO ++ NO :: post := by
      rw [List.replicate_succ']
      simp
    rw [e1, e2, cntL_append]
    simp only [cntL]
    congr 1
    omega
theorem tidy_at (M : C6) (l : List C6) (z : C6) (W : Int) : (⟨M, l ++ [z], W⟩ : PS).tidy = ⟨M, l.filter isS ++ [z], W⟩ := by
  unfold tidy ep
  have e : (l ++ [z]).getD ((l ++ [z]).length - 1) NO = z := by simp [List.getD_eq_getElem?_getD]
  dsimp only
  rw [e, List.dropLast_concat]
  congr 2
  apply List.filter_congr
  intro c _
  unfold isS isN
  simp
def orderU (s : PS) (n : Int) (o : Int × Int) : PS :=
  if o.1 = 1 then s.put o.2.toNat n
  else if o.1 = 2 then ((s.put o.2.toNat n).wrE (s.E.length - 1)).wr (s.E.length - 1) o.2.toNat
  else if o.1 = 3 then ⟨s.M, s.E ++ [NO], s.W⟩
  else if o.1 = 4 then s.wrE s.E.length
  else s
def drainU (s : PS) (b : Nat) : PS := s.wr (idxC isS s.E).toNat b
theorem put_at (M : C6) (l : List C6) (z : C6) (W : Int) (b : Nat) (n : Int) : (⟨M, l ++ [z], W⟩ : PS).put b n = ⟨M, l ++ [z.set b n], W⟩ := by
  unfold put ep
  have e : (l ++ [z]).getD ((l ++ [z]).length - 1) NO = z := by simp [List.getD_eq_getElem?_getD]
  dsimp only
  rw [e]
  congr 1
  simp
theorem force_at (M : C6) (l : List C6) (z : C6) (W : Int) (b : Nat) : ((⟨M, l ++ [z], W⟩ : PS).wrE l.length).wr l.length b =
    if z.get b = -3 then ⟨apM M l, List.replicate l.length NO ++ [z], W + cntL l⟩ else ⟨(apM M l).set b (z.get b), List.replicate l.length NO ++ [z.set b (-3)], W + cntL l + 1⟩ := by
  rw [wrE_at [] l.length l rfl M [z] W]
  have := wr_at (apM M l) (List.replicate l.length NO) z [] (W + cntL l) b
  rw [List.length_replicate] at this
  exact this
theorem flush_at (M : C6) (l : List C6) (z : C6) (W : Int) : (⟨M, l ++ [z], W⟩ : PS).wrE (l.length + 1) = ⟨apM M (l ++ [z]), List.replicate l.length NO ++ [NO], W + cntL (l ++ [z])⟩ := by
  have := wrE_at [] (l.length + 1) (l ++ [z]) (by simp) M [] W
  rw [List.append_nil] at this
  rw [this, List.append_nil, List.replicate_succ']
theorem filter_no (n : Nat) : (List.replicate n NO).filter isS = [] := by
  rw [List.filter_eq_nil_iff]
  intro c hc
  rw [List.eq_of_mem_replicate hc]
  decide
theorem order_tidy (M : C6) (l : List C6) (z : C6) (W : Int) (n : Int) (o : Int × Int) : ((⟨M, l ++ [z], W⟩ : PS).orderU n o).tidy = (⟨M, l.filter isS ++ [z], W⟩ : PS).order n o := by
  have hlen : ∀ (l : List C6) (z : C6), (l ++ [z]).length - 1 = l.length := by intro l z; simp
  have hlen' : ∀ (l : List C6) (z : C6), (l ++ [z]).length = l.length + 1 := by intro l z; simp
  unfold orderU order
  split
  · rw [put_at, put_at, tidy_at, tidy_at, List.filter_filter]; simp
  split
  · dsimp only
    rw [hlen, hlen, put_at, put_at, force_at, force_at, apM_filter, cntL_filter]
    split
    · rw [tidy_at, tidy_at, filter_no, filter_no]
    · rw [tidy_at, tidy_at, filter_no, filter_no]
  split
  · have e1 : l.filter isS ++ [z] ++ [NO] = (l.filter isS ++ [z]) ++ [NO] := rfl
    rw [tidy_at, tidy_at, List.filter_append, List.filter_append, List.filter_filter]
    simp
  split
  · dsimp only
    rw [hlen', hlen', flush_at, flush_at, tidy_at, tidy_at, filter_no, filter_no]
    unfold apM
    rw [List.foldl_append, List.foldl_append]
    have := apM_filter l M
    unfold apM at this
    rw [this, cntL_append, cntL_append, cntL_filter]
  · rw [tidy_at, tidy_at, List.filter_filter]; simp
theorem nil_or (l : List C6) : l = [] ∨ ∃ p y, l = p ++ [y] := by
  by_cases h : l = []
  · exact .inl h
  · exact .inr ⟨l.dropLast, l.getLast h, (List.dropLast_concat_getLast h).symm⟩
theorem split_last (E : List C6) (h : 0 < E.length) : ∃ l z, E = l ++ [z] := by
  have hne : E ≠ [] := by intro e; subst e; simp at h
  exact ⟨E.dropLast, E.getLast hne, (List.dropLast_concat_getLast hne).symm⟩
theorem first_at {E : List C6} (h : 0 ≤ idxC isS E) : ∃ pre c post, E = pre ++ c :: post ∧ (∀ x ∈ pre, x = NO) ∧ c ≠ NO ∧ (idxC isS E).toNat = pre.length := by
  rcases idxC_spec isS E with ⟨h1, _⟩ | ⟨i, h1, h2, h3, h4⟩
  · omega
  · have e : E.getD i (C6.all (-3)) = E[i] := by simp [List.getD_eq_getElem?_getD, h2]
    refine ⟨E.take i, E[i], E.drop (i + 1), ?_, fun x hx => ?_, ?_, ?_⟩
    · rw [← List.drop_eq_getElem_cons h2, List.take_append_drop]
    · obtain ⟨j, hj, rfl⟩ := List.getElem_of_mem hx
      simp only [List.length_take] at hj
      have := h4 j (by omega)
      rw [List.getElem_take]
      have e2 : E.getD j (C6.all (-3)) = E[j] := by simp [List.getD_eq_getElem?_getD, show j < E.length by omega]
      rw [e2] at this
      exact Classical.not_not.1 (fun hn => by rw [isS_iff.2 hn] at this; cases this)
    · rw [e] at h3; exact isS_iff.1 h3
    · rw [h1]; simp; omega
theorem idx_at {pre : List C6} {c : C6} {post : List C6} (h1 : ∀ x ∈ pre, x = NO) (h2 : c ≠ NO) : idxC isS (pre ++ c :: post) = pre.length := by
  refine idxC_some (by simp) ?_ fun j hj => ?_
  · have e : (pre ++ c :: post).getD pre.length NO = c := by simp [List.getD_eq_getElem?_getD]
    rw [e]; exact isS_iff.2 h2
  · have e : (pre ++ c :: post).getD j NO = pre[j] := by simp [List.getD_eq_getElem?_getD, List.getElem?_append_left hj, hj]
    rw [e, h1 _ (List.getElem_mem hj)]
    decide
theorem can_at {M : C6} {pre : List C6} {c : C6} {post : List C6} {W : Int} (h1 : ∀ x ∈ pre, x = NO) (h2 : c ≠ NO) (b : Nat) : (⟨M, pre ++ c :: post, W⟩ : PS).can b ↔ c.get b ≠ -3 := by
  unfold can ep
  dsimp only
  rw [idx_at h1 h2]
  have e : (pre ++ c :: post).getD pre.length NO = c := by simp [List.getD_eq_getElem?_getD]
  simp only [Int.toNat_natCast]
  rw [show (C6.all (-3)) = NO from rfl, e]
  exact ⟨fun h => h.2, fun h => ⟨by omega, h⟩⟩
theorem drainU_at {M : C6} {pre : List C6} {c : C6} {post : List C6} {W : Int} (h1 : ∀ x ∈ pre, x = NO) (h2 : c ≠ NO) {b : Nat} (h3 : c.get b ≠ -3) :
    (⟨M, pre ++ c :: post, W⟩ : PS).drainU b = ⟨M.set b (c.get b), pre ++ c.set b (-3) :: post, W + 1⟩ := by
  unfold drainU
  dsimp only
  rw [idx_at h1 h2, Int.toNat_natCast, wr_at, if_neg h3]
theorem filter_pre {pre : List C6} (h : ∀ x ∈ pre, x = NO) : pre.filter isS = [] := by
  rw [List.filter_eq_nil_iff]
  intro c hc
  rw [h c hc]
  decide
theorem can_tidy (s : PS) (h : 0 < s.E.length) (b : Nat) : s.tidy.can b ↔ s.can b := by
  obtain ⟨M, E, W⟩ := s
  obtain ⟨l, z, rfl⟩ := split_last E h
  rw [tidy_at]
  by_cases hz : 0 ≤ idxC isS (l ++ [z])
  · obtain ⟨pre, c, post, e, h1, h2, _⟩ := first_at hz
    rw [show (⟨M, l ++ [z], W⟩ : PS) = ⟨M, pre ++ c :: post, W⟩ by rw [e], can_at h1 h2]
    rcases nil_or post with rfl | ⟨post', y, rfl⟩
    · have e2 := List.append_inj' e rfl
      obtain ⟨rfl, e3⟩ := e2
      cases e3
      rw [filter_pre h1]
      exact can_at (pre := []) (post := []) (by simp) h2 b
    · have e' : l ++ [z] = (pre ++ c :: post') ++ [y] := by rw [e]; simp
      have e2 := List.append_inj' e' rfl
      obtain ⟨rfl, e3⟩ := e2
      cases e3
      rw [List.filter_append, filter_pre h1, List.filter_cons_of_pos (isS_iff.2 h2)]
      exact can_at (pre := []) (post := List.filter isS post' ++ [z]) (by simp) h2 b
  · have hz' : idxC isS (l ++ [z]) = -1 := by
      rcases idxC_spec isS (l ++ [z]) with ⟨h1, _⟩ | ⟨i, h1, _⟩
      · exact h1
      · omega
    have hall : ∀ x ∈ l ++ [z], x = NO := by
      rcases idxC_spec isS (l ++ [z]) with ⟨_, h2⟩ | ⟨i, h1, _⟩
      · intro x hx
        obtain ⟨j, hj, rfl⟩ := List.getElem_of_mem hx
        have := h2 j hj
        rw [show (l ++ [z]).getD j (C6.all (-3)) = (l ++ [z])[j] by rw [List.getD_eq_getElem?_getD, List.getElem?_eq_getElem hj]; rfl] at this
        exact Classical.not_not.1 (fun hn => by rw [isS_iff.2 hn] at this; cases this)
      · omega
    have hl : l.filter isS = [] := filter_pre fun x hx => hall x (by simp [hx])
    rw [hl]
    have hzn : z = NO := hall z (by simp)
    have e1 : idxC isS ([] ++ [z]) = -1 := by
      subst hzn
      exact idxC_none (fun j hj => by have : j = 0 := by simp at hj; omega
                                      subst this
                                      decide)
    unfold can
    dsimp only
    rw [e1, hz']
    exact ⟨fun h => absurd h.1 (by omega), fun h => absurd h.1 (by omega)⟩
theorem drain_tidy (s : PS) (h : 0 < s.E.length) {b : Nat} (hc : s.can b) : (s.drainU b).tidy = s.tidy.drain b := by
  obtain ⟨M, E, W⟩ := s
  obtain ⟨l, z, rfl⟩ := split_last E h
  have hz : 0 ≤ idxC isS (l ++ [z]) := hc.1
  obtain ⟨pre, c, post, e, h1, h2, _⟩ := first_at hz
  have hcb : c.get b ≠ -3 := by
    rw [show (⟨M, l ++ [z], W⟩ : PS) = ⟨M, pre ++ c :: post, W⟩ by rw [e], can_at h1 h2] at hc
    exact hc
  rw [tidy_at]
  rw [show (⟨M, l ++ [z], W⟩ : PS) = ⟨M, pre ++ c :: post, W⟩ by rw [e], drainU_at h1 h2 hcb]
  have dr : ∀ s : PS, s.drain b = (s.drainU b).tidy := fun _ => rfl
  rw [dr]
  rcases nil_or post with rfl | ⟨post', y, rfl⟩
  · have e2 := List.append_inj' e rfl
    obtain ⟨rfl, e3⟩ := e2
    cases e3
    rw [filter_pre h1, drainU_at (pre := []) (post := []) (by simp) h2 hcb, tidy_at, filter_pre h1]
    have := tidy_at (M.set b (z.get b)) [] (z.set b (-3)) (W + 1)
    exact this.symm
  · have e' : l ++ [z] = (pre ++ c :: post') ++ [y] := by rw [e]; simp
    have e2 := List.append_inj' e' rfl
    obtain ⟨rfl, e3⟩ := e2
    cases e3
    rw [List.filter_append, filter_pre h1, List.filter_cons_of_pos (isS_iff.2 h2), List.nil_append]
    have q1 := drainU_at (M := M) (W := W) (pre := []) (post := List.filter isS post' ++ [z]) (by simp) h2 hcb
    rw [show (c :: List.filter isS post') ++ [z] = [] ++ c :: (List.filter isS post' ++ [z]) by simp, q1]
    have q2 := tidy_at (M.set b (c.get b)) (pre ++ c.set b (-3) :: post') z (W + 1)
    have q3 := tidy_at (M.set b (c.get b)) (c.set b (-3) :: List.filter isS post') z (W + 1)
    rw [show pre ++ c.set b (-3) :: (post' ++ [z]) = (pre ++ c.set b (-3) :: post') ++ [z] by simp]
    rw [q2, show [] ++ c.set b (-3) :: (List.filter isS post' ++ [z]) = (c.set b (-3) :: List.filter isS post') ++ [z] by simp, q3]
    rw [List.filter_append, filter_pre h1, List.nil_append, List.filter_cons, List.filter_cons, List.filter_filter]
    simp
end PS
end Go.Proofs


namespace Go.Proofs
open Go Go.Sx
set_option maxRecDepth 100000
set_option maxHeartbeats 1000000
inductive RchU (x : Cache) : Nat → PS → List (Int × Int) → Prop
  | begin : RchU x 0 PS.begin []
  | drain {k : Nat} {u : PS} {D : List (Int × Int)} {b : Nat} : RchU x k u D → (b : Int) < x.n → u.can b → RchU x k (u.drainU b) (D ++ [((k : Int), (b : Int))])
  | order {k : Nat} {u : PS} {D : List (Int × Int)} : RchU x k u D → k < x.l.length → RchU x (k + 1) (u.orderU k (x.l.getD k (0, 0))) D
def nb (x : Cache) : Nat → Nat
  | 0 => 0
  | k + 1 => nb x k + if (x.l.getD k (0, 0)).1 = 3 then 1 else 0
theorem nb_le (x : Cache) : ∀ k, nb x k ≤ k
  | 0 => by simp [nb]
  | k + 1 => by have := nb_le x k; simp only [nb]; split <;> omega
def putQ (x : Cache) (q b : Nat) : Prop := ((x.l.getD q (0, 0)).1 = 1 ∨ (x.l.getD q (0, 0)).1 = 2) ∧ (x.l.getD q (0, 0)).2 = b
def CP (x : Cache) (K e b : Nat) (v : Int) : Prop := v = -3 ∨ ∃ q : Nat, q < K ∧ v = q ∧ putQ x q b ∧ nb x q = e
def MP (x : Cache) (K b : Nat) (v : Int) : Prop := v = -1 ∨ ∃ q : Nat, q < K ∧ v = q ∧ putQ x q b
structure InvC (x : Cache) (K : Nat) (u : PS) : Prop where
  cell : ∀ e b, b < 6 → CP x K e b ((u.ep e).get b)
  med : ∀ b, b < 6 → MP x K b (u.M.get b)
theorem InvC.mono {x : Cache} {K K' : Nat} {u : PS} (h : InvC x K u) (hk : K ≤ K') : InvC x K' u :=
  ⟨fun e b hb => (h.cell e b hb).imp id fun ⟨q, h1, h2⟩ => ⟨q, by omega, h2⟩, fun b hb => (h.med b hb).imp id fun ⟨q, h1, h2⟩ => ⟨q, by omega, h2⟩⟩
theorem ep_set {E : List C6} {e e' : Nat} {c : C6} : (E.set e c).getD e' NO = if e' = e ∧ e < E.length then c else E.getD e' NO := by
  simp only [List.getD_eq_getElem?_getD, List.getElem?_set]
  by_cases h : e = e'
  · subst h
    by_cases h2 : e < E.length
    · simp [h2]
    · simp [h2]
  · rw [if_neg h, if_neg (fun g => h g.1.symm)]
theorem InvC.wr {x : Cache} {K : Nat} {u : PS} (h : InvC x K u) (e b : Nat) (hb : b < 6) : InvC x K (u.wr e b) := by
  by_cases hc : (u.ep e).get b = -3
  · rw [PS.wr_neg hc]; exact h
  · rw [PS.wr_pos hc]
    refine ⟨fun e' b' hb' => ?_, fun b' hb' => ?_⟩
    · show CP x K e' b' (((u.E.set e _).getD e' NO).get b')
      rw [ep_set]
      split
      · rename_i he
        rw [C6.get_set hb hb']
        split
        · exact .inl rfl
        · rw [he.1]
          exact h.cell e b' hb'
      · exact h.cell e' b' hb'
    · show MP x K b' ((u.M.set b _).get b')
      rw [C6.get_set hb hb']
      split
      · rename_i hbb
        subst hbb
        rcases h.cell e b' hb with h1 | ⟨q, h1, h2, h3, _⟩
        · exact absurd h1 hc
        · exact .inr ⟨q, h1, h2, h3⟩
      · exact h.med b' hb'
theorem InvC.wrB {x : Cache} {K : Nat} {u : PS} (h : InvC x K u) (e : Nat) : ∀ b, b ≤ 6 → InvC x K (u.wrB e b)
  | 0, _ => h
  | b + 1, hb => (InvC.wrB h e b (by omega)).wr e b (by omega)
theorem InvC.wrE {x : Cache} {K : Nat} {u : PS} (h : InvC x K u) : ∀ e, InvC x K (u.wrE e)
  | 0 => h
  | e + 1 => (InvC.wrE h e).wrB e 6 (by omega)
theorem InvC.put {x : Cache} {k : Nat} {u : PS} (h : InvC x k u) (hl : u.E.length = nb x k + 1) {b : Nat} (hb : b < 6) (hp : putQ x k b) : InvC x (k + 1) (u.put b k) := by
  have h := h.mono (Nat.le_succ k)
  refine ⟨fun e' b' hb' => ?_, h.med⟩
  show CP x (k + 1) e' b' (((u.E.set (u.E.length - 1) _).getD e' NO).get b')
  rw [ep_set]
  split
  · rename_i he
    rw [C6.get_set hb hb']
    split
    · rename_i hbb
      subst hbb
      exact .inr ⟨k, by omega, rfl, hp, by omega⟩
    · rw [he.1]
      exact h.cell _ b' hb'
  · exact h.cell e' b' hb'
def one (n : Int) : Int := if n = -3 then 0 else 1
theorem one_le (n : Int) : 0 ≤ one n ∧ one n ≤ 1 := by unfold one; split <;> omega
theorem one_no : one (-3) = 0 := rfl
theorem one_pos {n : Int} (h : n ≠ -3) : one n = 1 := if_neg h
theorem cntC_succ (c : C6) (b : Nat) : cntC c (b + 1) = cntC c b + one (c.get b) := rfl
theorem cntC_set0 {c : C6} {b : Nat} (hb : b < 6) (n : Int) : ∀ j, j ≤ b → cntC (c.set b n) j = cntC c j
  | 0, _ => rfl
  | j + 1, hj => by rw [cntC_succ, cntC_succ, cntC_set0 hb n j (by omega), C6.get_set hb (by omega), if_neg (by omega)]
theorem cntC_set {c : C6} {b : Nat} (hb : b < 6) (n : Int) : ∀ j, b < j → j ≤ 6 → cntC (c.set b n) j = cntC c j + one n - one (c.get b)
  | 0, h, _ => by omega
  | j + 1, h, hj => by
    rw [cntC_succ, cntC_succ, C6.get_set hb (by omega)]
    by_cases h1 : j = b
    · subst h1
      rw [if_pos rfl, cntC_set0 hb n j (by omega)]
      omega
    · rw [if_neg h1, cntC_set hb n j (by omega) (by omega)]
      omega
theorem cntL_set {E : List C6} {e : Nat} (he : e < E.length) (c : C6) : cntL (E.set e c) = cntL E + cntC c 6 - cntC (E.getD e NO) 6 := by
  have h1 : E = E.take e ++ E[e] :: E.drop (e + 1) := by rw [← List.drop_eq_getElem_cons he, List.take_append_drop]
  have h2 : E.set e c = E.take e ++ c :: E.drop (e + 1) := by rw [List.set_eq_take_append_cons_drop, if_pos he]
  have h3 : E.getD e NO = E[e] := by simp [List.getD_eq_getElem?_getD, he]
  rw [h2, h3]
  have h4 := congrArg cntL h1
  rw [cntL_append] at h4 ⊢
  simp only [cntL] at h4 ⊢
  omega
theorem cntL_set' {E : List C6} {e : Nat} (he : e < E.length) (c : C6) : cntL (E.set e c) = cntL E + cntC c 6 - cntC (E.getD e (C6.all (-3))) 6 := cntL_set he c
def PS.tot (u : PS) : Int := u.W + cntL u.E
theorem PS.tot_wr (u : PS) (e b : Nat) (hb : b < 6) : (u.wr e b).tot = u.tot := by
  by_cases hc : (u.ep e).get b = -3
  · rw [PS.wr_neg hc]
  · rw [PS.wr_pos hc]
    have he : e < u.E.length := by
      refine Classical.byContradiction fun hn => hc ?_
      unfold PS.ep
      rw [List.getD_eq_getElem?_getD, List.getElem?_eq_none (by omega)]
      exact C6.get_all hb
    unfold PS.tot
    dsimp only
    rw [cntL_set' he, cntC_set hb _ 6 hb (by omega)]
    unfold PS.ep at hc ⊢
    rw [one_no, one_pos hc]
    omega
theorem PS.tot_wrB (u : PS) (e : Nat) : ∀ b, b ≤ 6 → (u.wrB e b).tot = u.tot
  | 0, _ => rfl
  | b + 1, hb => by simp only [PS.wrB]; rw [PS.tot_wr _ _ _ (by omega), PS.tot_wrB u e b (by omega)]
theorem PS.tot_wrE (u : PS) : ∀ e, (u.wrE e).tot = u.tot
  | 0 => rfl
  | e + 1 => by simp only [PS.wrE]; rw [PS.tot_wrB _ _ _ (by omega), PS.tot_wrE u e]
theorem PS.tot_put (u : PS) (h : 0 < u.E.length) (b : Nat) (hb : b < 6) (n : Int) : u.tot ≤ (u.put b n).tot + 1 ∧ (u.put b n).tot ≤ u.tot + 1 := by
  unfold PS.tot PS.put
  dsimp only
  rw [cntL_set' (by omega), cntC_set hb _ 6 hb (by omega)]
  unfold PS.ep
  have h1 := one_le n
  have h2 := one_le ((u.E.getD (u.E.length - 1) (C6.all (-3))).get b)
  omega
structure InvU (x : Cache) (k : Nat) (u : PS) (D : List (Int × Int)) : Prop where
  inv : InvC x k u
  len : u.E.length = nb x k + 1
  tot : u.tot ≤ k
  D : (D.length : Int) ≤ u.W
theorem PS.orderU_len (u : PS) (n : Int) (o : Int × Int) : (u.orderU n o).E.length = u.E.length + if o.1 = 3 then 1 else 0 := by
  unfold PS.orderU
  split
  · rename_i h; rw [PS.put_len, if_neg (by omega)]; rfl
  split
  · rename_i h; rw [PS.wr_len, PS.wrE_len, PS.put_len, if_neg (by omega)]; rfl
  split
  · rename_i h; simp
  split
  · rw [PS.wrE_len]; rfl
  · rfl
theorem PS.wr_Wle (u : PS) (e b : Nat) : u.W ≤ (u.wr e b).W := (PS.wr_W u e b).1
theorem RchU.inv {x : Cache} (hx : x.Ok) {k : Nat} {u : PS} {D : List (Int × Int)} (h : RchU x k u D) : InvU x k u D := by
  induction h with
  | begin =>
    refine ⟨⟨fun e b hb => .inl ?_, fun b hb => .inl (C6.get_all hb)⟩, rfl, by decide, by decide⟩
    unfold PS.ep PS.begin
    cases e with
    | zero => exact C6.get_all hb
    | succ e => exact C6.get_all hb
  | @drain k u D b hr hb hcan ih =>
    have hb6 : b < 6 := by have := hx.n; omega
    refine ⟨ih.inv.wr _ _ hb6, by unfold PS.drainU; rw [PS.wr_len]; exact ih.len, by unfold PS.drainU; rw [PS.tot_wr _ _ _ hb6]; exact ih.tot, ?_⟩
    have hW : (u.drainU b).W = u.W + 1 := by unfold PS.drainU; rw [PS.wr_pos hcan.2]
    have := ih.D
    rw [hW]
    simp
    omega
  | @order k u D hr hk ih =>
    have hblk := hx.blk hk
    have hlen : (u.orderU k (x.l.getD k (0, 0))).E.length = nb x (k + 1) + 1 := by rw [PS.orderU_len, ih.len]; simp only [nb]; omega
    have hpos : 0 < u.E.length := by rw [ih.len]; omega
    have ho : (x.l.getD k (0, 0)).1 = 1 ∨ (x.l.getD k (0, 0)).1 = 2 → putQ x k (x.l.getD k (0, 0)).2.toNat := fun g => ⟨g, by have := hblk g; omega⟩
    have hWt := ih.tot
    have hD := ih.D
    refine ⟨?_, hlen, ?_, ?_⟩
    · unfold PS.orderU
      split
      · rename_i h1; exact ih.inv.put ih.len (by have := hblk (.inl h1); omega) (ho (.inl h1))
      split
      · rename_i h1
        have hb6 : (x.l.getD k (0, 0)).2.toNat < 6 := by have := hblk (.inr h1); omega
        exact ((ih.inv.put ih.len hb6 (ho (.inr h1))).wrE _).wr _ _ hb6
      split
      · have := ih.inv.mono (Nat.le_succ k)
        refine ⟨fun e b hb => ?_, this.med⟩
        show CP x (k + 1) e b (((u.E ++ [NO]).getD e NO).get b)
        rcases Nat.lt_or_ge e u.E.length with g | g
        · have e1 : (u.E ++ [NO]).getD e NO = u.E.getD e NO := by simp only [List.getD_eq_getElem?_getD, List.getElem?_append_left g]
          rw [e1]
          exact this.cell e b hb
        · left
          have e1 : (u.E ++ [NO]).getD e NO = NO := by
            simp only [List.getD_eq_getElem?_getD, List.getElem?_append_right g]
            cases e - u.E.length <;> simp
          rw [e1]
          exact C6.get_all hb
      split
      · exact (ih.inv.mono (Nat.le_succ k)).wrE _
      · exact ih.inv.mono (Nat.le_succ k)
    · unfold PS.orderU
      split
      · rename_i h1
        have := (PS.tot_put u hpos (x.l.getD k (0, 0)).2.toNat (by have := hblk (.inl h1); omega) k).2
        omega
      split
      · rename_i h1
        have hb6 : (x.l.getD k (0, 0)).2.toNat < 6 := by have := hblk (.inr h1); omega
        rw [PS.tot_wr _ _ _ hb6, PS.tot_wrE]
        have := (PS.tot_put u hpos (x.l.getD k (0, 0)).2.toNat hb6 k).2
        omega
      split
      · show u.W + cntL (u.E ++ [NO]) ≤ _
        rw [cntL_append]
        simp only [cntL, cntC_no 6 (by omega)]
        unfold PS.tot at hWt
        omega
      split
      · rw [PS.tot_wrE]; omega
      · omega
    · refine Int.le_trans hD ?_
      unfold PS.orderU
      split
      · exact Int.le_refl _
      split
      · exact Int.le_trans (PS.wrE_W (u.put (x.l.getD k (0, 0)).2.toNat k) (u.E.length - 1)).1 (PS.wr_Wle _ _ _)
      split
      · exact Int.le_refl _
      split
      · exact (PS.wrE_W u u.E.length).1
      · exact Int.le_refl _
theorem begin_tidy : PS.begin.tidy = PS.begin := PS.tidy_at (C6.all (-1)) [] NO 0
theorem PS.orderU_tidy (u : PS) (h : 0 < u.E.length) (n : Int) (o : Int × Int) : (u.orderU n o).tidy = u.tidy.order n o := by
  obtain ⟨M, E, W⟩ := u
  obtain ⟨l, z, rfl⟩ := PS.split_last E h
  rw [PS.order_tidy, PS.tidy_at]
theorem rch_u {x : Cache} (hx : x.Ok) {k : Nat} {s : PS} {D : List (Int × Int)} (h : Rch x k s D) : ∃ u, RchU x k u D ∧ s = u.tidy := by
  induction h with
  | begin => exact ⟨_, .begin, begin_tidy.symm⟩
  | @drain k s D b hr hb hcan ih =>
    obtain ⟨u, h1, rfl⟩ := ih
    have hl : 0 < u.E.length := by rw [(h1.inv hx).len]; omega
    have hc := (PS.can_tidy u hl b).1 hcan
    exact ⟨_, .drain h1 hb hc, (PS.drain_tidy u hl hc).symm⟩
  | @order k s D hr hk ih =>
    obtain ⟨u, h1, rfl⟩ := ih
    have hl : 0 < u.E.length := by rw [(h1.inv hx).len]; omega
    exact ⟨_, .order h1 hk, (PS.orderU_tidy u hl _ _).symm⟩
theorem u_rch {x : Cache} (hx : x.Ok) {k : Nat} {u : PS} {D : List (Int × Int)} (h : RchU x k u D) : Rch x k u.tidy D := by
  induction h with
  | begin => rw [begin_tidy]; exact .begin
  | @drain k u D b hr hb hcan ih =>
    have hl : 0 < u.E.length := by rw [(hr.inv hx).len]; omega
    rw [PS.drain_tidy u hl hcan]
    exact .drain ih hb ((PS.can_tidy u hl b).2 hcan)
  | @order k u D hr hk ih =>
    have hl : 0 < u.E.length := by rw [(hr.inv hx).len]; omega
    rw [PS.orderU_tidy u hl]
    exact .order ih hk
theorem RchU.le {x : Cache} {k : Nat} {u : PS} {D : List (Int × Int)} (h : RchU x k u D) : k ≤ x.l.length := by
  induction h with
  | begin => omega
  | drain _ _ _ ih => exact ih
  | order _ hk _ => omega
theorem rch_good {x : Cache} (hx : x.Ok) (k : Nat) (s : PS) (D : List (Int × Int)) (h : Rch x k s D) : (⟨s, D⟩ : Trip).Good x k := by
  obtain ⟨u, h1, rfl⟩ := rch_u hx h
  have hi := h1.inv hx
  have hk := h1.le
  have h16 := hx.len
  have ht := PS.tot_wrE u 0
  have hl := tidy_len u
  have hnb := nb_le x k
  have hle := hi.len
  have htot := hi.tot
  have hD := hi.D
  unfold PS.tot at htot
  have hcn := cntL_nonneg u.E
  refine ⟨h, ⟨hl.2, by dsimp only; omega, ?_⟩, by dsimp only; omega, ?_, by dsimp only; omega⟩
  · show 0 ≤ u.W ∧ u.W ≤ _; omega
  · show u.W ≤ _; omega
end Go.Proofs


namespace Go.Proofs
open Go Go.Sx
set_option maxRecDepth 100000
set_option maxHeartbeats 1000000
def bitQ (x : Cache) (u : PS) (q : Nat) : Nat := if (u.ep (nb x q)).get (x.l.getD q (0, 0)).2.toNat = q then 1 else 0
def medQ (u : PS) (b : Nat) : Nat := (u.M.get b + 1).toNat
def codeU (x : Cache) (u : PS) : Nat :=
  medQ u 0 + 8 * medQ u 1 + 64 * medQ u 2 + 512 * bitQ x u 0 + 1024 * bitQ x u 1 + 2048 * bitQ x u 2 + 4096 * bitQ x u 3 + 8192 * bitQ x u 4 + 16384 * bitQ x u 5 + 32768 * bitQ x u 6
theorem bitQ_le (x : Cache) (u : PS) (q : Nat) : bitQ x u q ≤ 1 := by unfold bitQ; split <;> omega
theorem medQ_le {x : Cache} (hx7 : x.l.length ≤ 7) {k : Nat} (hk : k ≤ x.l.length) {u : PS} (h : InvC x k u) {b : Nat} (hb : b < 6) : medQ u b ≤ 7 ∧ u.M.get b = (medQ u b : Int) - 1 := by
  unfold medQ
  rcases h.med b hb with h1 | ⟨q, h1, h2, _⟩ <;> omega
theorem med_hi {x : Cache} (hx : x.Ok) (hx3 : x.n ≤ 3) {k : Nat} (hk : k ≤ x.l.length) {u : PS} (h : InvC x k u) {b : Nat} (hb : b < 6) (h3 : 3 ≤ b) : u.M.get b = -1 := by
  rcases h.med b hb with h1 | ⟨q, h1, _, h2, h4⟩
  · exact h1
  · have hq : q < x.l.length := by omega
    have e : x.l.getD q (0, 0) = x.l[q] := by simp [List.getD_eq_getElem?_getD, hq]
    have := hx.ord x.l[q] (List.getElem_mem hq)
    rw [e] at h2 h4
    unfold Cache.OkO at this
    omega
theorem code_inj {x : Cache} (hx : x.Ok) (hx3 : x.n ≤ 3) (hx7 : x.l.length ≤ 7) {k : Nat} (hk : k ≤ x.l.length) {u v : PS} {D D' : List (Int × Int)} (hu : InvU x k u D) (hv : InvU x k v D') (h : codeU x u = codeU x v) : u.same v := by
  have m0 := medQ_le hx7 hk hu.inv (b := 0) (by omega)
  have m1 := medQ_le hx7 hk hu.inv (b := 1) (by omega)
  have m2 := medQ_le hx7 hk hu.inv (b := 2) (by omega)
  have n0 := medQ_le hx7 hk hv.inv (b := 0) (by omega)
  have n1 := medQ_le hx7 hk hv.inv (b := 1) (by omega)
  have n2 := medQ_le hx7 hk hv.inv (b := 2) (by omega)
  have key : medQ u 0 = medQ v 0 ∧ medQ u 1 = medQ v 1 ∧ medQ u 2 = medQ v 2 ∧ ∀ q, q < 7 → bitQ x u q = bitQ x v q := by
    have b0 := bitQ_le x u 0; have b1 := bitQ_le x u 1; have b2 := bitQ_le x u 2; have b3 := bitQ_le x u 3; have b4 := bitQ_le x u 4; have b5 := bitQ_le x u 5; have b6 := bitQ_le x u 6
    have c0 := bitQ_le x v 0; have c1 := bitQ_le x v 1; have c2 := bitQ_le x v 2; have c3 := bitQ_le x v 3; have c4 := bitQ_le x v 4; have c5 := bitQ_le x v 5; have c6 := bitQ_le x v 6
    unfold codeU at h
    have a0 : medQ u 0 = medQ v 0 := by omega
    have a1 : medQ u 1 = medQ v 1 := by omega
    have a2 : medQ u 2 = medQ v 2 := by omega
    have d0 : bitQ x u 0 = bitQ x v 0 := by omega
    have d1 : bitQ x u 1 = bitQ x v 1 := by omega
    have d2 : bitQ x u 2 = bitQ x v 2 := by omega
    have d3 : bitQ x u 3 = bitQ x v 3 := by omega
    have d4 : bitQ x u 4 = bitQ x v 4 := by omega
    have d5 : bitQ x u 5 = bitQ x v 5 := by omega
    have d6 : bitQ x u 6 = bitQ x v 6 := by omega
    refine ⟨a0, a1, a2, fun q hq => ?_⟩
    have : q = 0 ∨ q = 1 ∨ q = 2 ∨ q = 3 ∨ q = 4 ∨ q = 5 ∨ q = 6 := by omega
    rcases this with rfl | rfl | rfl | rfl | rfl | rfl | rfl <;> assumption
  obtain ⟨k0, k1, k2, kq⟩ := key
  have cellEq : ∀ (u v : PS), InvC x k u → (∀ q, q < 7 → bitQ x u q = bitQ x v q) → ∀ e b, b < 6 → (u.ep e).get b ≠ -3 → (v.ep e).get b = (u.ep e).get b := by
    intro u v hi hq e b hb hne
    rcases hi.cell e b hb with h1 | ⟨q, h1, h2, ⟨_, h3⟩, h4⟩
    · exact absurd h1 hne
    · have h5 := hq q (by omega)
      unfold bitQ at h5
      rw [h4, h3, Int.toNat_natCast, if_pos h2] at h5
      split at h5
      · rename_i h6; rw [h6, h2]
      · cases h5
  refine ⟨C6.ext' fun b hb => ?_, List.ext_getElem (by rw [hu.len, hv.len]) fun e g1 g2 => C6.ext' fun b hb => ?_⟩
  · have : b = 0 ∨ b = 1 ∨ b = 2 ∨ 3 ≤ b := by omega
    rcases this with rfl | rfl | rfl | h3
    · rw [m0.2, n0.2, k0]
    · rw [m1.2, n1.2, k1]
    · rw [m2.2, n2.2, k2]
    · rw [med_hi hx hx3 hk hu.inv hb h3, med_hi hx hx3 hk hv.inv hb h3]
  · have e1 : u.ep e = u.E[e] := by unfold PS.ep; simp [List.getD_eq_getElem?_getD, g1]
    have e2 : v.ep e = v.E[e] := by unfold PS.ep; simp [List.getD_eq_getElem?_getD, g2]
    rw [← e1, ← e2]
    by_cases h1 : (u.ep e).get b = -3
    · by_cases h2 : (v.ep e).get b = -3
      · rw [h1, h2]
      · exact cellEq v u hv.inv (fun q hq => (kq q hq).symm) e b hb h2
    · exact (cellEq u v hu.inv kq e b hb h1).symm
theorem code_lt {x : Cache} (hx7 : x.l.length ≤ 7) {k : Nat} (hk : k ≤ x.l.length) {u : PS} (h : InvC x k u) : codeU x u < 65536 := by
  have m0 := medQ_le hx7 hk h (b := 0) (by omega)
  have m1 := medQ_le hx7 hk h (b := 1) (by omega)
  have m2 := medQ_le hx7 hk h (b := 2) (by omega)
  have b0 := bitQ_le x u 0; have b1 := bitQ_le x u 1; have b2 := bitQ_le x u 2; have b3 := bitQ_le x u 3; have b4 := bitQ_le x u 4; have b5 := bitQ_le x u 5; have b6 := bitQ_le x u 6
  unfold codeU
  omega
open Classical in
noncomputable def uOf (x : Cache) (k : Nat) (t : Trip) : PS := if h : ∃ u, RchU x k u t.D ∧ t.s = u.tidy then h.choose else PS.begin
theorem uOf_spec {x : Cache} (hx : x.Ok) {k : Nat} {t : Trip} (h : t.Good x k) : RchU x k (uOf x k t) t.D ∧ t.s = (uOf x k t).tidy := by
  have he : ∃ u, RchU x k u t.D ∧ t.s = u.tidy := rch_u hx h.r
  unfold uOf
  rw [dif_pos he]
  exact he.choose_spec
theorem rch_cap {x : Cache} (hx : x.Ok) (hx3 : x.n ≤ 3) (hx7 : x.l.length ≤ 7) (k : Nat) (l : List Trip) (hl : ∀ t ∈ l, t.Good x k) (hn : (l.map Trip.sh).Nodup) : l.length ≤ 65536 := by
  have h1 : (l.map fun t => codeU x (uOf x k t)).Nodup := by
    rw [List.Nodup, List.pairwise_map] at hn ⊢
    refine List.Pairwise.imp_of_mem ?_ hn
    intro a b ha hb hne hc
    have ga := uOf_spec hx (hl a ha)
    have gb := uOf_spec hx (hl b hb)
    have hs := code_inj hx hx3 hx7 ga.1.le (ga.1.inv hx) (gb.1.inv hx) hc
    refine hne ?_
    show shS a.s = shS b.s
    rw [ga.2, gb.2]
    exact hs.tidy.shS
  have := nodup_length_le (m := List.range 65536) h1 (fun c hc => by
    obtain ⟨t, ht, rfl⟩ := List.mem_map.1 hc
    have g := uOf_spec hx (hl t ht)
    exact List.mem_range.2 (code_lt hx7 g.1.le (g.1.inv hx).inv))
  simpa using this
end Go.Proofs


namespace Go.Proofs
open Go Go.Sx
set_option maxRecDepth 100000
set_option maxHeartbeats 4000000
structure Cache.Small (x : Cache) : Prop where
  ok : x.Ok
  n : x.n ≤ 3
  l : x.l.length ≤ 7
theorem images56s (x : Cache) (hx : x.Small) : PureC Try.prog 56 true [x.v] (fun r => ∃ L : List Img, Imgs x L ∧ r = .sl 9 L.length (rowOf imC Img.none L)) :=
  images56 x hx.ok hx.n (fun k s D h => rch_good hx.ok k s D h) (fun k l h1 h2 => rch_cap hx.ok hx.n hx.l k l h1 h2)
def PosI (x : Cache) (h : C6) : Prop := ∃ im, ImgOk x im ∧ im.h = h
theorem Imgs.pos {x : Cache} (hx : x.Ok) {L : List Img} (h : Imgs x L) (c : C6) : (∃ im ∈ L, im.h = c) ↔ PosI x c := by
  constructor
  · rintro ⟨im, h1, rfl⟩
    exact ⟨im, h.ok im h1, rfl⟩
  · rintro ⟨im, h1, rfl⟩
    rcases h1 with ⟨_, h2, h3⟩ | ⟨_, s, D, b, h2, h3, h4, h5, _⟩
    · rw [h3]; exact (h.all _ _ h2).1
    · rw [h5]; exact (h.all _ _ h2).2 b (by have := hx.n; omega) h3 h4
def PosV (x : Cache) (b : Nat) (n : Int) : Prop := ∃ c, PosI x c ∧ c.get b = n
def vals9 : List Int := [-2, -1, 0, 1, 2, 3, 4, 5, 6]
open Classical in
noncomputable def canL (x : Cache) (b : Nat) : List Int := vals9.filter (fun n => decide (PosV x b n))
theorem canL_asc (x : Cache) (b : Nat) : (canL x b).Pairwise (· < ·) := List.Pairwise.filter _ (by decide)
theorem canL_len (x : Cache) (b : Nat) : (canL x b).length ≤ 9 := List.length_filter_le ..
theorem tidy_M (u : PS) : u.tidy.M = u.M := rfl
theorem PosI.range {x : Cache} (hx : x.Small) {c : C6} (h : PosI x c) {b : Nat} (hb : b < 6) : c.get b ∈ vals9 := by
  have key : ∀ s D, Rch x x.l.length s D → s.M.get b ∈ vals9 := by
    intro s D hr
    obtain ⟨u, h1, rfl⟩ := rch_u hx.ok hr
    rw [tidy_M]
    have h7 := hx.l
    rcases (h1.inv hx.ok).inv.med b hb with h2 | ⟨q, h2, h3, _⟩
    · rw [h2]; decide
    · rw [h3]
      have : q = 0 ∨ q = 1 ∨ q = 2 ∨ q = 3 ∨ q = 4 ∨ q = 5 ∨ q = 6 := by omega
      rcases this with rfl | rfl | rfl | rfl | rfl | rfl | rfl <;> decide
  obtain ⟨im, h1, rfl⟩ := h
  rcases h1 with ⟨_, h2, h3⟩ | ⟨_, s, D, b', h2, h3, h4, h5, _⟩
  · rw [h3]; exact key _ _ h2
  · rw [h5, C6.get_set (by have := hx.n; omega) hb]
    split
    · decide
    · exact key _ _ h2
theorem mem_canL {x : Cache} (hx : x.Small) {b : Nat} (hb : b < 6) {n : Int} : n ∈ canL x b ↔ PosV x b n := by
  unfold canL
  simp only [List.mem_filter, decide_eq_true_eq]
  exact ⟨fun h => h.2, fun ⟨c, h1, h2⟩ => ⟨h2 ▸ h1.range hx hb, ⟨c, h1, h2⟩⟩⟩
theorem hold_snoc {l : List Img} {i b : Nat} (hi : i < l.length) (key : List Int) : (key = [(l.getD i Img.none).h.get b] ∨ ∃ t ∈ l.take i, [t.h.get b] = key) ↔ ∃ t ∈ l.take (i + 1), [t.h.get b] = key := by
  have e : l.getD i Img.none = l[i] := by simp [List.getD_eq_getElem?_getD, hi]
  have e2 := List.take_succ_eq_append_getElem hi
  rw [e]
  constructor
  · rintro (rfl | ⟨t, h, rfl⟩)
    · exact ⟨l[i], e2 ▸ List.mem_append_right _ (List.mem_singleton.2 rfl), rfl⟩
    · exact ⟨t, e2 ▸ List.mem_append_left _ h, rfl⟩
  · rintro ⟨t, h, rfl⟩
    rw [e2] at h
    rcases List.mem_append.1 h with h | h
    · exact .inr ⟨t, h, rfl⟩
    · exact .inl (by rw [List.mem_singleton.1 h])
open Classical in
noncomputable def canV (x : Cache) (b : Int) : List V :=
  if x.chk = 0 then if 0 ≤ b ∧ b ≤ x.n - 1 then [.sl 1 (canL x b.toNat).length (rowOf intC 0 (canL x b.toNat)), .int .i64 0] else [.lit (.slice none 0 0), .int .i64 1] else [.lit (.slice none 0 0), .int .i64 x.chk]
theorem Can25 (x : Cache) (hl : x.l.length ≤ 1000000) (hs : x.chk = 0 → x.Small) (b : Int) : PureC Try.prog 25 false [x.v, .int .i64 b] (· = .tup (canV x b)) := by
  refine pureC_of_exec Try.E_ok Try.func25 rfl (by kernel_rfl) ?_
  unfold canV
  (repeat' ((conv => whnf); (first | (with_reducible first | apply spl | apply spl') <;> intro hc <;> try (exfalso; omega) | with_reducible refine iJ fun hc => ?_ | refine vcq (k := ?_) | fail))); all_goals ((try conv => whnf); try with_reducible exact trivial); (repeat' ((first | (refine callee_fo (check36 x hl) rfl ?_; rintro _ rfl) | (refine pcall_intro (check36 x hl) rfl ?_) | (refine pcall_soft (fun _ => check36 x hl) rfl ?_)); (repeat' ((conv => whnf); (first | (with_reducible first | apply spl | apply spl') <;> intro hc <;> try (exfalso; omega) | with_reducible refine iJ fun hc => ?_ | refine vcq (k := ?_) | fail))); all_goals ((try conv => whnf); try with_reducible exact trivial)))
  · rw [if_neg hc]
    refine ⟨_, rfl, ?_⟩
    (repeat' ((conv => whnf); (first | (with_reducible first | apply spl | apply spl') <;> intro hc <;> try (exfalso; omega) | with_reducible refine iJ fun hc => ?_ | refine vcq (k := ?_) | fail))); all_goals ((try conv => whnf); try with_reducible exact trivial)
  · have hk := Classical.not_not.1 hc
    rw [if_pos hk]
    have hx := hs hk
    have hn := hx.ok.n
    (repeat' ((conv => whnf); (first | (with_reducible first | apply spl | apply spl') <;> intro hc <;> try (exfalso; omega) | with_reducible refine iJ fun hc => ?_ | refine vcq (k := ?_) | fail))); all_goals ((try conv => whnf); try with_reducible exact trivial); (repeat' ((first | (refine callee_fo (within51 _ _ _) rfl ?_; rintro _ rfl) | (refine pcall_intro (within51 _ _ _) rfl ?_) | (refine pcall_soft (fun _ => within51 _ _ _) rfl ?_)); (repeat' ((conv => whnf); (first | (with_reducible first | apply spl | apply spl') <;> intro hc <;> try (exfalso; omega) | with_reducible refine iJ fun hc => ?_ | refine vcq (k := ?_) | fail))); all_goals ((try conv => whnf); try with_reducible exact trivial)))
    · rw [if_neg (show ¬ (0 ≤ b ∧ b ≤ x.n - 1) from by assumption)]
      refine ⟨_, rfl, ?_⟩
      (repeat' ((conv => whnf); (first | (with_reducible first | apply spl | apply spl') <;> intro hc <;> try (exfalso; omega) | with_reducible refine iJ fun hc => ?_ | refine vcq (k := ?_) | fail))); all_goals ((try conv => whnf); try with_reducible exact trivial)
    · have hb := Classical.not_not.1 hc
      rw [if_pos hb]
      intro g0
      (repeat' ((conv => whnf); (first | (with_reducible first | apply spl | apply spl') <;> intro hc <;> try (exfalso; omega) | with_reducible refine iJ fun hc => ?_ | refine vcq (k := ?_) | fail))); all_goals ((try conv => whnf); try with_reducible exact trivial)
      refine callee_fo (images56s x hx) rfl ?_
      rintro _ ⟨L, hL, rfl⟩
      have hLl := hL.len
      have hb3 : b = 0 ∨ b = 1 ∨ b = 2 := by have := hx.n; omega
      have hb6 : b.toNat < 6 := by omega
      have hfin := sorted57 (canL x b.toNat) (by have := canL_len x b.toNat; omega) (canL_asc x b.toNat)
      have hmem : ∀ dom : List Int → Prop, (∀ k, dom k ↔ ∃ t ∈ L.take L.length, [t.h.get b.toNat] = k) → ∀ n, dom [n] ↔ n ∈ canL x b.toNat := by
        intro dom hd n
        rw [hd, List.take_length, mem_canL hx hb6]
        constructor
        · rintro ⟨im, h1, h2⟩
          simp only [List.cons.injEq, and_true] at h2
          exact ⟨im.h, (hL.pos hx.ok _).1 ⟨im, h1, rfl⟩, h2⟩
        · rintro ⟨c, h1, h2⟩
          obtain ⟨im, h3, rfl⟩ := (hL.pos hx.ok _).2 h1
          exact ⟨im, h3, by rw [h2]⟩
      rcases hb3 with rfl | rfl | rfl
      · (repeat' ((conv => whnf); (first | (with_reducible first | apply spl | apply spl') <;> intro hc <;> try (exfalso; omega) | with_reducible refine iJ fun hc => ?_ | refine vcq (k := ?_) | fail))); all_goals ((try conv => whnf); try with_reducible exact trivial)
        refine ⟨Nat × (List Int → Prop) × (List Int → Int) × Nat × MG, fun q => q.1 ≤ L.length ∧ (∀ k, q.2.1 k ↔ ∃ t ∈ L.take q.1, [t.h.get (0 : Int).toNat] = k) ∧ ∀ k, q.2.1 k → 1 ≤ q.2.2.1 k ∧ q.2.2.1 k ≤ q.1, fun q => L.length - q.1, fun q => [(25, .int .i64 (q.1 : Nat))],
          fun q => [(1, .map [.i64] false false q.2.1 (fun k => [.int .i64 (q.2.2.1 k)]) q.2.2.2.1 q.2.2.2.2)], fun _ => [], (0, (fun _ => False), (fun _ => 0), 0, g0), ⟨⟨by dsimp only; omega, by simp, by simp⟩, some [some 0, some 1], ?_⟩, ?_⟩
        · (repeat' ((conv => whnf); (first | (with_reducible first | apply spl | apply spl') <;> intro hc <;> try (exfalso; omega) | with_reducible refine iJ fun hc => ?_ | refine vcq (k := ?_) | fail))); all_goals ((try conv => whnf); try with_reducible exact trivial)
        · rintro ⟨i, dom, c, m, g⟩ ⟨h1, h2, h3⟩
          dsimp only at h1 h2 h3
          have hq : ∀ key, inR .i64 (cntV dom c key + 1) := fun key => by
            unfold cntV
            split
            · rename_i h; have := h3 key h; show (-9223372036854775808 : Int) ≤ _ ∧ _ ≤ (9223372036854775807 : Int); omega
            · show (-9223372036854775808 : Int) ≤ _ ∧ _ ≤ (9223372036854775807 : Int); omega
          (repeat' ((conv => whnf); (first | (with_reducible first | apply spl | apply spl') <;> intro hc <;> try (exfalso; omega) | with_reducible refine iJ fun hc => ?_ | refine vcq (k := ?_) | fail))); all_goals ((try conv => whnf); try with_reducible exact trivial)
          · have hi : i < L.length := by dsimp only at hc; omega
            refine And.intro (hq _) ?_
            (repeat' ((conv => whnf); (first | (with_reducible first | apply spl | apply spl') <;> intro hc <;> try (exfalso; omega) | with_reducible refine iJ fun hc => ?_ | refine vcq (k := ?_) | fail))); all_goals ((try conv => whnf); try with_reducible exact trivial)
            intro g1
            (repeat' ((conv => whnf); (first | (with_reducible first | apply spl | apply spl') <;> intro hc <;> try (exfalso; omega) | with_reducible refine iJ fun hc => ?_ | refine vcq (k := ?_) | fail))); all_goals ((try conv => whnf); try with_reducible exact trivial)
            refine ⟨(i + 1, domPut dom [(L.getD i Img.none).h.a0], cntUp dom c [(L.getD i Img.none).h.a0], nPut dom m [(L.getD i Img.none).h.a0], g1), ⟨⟨by dsimp only; omega, fun key => ?_, cntUp_le h3⟩, by dsimp only; omega⟩, some [some 0, some 1], ?_⟩
            · dsimp only
              unfold domPut
              rw [h2]
              exact hold_snoc (b := 0) hi key
            · (repeat' ((conv => whnf); (first | (with_reducible first | apply spl | apply spl') <;> intro hc <;> try (exfalso; omega) | with_reducible refine iJ fun hc => ?_ | refine vcq (k := ?_) | fail))); all_goals ((try conv => whnf); try with_reducible exact trivial)
          · obtain rfl : i = L.length := by dsimp only at hc; omega
            refine callee_exec Try.E_ok Try.func58 rfl (by kernel_rfl) ?_
            (repeat' ((conv => whnf); (first | (with_reducible first | apply spl | apply spl') <;> intro hc <;> try (exfalso; omega) | with_reducible refine iJ fun hc => ?_ | refine vcq (k := ?_) | fail))); all_goals ((try conv => whnf); try with_reducible exact trivial)
            refine callee_frame [1, 2] (hfin dom c (hmem dom h2) m g) rfl ?_ ?_
            · (repeat' ((conv => whnf); (first | (with_reducible first | apply spl | apply spl') <;> intro hc <;> try (exfalso; omega) | with_reducible refine iJ fun hc => ?_ | refine vcq (k := ?_) | fail))); all_goals ((try conv => whnf); try with_reducible exact trivial)
            · rintro _ _ ⟨rfl, rfl⟩
              (repeat' ((conv => whnf); (first | (with_reducible first | apply spl | apply spl') <;> intro hc <;> try (exfalso; omega) | with_reducible refine iJ fun hc => ?_ | refine vcq (k := ?_) | fail))); all_goals ((try conv => whnf); try with_reducible exact trivial)
              refine ⟨_, rfl, ?_⟩
              (repeat' ((conv => whnf); (first | (with_reducible first | apply spl | apply spl') <;> intro hc <;> try (exfalso; omega) | with_reducible refine iJ fun hc => ?_ | refine vcq (k := ?_) | fail))); all_goals ((try conv => whnf); try with_reducible exact trivial)
      · (repeat' ((conv => whnf); (first | (with_reducible first | apply spl | apply spl') <;> intro hc <;> try (exfalso; omega) | with_reducible refine iJ fun hc => ?_ | refine vcq (k := ?_) | fail))); all_goals ((try conv => whnf); try with_reducible exact trivial)
        refine ⟨Nat × (List Int → Prop) × (List Int → Int) × Nat × MG, fun q => q.1 ≤ L.length ∧ (∀ k, q.2.1 k ↔ ∃ t ∈ L.take q.1, [t.h.get (1 : Int).toNat] = k) ∧ ∀ k, q.2.1 k → 1 ≤ q.2.2.1 k ∧ q.2.2.1 k ≤ q.1, fun q => L.length - q.1, fun q => [(25, .int .i64 (q.1 : Nat))],
          fun q => [(1, .map [.i64] false false q.2.1 (fun k => [.int .i64 (q.2.2.1 k)]) q.2.2.2.1 q.2.2.2.2)], fun _ => [], (0, (fun _ => False), (fun _ => 0), 0, g0), ⟨⟨by dsimp only; omega, by simp, by simp⟩, some [some 0, some 1], ?_⟩, ?_⟩
        · (repeat' ((conv => whnf); (first | (with_reducible first | apply spl | apply spl') <;> intro hc <;> try (exfalso; omega) | with_reducible refine iJ fun hc => ?_ | refine vcq (k := ?_) | fail))); all_goals ((try conv => whnf); try with_reducible exact trivial)
        · rintro ⟨i, dom, c, m, g⟩ ⟨h1, h2, h3⟩
          dsimp only at h1 h2 h3
          have hq : ∀ key, inR .i64 (cntV dom c key + 1) := fun key => by
            unfold cntV
            split
            · rename_i h; have := h3 key h; show (-9223372036854775808 : Int) ≤ _ ∧ _ ≤ (9223372036854775807 : Int); omega
            · show (-9223372036854775808 : Int) ≤ _ ∧ _ ≤ (9223372036854775807 : Int); omega
          (repeat' ((conv => whnf); (first | (with_reducible first | apply spl | apply spl') <;> intro hc <;> try (exfalso; omega) | with_reducible refine iJ fun hc => ?_ | refine vcq (k := ?_) | fail))); all_goals ((try conv => whnf); try with_reducible exact trivial)
          · have hi : i < L.length := by dsimp only at hc; omega
            refine And.intro (hq _) ?_
            (repeat' ((conv => whnf); (first | (with_reducible first | apply spl | apply spl') <;> intro hc <;> try (exfalso; omega) | with_reducible refine iJ fun hc => ?_ | refine vcq (k := ?_) | fail))); all_goals ((try conv => whnf); try with_reducible exact trivial)
            intro g1
            (repeat' ((conv => whnf); (first | (with_reducible first | apply spl | apply spl') <;> intro hc <;> try (exfalso; omega) | with_reducible refine iJ fun hc => ?_ | refine vcq (k := ?_) | fail))); all_goals ((try conv => whnf); try with_reducible exact trivial)
            refine ⟨(i + 1, domPut dom [(L.getD i Img.none).h.a1], cntUp dom c [(L.getD i Img.none).h.a1], nPut dom m [(L.getD i Img.none).h.a1], g1), ⟨⟨by dsimp only; omega, fun key => ?_, cntUp_le h3⟩, by dsimp only; omega⟩, some [some 0, some 1], ?_⟩
            · dsimp only
              unfold domPut
              rw [h2]
              exact hold_snoc (b := 1) hi key
            · (repeat' ((conv => whnf); (first | (with_reducible first | apply spl | apply spl') <;> intro hc <;> try (exfalso; omega) | with_reducible refine iJ fun hc => ?_ | refine vcq (k := ?_) | fail))); all_goals ((try conv => whnf); try with_reducible exact trivial)
          · obtain rfl : i = L.length := by dsimp only at hc; omega
            refine callee_exec Try.E_ok Try.func58 rfl (by kernel_rfl) ?_
            (repeat' ((conv => whnf); (first | (with_reducible first | apply spl | apply spl') <;> intro hc <;> try (exfalso; omega) | with_reducible refine iJ fun hc => ?_ | refine vcq (k := ?_) | fail))); all_goals ((try conv => whnf); try with_reducible exact trivial)
            refine callee_frame [1, 2] (hfin dom c (hmem dom h2) m g) rfl ?_ ?_
            · (repeat' ((conv => whnf); (first | (with_reducible first | apply spl | apply spl') <;> intro hc <;> try (exfalso; omega) | with_reducible refine iJ fun hc => ?_ | refine vcq (k := ?_) | fail))); all_goals ((try conv => whnf); try with_reducible exact trivial)
            · rintro _ _ ⟨rfl, rfl⟩
              (repeat' ((conv => whnf); (first | (with_reducible first | apply spl | apply spl') <;> intro hc <;> try (exfalso; omega) | with_reducible refine iJ fun hc => ?_ | refine vcq (k := ?_) | fail))); all_goals ((try conv => whnf); try with_reducible exact trivial)
              refine ⟨_, rfl, ?_⟩
              (repeat' ((conv => whnf); (first | (with_reducible first | apply spl | apply spl') <;> intro hc <;> try (exfalso; omega) | with_reducible refine iJ fun hc => ?_ | refine vcq (k := ?_) | fail))); all_goals ((try conv => whnf); try with_reducible exact trivial)
      · (repeat' ((conv => whnf); (first | (with_reducible first | apply spl | apply spl') <;> intro hc <;> try (exfalso; omega) | with_reducible refine iJ fun hc => ?_ | refine vcq (k := ?_) | fail))); all_goals ((try conv => whnf); try with_reducible exact trivial)
        refine ⟨Nat × (List Int → Prop) × (List Int → Int) × Nat × MG, fun q => q.1 ≤ L.length ∧ (∀ k, q.2.1 k ↔ ∃ t ∈ L.take q.1, [t.h.get (2 : Int).toNat] = k) ∧ ∀ k, q.2.1 k → 1 ≤ q.2.2.1 k ∧ q.2.2.1 k ≤ q.1, fun q => L.length - q.1, fun q => [(25, .int .i64 (q.1 : Nat))],
          fun q => [(1, .map [.i64] false false q.2.1 (fun k => [.int .i64 (q.2.2.1 k)]) q.2.2.2.1 q.2.2.2.2)], fun _ => [], (0, (fun _ => False), (fun _ => 0), 0, g0), ⟨⟨by dsimp only; omega, by simp, by simp⟩, some [some 0, some 1], ?_⟩, ?_⟩
        · (repeat' ((conv => whnf); (first | (with_reducible first | apply spl | apply spl') <;> intro hc <;> try (exfalso; omega) | with_reducible refine iJ fun hc => ?_ | refine vcq (k := ?_) | fail))); all_goals ((try conv => whnf); try with_reducible exact trivial)
        · rintro ⟨i, dom, c, m, g⟩ ⟨h1, h2, h3⟩
          dsimp only at h1 h2 h3
          have hq : ∀ key, inR .i64 (cntV dom c key + 1) := fun key => by
            unfold cntV
            split
            · rename_i h; have := h3 key h; show (-9223372036854775808 : Int) ≤ _ ∧ _ ≤ (9223372036854775807 : Int); omega
            · show (-9223372036854775808 : Int) ≤ _ ∧ _ ≤ (9223372036854775807 : Int); omega
          (repeat' ((conv => whnf); (first | (with_reducible first | apply spl | apply spl') <;> intro hc <;> try (exfalso; omega) | with_reducible refine iJ fun hc => ?_ | refine vcq (k := ?_) | fail))); all_goals ((try conv => whnf); try with_reducible exact trivial)
          · have hi : i < L.length := by dsimp only at hc; omega
            refine And.intro (hq _) ?_
            (repeat' ((conv => whnf); (first | (with_reducible first | apply spl | apply spl') <;> intro hc <;> try (exfalso; omega) | with_reducible refine iJ fun hc => ?_ | refine vcq (k := ?_) | fail))); all_goals ((try conv => whnf); try with_reducible exact trivial)
            intro g1
            (repeat' ((conv => whnf); (first | (with_reducible first | apply spl | apply spl') <;> intro hc <;> try (exfalso; omega) | with_reducible refine iJ fun hc => ?_ | refine vcq (k := ?_) | fail))); all_goals ((try conv => whnf); try with_reducible exact trivial)
            refine ⟨(i + 1, domPut dom [(L.getD i Img.none).h.a2], cntUp dom c [(L.getD i Img.none).h.a2], nPut dom m [(L.getD i Img.none).h.a2], g1), ⟨⟨by dsimp only; omega, fun key => ?_, cntUp_le h3⟩, by dsimp only; omega⟩, some [some 0, some 1], ?_⟩
            · dsimp only
              unfold domPut
              rw [h2]
              exact hold_snoc (b := 2) hi key
            · (repeat' ((conv => whnf); (first | (with_reducible first | apply spl | apply spl') <;> intro hc <;> try (exfalso; omega) | with_reducible refine iJ fun hc => ?_ | refine vcq (k := ?_) | fail))); all_goals ((try conv => whnf); try with_reducible exact trivial)
          · obtain rfl : i = L.length := by dsimp only at hc; omega
            refine callee_exec Try.E_ok Try.func58 rfl (by kernel_rfl) ?_
            (repeat' ((conv => whnf); (first | (with_reducible first | apply spl | apply spl') <;> intro hc <;> try (exfalso; omega) | with_reducible refine iJ fun hc => ?_ | refine vcq (k := ?_) | fail))); all_goals ((try conv => whnf); try with_reducible exact trivial)
            refine callee_frame [1, 2] (hfin dom c (hmem dom h2) m g) rfl ?_ ?_
            · (repeat' ((conv => whnf); (first | (with_reducible first | apply spl | apply spl') <;> intro hc <;> try (exfalso; omega) | with_reducible refine iJ fun hc => ?_ | refine vcq (k := ?_) | fail))); all_goals ((try conv => whnf); try with_reducible exact trivial)
            · rintro _ _ ⟨rfl, rfl⟩
              (repeat' ((conv => whnf); (first | (with_reducible first | apply spl | apply spl') <;> intro hc <;> try (exfalso; omega) | with_reducible refine iJ fun hc => ?_ | refine vcq (k := ?_) | fail))); all_goals ((try conv => whnf); try with_reducible exact trivial)
              refine ⟨_, rfl, ?_⟩
              (repeat' ((conv => whnf); (first | (with_reducible first | apply spl | apply spl') <;> intro hc <;> try (exfalso; omega) | with_reducible refine iJ fun hc => ?_ | refine vcq (k := ?_) | fail))); all_goals ((try conv => whnf); try with_reducible exact trivial)
end Go.Proofs


namespace Go.Proofs
open Go Go.Sx
set_option maxRecDepth 100000
set_option maxHeartbeats 40000000
def okAt (x : Cache) (b : Nat) (n : Int) : Prop := n = -1 ∨ n = -2 ∨ (0 ≤ n ∧ n ≤ x.l.length - 1) ∧ ((x.l.getD n.toNat (0, 0)).1 = 1 ∨ (x.l.getD n.toNat (0, 0)).1 = 2) ∧ (x.l.getD n.toNat (0, 0)).2 = b
def IsImg (x : Cache) (l : List Int) : Prop := (l.length : Int) = x.n ∧ ∀ b, b < l.length → okAt x b (l.getD b 0)
def Eqs (c : C6) (l : List Int) : Prop := ∀ b, b < l.length → c.get b = l.getD b 0
theorem equal73 (c : C6) (n : Nat) (hn : n ≤ 6) (l : List Int) (_hll : l.length ≤ 1000000) : PureC Try.prog 73 false [.sl 1 n (fun b => [.int .i64 (c.get b)]), .sl 1 l.length (rowOf intC 0 l)] (· = .prop (n = l.length ∧ Eqs c l) (Classical.propDecidable _)) := by
  refine pureC_of_exec Try.E_ok Try.func73 rfl (by kernel_rfl) ?_
  (repeat' ((conv => whnf); (first | (with_reducible first | apply spl | apply spl') <;> intro hc <;> try (exfalso; omega) | with_reducible refine iJ fun hc => ?_ | refine vcq (k := ?_) | refine dr 9 (k := ?_)))); all_goals ((try conv => whnf); try with_reducible exact trivial)
  · refine ⟨_, rfl, ?_⟩
    (repeat' ((conv => whnf); (first | (with_reducible first | apply spl | apply spl') <;> intro hc <;> try (exfalso; omega) | with_reducible refine iJ fun hc => ?_ | refine vcq (k := ?_) | refine dr 9 (k := ?_)))); all_goals ((try conv => whnf); try with_reducible exact trivial)
  · have hnl : n = l.length := by omega
    refine ⟨Nat, fun i => i ≤ n ∧ ∀ b, b < i → c.get b = l.getD b 0, fun i => n - i, fun i => [(13, .int .i64 (i : Nat))], fun _ => [], fun _ => [], 0, ⟨⟨by omega, fun b hb => by omega⟩, none, ?_⟩, ?_⟩
    · (repeat' ((conv => whnf); (first | (with_reducible first | apply spl | apply spl') <;> intro hc <;> try (exfalso; omega) | with_reducible refine iJ fun hc => ?_ | refine vcq (k := ?_) | refine dr 9 (k := ?_)))); all_goals ((try conv => whnf); try with_reducible exact trivial)
    · rintro i ⟨h1, h2⟩
      have hti : (i : Int).toNat = i := Int.toNat_natCast i
      (repeat' ((conv => whnf); (first | (with_reducible first | apply spl | apply spl') <;> intro hc <;> try (exfalso; omega) | with_reducible refine iJ fun hc => ?_ | refine vcq (k := ?_) | refine dr 9 (k := ?_)))); all_goals ((try conv => whnf); try with_reducible exact trivial)
      · refine ⟨_, rfl, ?_⟩
        (repeat' ((conv => whnf); (first | (with_reducible first | apply spl | apply spl') <;> intro hc <;> try (exfalso; omega) | with_reducible refine iJ fun hc => ?_ | refine vcq (k := ?_) | refine dr 9 (k := ?_)))); all_goals ((try conv => whnf); try with_reducible exact trivial)
        refine ⟨fun h => ?_, trivial⟩
        rw [hti] at hc
        exact hc (h.2 i (by omega))
      · rw [hti] at hc
        refine ⟨i + 1, ⟨⟨by omega, fun b hb => ?_⟩, by dsimp only; omega⟩, none, ?_⟩
        · rcases Nat.lt_or_eq_of_le (show b ≤ i by omega) with h | rfl
          · exact h2 b h
          · exact Classical.not_not.1 hc
        · (repeat' ((conv => whnf); (first | (with_reducible first | apply spl | apply spl') <;> intro hc <;> try (exfalso; omega) | with_reducible refine iJ fun hc => ?_ | refine vcq (k := ?_) | refine dr 9 (k := ?_)))); all_goals ((try conv => whnf); try with_reducible exact trivial)
      · refine ⟨_, rfl, ?_⟩
        (repeat' ((conv => whnf); (first | (with_reducible first | apply spl | apply spl') <;> intro hc <;> try (exfalso; omega) | with_reducible refine iJ fun hc => ?_ | refine vcq (k := ?_) | refine dr 9 (k := ?_)))); all_goals ((try conv => whnf); try with_reducible exact trivial)
        exact ⟨⟨hnl, fun b hb => h2 b (by omega)⟩, trivial⟩
def zI : V := .agg [.lit (.pointer none), .lit (.slice none 0 0), .int .i64 0, .int .i64 0, .int .i64 0, .int .i64 0, .int .i64 0, .int .i64 0, .prop False inferInstance]
inductive Found (x : Cache) (l : List Int) : V → Prop
  | chk : x.chk ≠ 0 → Found x l (.tup [zI, .kb false, .int .i64 x.chk])
  | img : x.chk = 0 → ¬ IsImg x l → Found x l (.tup [zI, .kb false, .int .i64 81])
  | none : x.chk = 0 → IsImg x l → (¬ ∃ c, PosI x c ∧ Eqs c l) → Found x l (.tup [zI, .kb false, .int .i64 0])
  | some (im : Img) : x.chk = 0 → IsImg x l → ImgOk x im → Eqs im.h l → Found x l (.tup [.agg (imC im), .kb true, .int .i64 0])
theorem find55 (x : Cache) (hl : x.l.length ≤ 1000000) (hs : x.chk = 0 → x.Small) (l : List Int) (hll : l.length ≤ 1000000) : PureC Try.prog 55 true [x.v, .sl 1 l.length (rowOf intC 0 l)] (Found x l) := by
  refine pureC_of_exec Try.E_ok Try.func55 rfl (by kernel_rfl) ?_
  (repeat' ((conv => whnf); (first | (with_reducible first | apply spl | apply spl') <;> intro hc <;> try (exfalso; omega) | with_reducible refine iJ fun hc => ?_ | refine vcq (k := ?_) | refine dr 9 (k := ?_)))); all_goals ((try conv => whnf); try with_reducible exact trivial); (repeat' ((first | (refine callee_fo (check36 x hl) rfl ?_; rintro _ rfl) | (refine pcall_intro (check36 x hl) rfl ?_) | (refine pcall_soft (fun _ => check36 x hl) rfl ?_)); (repeat' ((conv => whnf); (first | (with_reducible first | apply spl | apply spl') <;> intro hc <;> try (exfalso; omega) | with_reducible refine iJ fun hc => ?_ | refine vcq (k := ?_) | refine dr 9 (k := ?_)))); all_goals ((try conv => whnf); try with_reducible exact trivial)))
  · exact ⟨_, .chk hc, by (repeat' ((conv => whnf); (first | (with_reducible first | apply spl | apply spl') <;> intro hc <;> try (exfalso; omega) | with_reducible refine iJ fun hc => ?_ | refine vcq (k := ?_) | refine dr 9 (k := ?_)))); all_goals ((try conv => whnf); try with_reducible exact trivial)⟩
  · rename_i hk
    have hk := Classical.not_not.1 hk
    exact ⟨_, .img hk (fun h => hc h.1), by (repeat' ((conv => whnf); (first | (with_reducible first | apply spl | apply spl') <;> intro hc <;> try (exfalso; omega) | with_reducible refine iJ fun hc => ?_ | refine vcq (k := ?_) | refine dr 9 (k := ?_)))); all_goals ((try conv => whnf); try with_reducible exact trivial)⟩
  · rename_i hk
    have hk : x.chk = 0 := Classical.not_not.1 hk
    have hln : (l.length : Int) = x.n := Classical.not_not.1 hc
    have hx := hs hk
    have hn := hx.ok.n
    have hx16 := hx.ok.len
    have hx3 := hx.n
    refine ⟨Nat, fun i => i ≤ l.length ∧ ∀ b, b < i → okAt x b (l.getD b 0), fun i => l.length - i, fun i => [(26, .int .i64 (i : Nat))], fun _ => [], fun _ => [], 0, ⟨⟨by omega, fun b hb => by omega⟩, none, ?_⟩, ?_⟩
    · (repeat' ((conv => whnf); (first | (with_reducible first | apply spl | apply spl') <;> intro hc <;> try (exfalso; omega) | with_reducible refine iJ fun hc => ?_ | refine vcq (k := ?_) | refine dr 9 (k := ?_)))); all_goals ((try conv => whnf); try with_reducible exact trivial)
    · rintro i ⟨h1, h2⟩
      have hti : (i : Int).toNat = i := Int.toNat_natCast i
      (repeat' ((conv => whnf); (first | (with_reducible first | apply spl | apply spl') <;> intro hc <;> try (exfalso; omega) | with_reducible refine iJ fun hc => ?_ | refine vcq (k := ?_) | refine dr 9 (k := ?_)))); all_goals ((try conv => whnf); try with_reducible exact trivial); (repeat' ((first | (refine callee_fo (within51 _ _ _) rfl ?_; rintro _ rfl) | (refine pcall_intro (within51 _ _ _) rfl ?_) | (refine pcall_soft (fun _ => within51 _ _ _) rfl ?_) | (refine callee_fo (puts62 _) rfl ?_; rintro _ rfl) | (refine pcall_intro (puts62 _) rfl ?_) | (refine pcall_soft (fun _ => puts62 _) rfl ?_)); (repeat' ((conv => whnf); (first | (with_reducible first | apply spl | apply spl') <;> intro hc <;> try (exfalso; omega) | with_reducible refine iJ fun hc => ?_ | refine vcq (k := ?_) | refine dr 9 (k := ?_)))); all_goals ((try conv => whnf); try with_reducible exact trivial)))
      · have hi : i < l.length := by omega
        rw [hti] at *
        refine ⟨_, .img hk (fun h => ?_), by (repeat' ((conv => whnf); (first | (with_reducible first | apply spl | apply spl') <;> intro hc <;> try (exfalso; omega) | with_reducible refine iJ fun hc => ?_ | refine vcq (k := ?_) | refine dr 9 (k := ?_)))); all_goals ((try conv => whnf); try with_reducible exact trivial)⟩
        have h3 := h.2 i hi
        unfold okAt at h3
        have q2 : l.getD i 0 ≠ -1 ∧ l.getD i 0 ≠ -2 := by assumption
        rcases h3 with h3 | h3 | ⟨_, h4, h5⟩
        · exact q2.1 h3
        · exact q2.2 h3
        · rcases hc with hc | hc
          · exact hc h4
          · exact hc h5
      · have hi : i < l.length := by omega
        refine ⟨i + 1, ⟨⟨by omega, fun b hb => ?_⟩, by dsimp only; omega⟩, none, ?_⟩
        · rcases Nat.lt_or_eq_of_le (show b ≤ i by omega) with g | rfl
          · exact h2 b g
          · rw [hti] at *
            have q1 : ¬¬(0 ≤ l.getD b 0 ∧ l.getD b 0 ≤ x.l.length - 1) := by assumption
            exact .inr (.inr ⟨Classical.not_not.1 q1, Classical.not_not.1 (fun g => hc (.inl g)), Classical.not_not.1 (fun g => hc (.inr g))⟩)
        · (repeat' ((conv => whnf); (first | (with_reducible first | apply spl | apply spl') <;> intro hc <;> try (exfalso; omega) | with_reducible refine iJ fun hc => ?_ | refine vcq (k := ?_) | refine dr 9 (k := ?_)))); all_goals ((try conv => whnf); try with_reducible exact trivial)
      · have hi : i < l.length := by omega
        rw [hti] at *
        refine ⟨_, .img hk (fun h => ?_), by (repeat' ((conv => whnf); (first | (with_reducible first | apply spl | apply spl') <;> intro hc <;> try (exfalso; omega) | with_reducible refine iJ fun hc => ?_ | refine vcq (k := ?_) | refine dr 9 (k := ?_)))); all_goals ((try conv => whnf); try with_reducible exact trivial)⟩
        have h3 := h.2 i hi
        unfold okAt at h3
        have q1 : l.getD i 0 ≠ -1 ∧ l.getD i 0 ≠ -2 := by assumption
        rcases h3 with h3 | h3 | ⟨h4, _⟩
        · exact q1.1 h3
        · exact q1.2 h3
        · exact hc h4
      · have hi : i < l.length := by omega
        refine ⟨i + 1, ⟨⟨by omega, fun b hb => ?_⟩, by dsimp only; omega⟩, none, ?_⟩
        · rcases Nat.lt_or_eq_of_le (show b ≤ i by omega) with g | rfl
          · exact h2 b g
          · rw [hti] at hc
            unfold okAt
            by_cases g : l.getD b 0 = -1
            · exact .inl g
            · exact .inr (.inl (Classical.byContradiction fun g2 => hc ⟨g, g2⟩))
        · (repeat' ((conv => whnf); (first | (with_reducible first | apply spl | apply spl') <;> intro hc <;> try (exfalso; omega) | with_reducible refine iJ fun hc => ?_ | refine vcq (k := ?_) | refine dr 9 (k := ?_)))); all_goals ((try conv => whnf); try with_reducible exact trivial)
      · have hii : i = l.length := by omega
        subst hii
        have himg : IsImg x l := ⟨hln, h2⟩
        refine callee_fo (images56s x hx) rfl ?_
        rintro _ ⟨L, hL, rfl⟩
        have hLl := hL.len
        (repeat' ((conv => whnf); (first | (with_reducible first | apply spl | apply spl') <;> intro hc <;> try (exfalso; omega) | with_reducible refine iJ fun hc => ?_ | refine vcq (k := ?_) | refine dr 9 (k := ?_)))); all_goals ((try conv => whnf); try with_reducible exact trivial)
        refine ⟨Nat, fun j => j ≤ L.length ∧ ∀ q, q < j → ¬ Eqs (L.getD q Img.none).h l, fun j => L.length - j, fun j => [(70, .int .i64 (j : Nat))], fun _ => [], fun _ => [], 0, ⟨⟨by omega, fun q hq => by omega⟩, none, ?_⟩, ?_⟩
        · (repeat' ((conv => whnf); (first | (with_reducible first | apply spl | apply spl') <;> intro hc <;> try (exfalso; omega) | with_reducible refine iJ fun hc => ?_ | refine vcq (k := ?_) | refine dr 9 (k := ?_)))); all_goals ((try conv => whnf); try with_reducible exact trivial)
        · rintro j ⟨g1, g2⟩
          have htj : (j : Int).toNat = j := Int.toNat_natCast j
          (repeat' ((conv => whnf); (first | (with_reducible first | apply spl | apply spl') <;> intro hc <;> try (exfalso; omega) | with_reducible refine iJ fun hc => ?_ | refine vcq (k := ?_) | refine dr 9 (k := ?_)))); all_goals ((try conv => whnf); try with_reducible exact trivial)
          · have hj : j < L.length := by omega
            have e : L.getD j Img.none = L[j] := by simp [List.getD_eq_getElem?_getD, hj]
            have hok : ImgOk x (L.getD j Img.none) := by rw [e]; exact hL.ok _ (List.getElem_mem hj)
            refine callee_view (equal73 (L.getD j Img.none).h x.n.toNat (by omega) l hll) ?_
            (repeat' ((conv => whnf); (first | (with_reducible first | apply spl | apply spl') <;> intro hc <;> try (exfalso; omega) | with_reducible refine iJ fun hc => ?_ | refine vcq (k := ?_) | refine dr 9 (k := ?_)))); all_goals ((try conv => whnf); try with_reducible exact trivial)
            rw [htj]
            refine ⟨fun b hb => ?_, ?_⟩
            · have : b = 0 ∨ b = 1 ∨ b = 2 := by omega
              rcases this with rfl | rfl | rfl <;> exact ⟨rfl, rfl⟩
            (repeat' ((conv => whnf); (first | (with_reducible first | apply spl | apply spl') <;> intro hc <;> try (exfalso; omega) | with_reducible refine iJ fun hc => ?_ | refine vcq (k := ?_) | refine dr 9 (k := ?_)))); all_goals ((try conv => whnf); try with_reducible exact trivial)
            rintro _ rfl
            (repeat' ((conv => whnf); (first | (with_reducible first | apply spl | apply spl') <;> intro hc <;> try (exfalso; omega) | with_reducible refine iJ fun hc => ?_ | refine vcq (k := ?_) | refine dr 9 (k := ?_)))); all_goals ((try conv => whnf); try with_reducible exact trivial)
            · exact ⟨_, .some _ hk himg hok hc.2, by (repeat' ((conv => whnf); (first | (with_reducible first | apply spl | apply spl') <;> intro hc <;> try (exfalso; omega) | with_reducible refine iJ fun hc => ?_ | refine vcq (k := ?_) | refine dr 9 (k := ?_)))); all_goals ((try conv => whnf); try with_reducible exact trivial)⟩
            · have hne : ¬ Eqs (L.getD j Img.none).h l := fun h => hc ⟨by omega, h⟩
              refine ⟨j + 1, ⟨⟨by omega, fun q hq => ?_⟩, by dsimp only; omega⟩, some [some 0, some 1], ?_⟩
              · rcases Nat.lt_or_eq_of_le (show q ≤ j by omega) with g | rfl
                · exact g2 q g
                · exact hne
              · (repeat' ((conv => whnf); (first | (with_reducible first | apply spl | apply spl') <;> intro hc <;> try (exfalso; omega) | with_reducible refine iJ fun hc => ?_ | refine vcq (k := ?_) | refine dr 9 (k := ?_)))); all_goals ((try conv => whnf); try with_reducible exact trivial)
          · refine ⟨_, .none hk himg ?_, by (repeat' ((conv => whnf); (first | (with_reducible first | apply spl | apply spl') <;> intro hc <;> try (exfalso; omega) | with_reducible refine iJ fun hc => ?_ | refine vcq (k := ?_) | refine dr 9 (k := ?_)))); all_goals ((try conv => whnf); try with_reducible exact trivial)⟩
            rintro ⟨c, h3, h4⟩
            obtain ⟨im, h5, rfl⟩ := (hL.pos hx.ok _).2 h3
            obtain ⟨q, hq, rfl⟩ := List.getElem_of_mem h5
            have e : L.getD q Img.none = L[q] := by simp [List.getD_eq_getElem?_getD, hq]
            exact g2 q (by omega) (e ▸ h4)
end Go.Proofs


namespace Go.Proofs
open Go Go.Sx
set_option maxRecDepth 100000
set_option maxHeartbeats 40000000
def IsPos (x : Cache) (l : List Int) : Prop := ∃ c, PosI x c ∧ Eqs c l
inductive PosR (x : Cache) (l : List Int) : V → Prop
  | chk : x.chk ≠ 0 → PosR x l (.tup [.prop False inferInstance, .int .i64 x.chk])
  | img : x.chk = 0 → ¬ IsImg x l → PosR x l (.tup [.prop False inferInstance, .int .i64 81])
  | pos : x.chk = 0 → IsImg x l → PosR x l (.tup [.prop (IsPos x l) (Classical.propDecidable _), .int .i64 0])
theorem ImgOk.pos {x : Cache} {im : Img} (h : ImgOk x im) : PosI x im.h := ⟨im, h, rfl⟩
theorem Possible21 (x : Cache) (hl : x.l.length ≤ 1000000) (hs : x.chk = 0 → x.Small) (l : List Int) (hll : l.length ≤ 1000000) : PureC Try.prog 21 false [x.v, .sl 1 l.length (rowOf intC 0 l)] (PosR x l) := by
  refine pureC_of_exec Try.E_ok Try.func21 rfl (by kernel_rfl) ?_
  (repeat' ((conv => whnf); (first | (with_reducible first | apply spl | apply spl') <;> intro hc <;> try (exfalso; omega) | with_reducible refine iJ fun hc => ?_ | refine vcq (k := ?_) | refine dr 8 (k := ?_)))); all_goals ((try conv => whnf); try with_reducible exact trivial)
  refine callee_fo (find55 x hl hs l hll) rfl ?_
  intro r hr
  cases hr with
  | chk h1 =>
    (repeat' ((conv => whnf); (first | (with_reducible first | apply spl | apply spl') <;> intro hc <;> try (exfalso; omega) | with_reducible refine iJ fun hc => ?_ | refine vcq (k := ?_) | refine dr 8 (k := ?_)))); all_goals ((try conv => whnf); try with_reducible exact trivial)
    exact ⟨_, .chk h1, by (repeat' ((conv => whnf); (first | (with_reducible first | apply spl | apply spl') <;> intro hc <;> try (exfalso; omega) | with_reducible refine iJ fun hc => ?_ | refine vcq (k := ?_) | refine dr 8 (k := ?_)))); all_goals ((try conv => whnf); try with_reducible exact trivial)⟩
  | img h1 h2 =>
    (repeat' ((conv => whnf); (first | (with_reducible first | apply spl | apply spl') <;> intro hc <;> try (exfalso; omega) | with_reducible refine iJ fun hc => ?_ | refine vcq (k := ?_) | refine dr 8 (k := ?_)))); all_goals ((try conv => whnf); try with_reducible exact trivial)
    exact ⟨_, .img h1 h2, by (repeat' ((conv => whnf); (first | (with_reducible first | apply spl | apply spl') <;> intro hc <;> try (exfalso; omega) | with_reducible refine iJ fun hc => ?_ | refine vcq (k := ?_) | refine dr 8 (k := ?_)))); all_goals ((try conv => whnf); try with_reducible exact trivial)⟩
  | none h1 h2 h3 =>
    (repeat' ((conv => whnf); (first | (with_reducible first | apply spl | apply spl') <;> intro hc <;> try (exfalso; omega) | with_reducible refine iJ fun hc => ?_ | refine vcq (k := ?_) | refine dr 8 (k := ?_)))); all_goals ((try conv => whnf); try with_reducible exact trivial)
    refine ⟨_, .pos h1 h2, ?_⟩
    (repeat' ((conv => whnf); (first | (with_reducible first | apply spl | apply spl') <;> intro hc <;> try (exfalso; omega) | with_reducible refine iJ fun hc => ?_ | refine vcq (k := ?_) | refine dr 8 (k := ?_)))); all_goals ((try conv => whnf); try with_reducible exact trivial)
    refine ⟨h3, ?_⟩
    (repeat' ((conv => whnf); (first | (with_reducible first | apply spl | apply spl') <;> intro hc <;> try (exfalso; omega) | with_reducible refine iJ fun hc => ?_ | refine vcq (k := ?_) | refine dr 8 (k := ?_)))); all_goals ((try conv => whnf); try with_reducible exact trivial)
  | some im h1 h2 h3 h4 =>
    (repeat' ((conv => whnf); (first | (with_reducible first | apply spl | apply spl') <;> intro hc <;> try (exfalso; omega) | with_reducible refine iJ fun hc => ?_ | refine vcq (k := ?_) | refine dr 8 (k := ?_)))); all_goals ((try conv => whnf); try with_reducible exact trivial)
    refine ⟨_, .pos h1 h2, ?_⟩
    (repeat' ((conv => whnf); (first | (with_reducible first | apply spl | apply spl') <;> intro hc <;> try (exfalso; omega) | with_reducible refine iJ fun hc => ?_ | refine vcq (k := ?_) | refine dr 8 (k := ?_)))); all_goals ((try conv => whnf); try with_reducible exact trivial)
    refine ⟨⟨_, h3.pos, h4⟩, ?_⟩
    (repeat' ((conv => whnf); (first | (with_reducible first | apply spl | apply spl') <;> intro hc <;> try (exfalso; omega) | with_reducible refine iJ fun hc => ?_ | refine vcq (k := ?_) | refine dr 8 (k := ?_)))); all_goals ((try conv => whnf); try with_reducible exact trivial)
inductive ShowR (x : Cache) (l : List Int) : V → Prop
  | chk : x.chk ≠ 0 → ShowR x l (.tup [.lit (.slice none 0 0), .prop False inferInstance, .int .i64 x.chk])
  | img : x.chk = 0 → ¬ IsImg x l → ShowR x l (.tup [.lit (.slice none 0 0), .prop False inferInstance, .int .i64 81])
  | no : x.chk = 0 → IsImg x l → ¬ IsPos x l → ShowR x l (.tup [.lit (.slice none 0 0), .prop False inferInstance, .int .i64 3])
  | yes (im : Img) : x.chk = 0 → IsImg x l → ImgOk x im → Eqs im.h l → ShowR x l (.tup [drV im.t.D, .prop (im.torn = true) inferInstance, .int .i64 0])
theorem Show31 (x : Cache) (hl : x.l.length ≤ 1000000) (hs : x.chk = 0 → x.Small) (l : List Int) (hll : l.length ≤ 1000000) : PureC Try.prog 31 true [x.v, .sl 1 l.length (rowOf intC 0 l)] (ShowR x l) := by
  refine pureC_of_exec Try.E_ok Try.func31 rfl (by kernel_rfl) ?_
  (repeat' ((conv => whnf); (first | (with_reducible first | apply spl | apply spl') <;> intro hc <;> try (exfalso; omega) | with_reducible refine iJ fun hc => ?_ | refine vcq (k := ?_) | refine dr 8 (k := ?_)))); all_goals ((try conv => whnf); try with_reducible exact trivial)
  refine callee_fo (find55 x hl hs l hll) rfl ?_
  intro r hr
  cases hr with
  | chk h1 =>
    (repeat' ((conv => whnf); (first | (with_reducible first | apply spl | apply spl') <;> intro hc <;> try (exfalso; omega) | with_reducible refine iJ fun hc => ?_ | refine vcq (k := ?_) | refine dr 8 (k := ?_)))); all_goals ((try conv => whnf); try with_reducible exact trivial)
    exact ⟨_, .chk h1, by (repeat' ((conv => whnf); (first | (with_reducible first | apply spl | apply spl') <;> intro hc <;> try (exfalso; omega) | with_reducible refine iJ fun hc => ?_ | refine vcq (k := ?_) | refine dr 8 (k := ?_)))); all_goals ((try conv => whnf); try with_reducible exact trivial)⟩
  | img h1 h2 =>
    (repeat' ((conv => whnf); (first | (with_reducible first | apply spl | apply spl') <;> intro hc <;> try (exfalso; omega) | with_reducible refine iJ fun hc => ?_ | refine vcq (k := ?_) | refine dr 8 (k := ?_)))); all_goals ((try conv => whnf); try with_reducible exact trivial)
    exact ⟨_, .img h1 h2, by (repeat' ((conv => whnf); (first | (with_reducible first | apply spl | apply spl') <;> intro hc <;> try (exfalso; omega) | with_reducible refine iJ fun hc => ?_ | refine vcq (k := ?_) | refine dr 8 (k := ?_)))); all_goals ((try conv => whnf); try with_reducible exact trivial)⟩
  | none h1 h2 h3 =>
    (repeat' ((conv => whnf); (first | (with_reducible first | apply spl | apply spl') <;> intro hc <;> try (exfalso; omega) | with_reducible refine iJ fun hc => ?_ | refine vcq (k := ?_) | refine dr 8 (k := ?_)))); all_goals ((try conv => whnf); try with_reducible exact trivial)
    exact ⟨_, .no h1 h2 h3, by (repeat' ((conv => whnf); (first | (with_reducible first | apply spl | apply spl') <;> intro hc <;> try (exfalso; omega) | with_reducible refine iJ fun hc => ?_ | refine vcq (k := ?_) | refine dr 8 (k := ?_)))); all_goals ((try conv => whnf); try with_reducible exact trivial)⟩
  | some im h1 h2 h3 h4 =>
    (repeat' ((conv => whnf); (first | (with_reducible first | apply spl | apply spl') <;> intro hc <;> try (exfalso; omega) | with_reducible refine iJ fun hc => ?_ | refine vcq (k := ?_) | refine dr 8 (k := ?_)))); all_goals ((try conv => whnf); try with_reducible exact trivial)
    exact ⟨_, .yes im h1 h2 h3 h4, by (repeat' ((conv => whnf); (first | (with_reducible first | apply spl | apply spl') <;> intro hc <;> try (exfalso; omega) | with_reducible refine iJ fun hc => ?_ | refine vcq (k := ?_) | refine dr 8 (k := ?_)))); all_goals ((try conv => whnf); try with_reducible exact trivial)⟩
end Go.Proofs


namespace Go.Proofs
open Go Go.Sx
set_option maxRecDepth 100000
set_option maxHeartbeats 40000000
theorem within47 (n x y : Int) : PureC Try.prog 47 false [.int .i64 n, .int .i64 x, .int .i64 y] (· = .prop (x ≤ n ∧ n ≤ y) inferInstance) := by
  refine pureC_of_exec Try.E_ok Try.func47 rfl (by kernel_rfl) ?_
  (repeat' ((conv => whnf); (first | (with_reducible first | apply spl | apply spl') <;> intro hc <;> try (exfalso; omega) | with_reducible refine iJ fun hc => ?_ | refine vcq (k := ?_) | fail))); all_goals ((try conv => whnf); try with_reducible exact trivial); (all_goals (try (refine ⟨_, rfl, ?_⟩; (repeat' ((conv => whnf); (first | (with_reducible first | apply spl | apply spl') <;> intro hc <;> try (exfalso; omega) | with_reducible refine iJ fun hc => ?_ | refine vcq (k := ?_) | fail))); all_goals ((try conv => whnf); try with_reducible exact trivial))))
theorem puts35 (o : Int × Int) : PureC Try.prog 35 false [oV o] (· = .prop (o.1 = 1 ∨ o.1 = 2) inferInstance) := by
  refine pureC_of_exec Try.E_ok Try.func35 rfl (by kernel_rfl) ?_
  (repeat' ((conv => whnf); (first | (with_reducible first | apply spl | apply spl') <;> intro hc <;> try (exfalso; omega) | with_reducible refine iJ fun hc => ?_ | refine vcq (k := ?_) | fail))); all_goals ((try conv => whnf); try with_reducible exact trivial); (all_goals (try (refine ⟨_, rfl, ?_⟩; (repeat' ((conv => whnf); (first | (with_reducible first | apply spl | apply spl') <;> intro hc <;> try (exfalso; omega) | with_reducible refine iJ fun hc => ?_ | refine vcq (k := ?_) | fail))); all_goals ((try conv => whnf); try with_reducible exact trivial))))
end Go.Proofs


namespace Go.Proofs
open Go Go.Sx
set_option maxRecDepth 100000
set_option maxHeartbeats 40000000
theorem Cache.at {x : Cache} {i : Nat} (h : i < x.l.length) : x.l.getD i (0, 0) ∈ x.l := by
  have e : x.l.getD i (0, 0) = x.l[i] := by simp [List.getD_eq_getElem?_getD, h]
  rw [e]
  exact List.getElem_mem h
theorem Check37 (x : Cache) (hl : x.l.length ≤ 1000000) : PureC Try.prog 37 false [x.v] (· = .int .i64 x.chk) := by
  refine pureC_of_exec Try.E_ok Try.func37 rfl (by kernel_rfl) ?_
  unfold Cache.chk
  (repeat' ((conv => whnf); (first | (with_reducible first | apply spl | apply spl') <;> intro hc <;> try (exfalso; omega) | with_reducible refine iJ fun hc => ?_ | refine vcq (k := ?_) | fail))); all_goals ((try conv => whnf); try with_reducible exact trivial); (repeat' ((first | (refine callee_fo (within47 _ _ _) rfl ?_; rintro _ rfl) | (refine pcall_intro (within47 _ _ _) rfl ?_) | (refine pcall_soft (fun _ => within47 _ _ _) rfl ?_)); (repeat' ((conv => whnf); (first | (with_reducible first | apply spl | apply spl') <;> intro hc <;> try (exfalso; omega) | with_reducible refine iJ fun hc => ?_ | refine vcq (k := ?_) | fail))); all_goals ((try conv => whnf); try with_reducible exact trivial)))
  · rw [if_neg (fun h => by have := h.n; have := h.len; omega)]
    refine ⟨_, rfl, ?_⟩
    (repeat' ((conv => whnf); (first | (with_reducible first | apply spl | apply spl') <;> intro hc <;> try (exfalso; omega) | with_reducible refine iJ fun hc => ?_ | refine vcq (k := ?_) | fail))); all_goals ((try conv => whnf); try with_reducible exact trivial)
  · have hn : (1 ≤ x.n ∧ x.n ≤ 6) ∧ (x.l.length : Int) ≤ 16 := by omega
    refine ⟨Nat, fun i => i ≤ x.l.length ∧ ∀ j, j < i → Cache.OkO x.n (x.l.getD j (0, 0)), fun i => x.l.length - i, fun i => [(3, .int .i64 (i : Nat)), (10, .any)], fun _ => [], fun _ => [], 0, ⟨⟨by omega, fun j hj => by omega⟩, some [some 0], ?_⟩, ?_⟩
    · (repeat' ((conv => whnf); (first | (with_reducible first | apply spl | apply spl') <;> intro hc <;> try (exfalso; omega) | with_reducible refine iJ fun hc => ?_ | refine vcq (k := ?_) | fail))); all_goals ((try conv => whnf); try with_reducible exact trivial)
    · rintro i ⟨h1, h2⟩
      have hti : (i : Int).toNat = i := Int.toNat_natCast i
      have hbad : ∀ (hi : i < x.l.length), ¬ Cache.OkO x.n (x.l.getD i (0, 0)) → ¬ x.Ok := fun hi h g => h (g.ord _ (Cache.at hi))
      (repeat' ((conv => whnf); (first | (with_reducible first | apply spl | apply spl') <;> intro hc <;> try (exfalso; omega) | with_reducible refine iJ fun hc => ?_ | refine vcq (k := ?_) | fail))); all_goals ((try conv => whnf); try with_reducible exact trivial); (repeat' ((first | (refine callee_fo (within47 _ _ _) rfl ?_; rintro _ rfl) | (refine pcall_intro (within47 _ _ _) rfl ?_) | (refine pcall_soft (fun _ => within47 _ _ _) rfl ?_) | (refine callee_fo (puts35 _) rfl ?_; rintro _ rfl) | (refine pcall_intro (puts35 _) rfl ?_) | (refine pcall_soft (fun _ => puts35 _) rfl ?_)); (repeat' ((conv => whnf); (first | (with_reducible first | apply spl | apply spl') <;> intro hc <;> try (exfalso; omega) | with_reducible refine iJ fun hc => ?_ | refine vcq (k := ?_) | fail))); all_goals ((try conv => whnf); try with_reducible exact trivial)))
      · have hi : i < x.l.length := by omega
        rw [hti] at *
        rw [if_neg (hbad hi (fun g => by unfold Cache.OkO at g; omega))]
        refine ⟨_, rfl, ?_⟩
        (repeat' ((conv => whnf); (first | (with_reducible first | apply spl | apply spl') <;> intro hc <;> try (exfalso; omega) | with_reducible refine iJ fun hc => ?_ | refine vcq (k := ?_) | fail))); all_goals ((try conv => whnf); try with_reducible exact trivial)
      · have hi : i < x.l.length := by omega
        rw [hti] at *
        refine ⟨i + 1, ⟨⟨by omega, fun j hj => ?_⟩, by dsimp only; omega⟩, some [some 0], ?_⟩
        · rcases Nat.lt_or_eq_of_le (show j ≤ i by omega) with g | rfl
          · exact h2 j g
          · unfold Cache.OkO
            omega
        · (repeat' ((conv => whnf); (first | (with_reducible first | apply spl | apply spl') <;> intro hc <;> try (exfalso; omega) | with_reducible refine iJ fun hc => ?_ | refine vcq (k := ?_) | fail))); all_goals ((try conv => whnf); try with_reducible exact trivial)
      · have hi : i < x.l.length := by omega
        rw [hti] at *
        rw [if_neg (hbad hi (fun g => by unfold Cache.OkO at g; omega))]
        refine ⟨_, rfl, ?_⟩
        (repeat' ((conv => whnf); (first | (with_reducible first | apply spl | apply spl') <;> intro hc <;> try (exfalso; omega) | with_reducible refine iJ fun hc => ?_ | refine vcq (k := ?_) | fail))); all_goals ((try conv => whnf); try with_reducible exact trivial)
      · have hi : i < x.l.length := by omega
        rw [hti] at *
        rw [if_neg (hbad hi (fun g => by unfold Cache.OkO at g; omega))]
        refine ⟨_, rfl, ?_⟩
        (repeat' ((conv => whnf); (first | (with_reducible first | apply spl | apply spl') <;> intro hc <;> try (exfalso; omega) | with_reducible refine iJ fun hc => ?_ | refine vcq (k := ?_) | fail))); all_goals ((try conv => whnf); try with_reducible exact trivial)
      · have hii : i = x.l.length := by omega
        subst hii
        have hok : x.Ok := by
          refine ⟨hn.1, by omega, fun o ho => ?_⟩
          obtain ⟨q, hq, rfl⟩ := List.getElem_of_mem ho
          have e : x.l.getD q (0, 0) = x.l[q] := by simp [List.getD_eq_getElem?_getD, hq]
          rw [← e]
          exact h2 q hq
        rw [if_pos hok]
        refine ⟨_, rfl, ?_⟩
        (repeat' ((conv => whnf); (first | (with_reducible first | apply spl | apply spl') <;> intro hc <;> try (exfalso; omega) | with_reducible refine iJ fun hc => ?_ | refine vcq (k := ?_) | fail))); all_goals ((try conv => whnf); try with_reducible exact trivial)
def Cache.far (x : Cache) : Prop := 40 < (x.l.length : Int) ∨ x.chk = 0 ∧ (3 < x.n ∨ 7 < (x.l.length : Int))
theorem Far23 (x : Cache) (hl : x.l.length ≤ 9223372036854775807) : PureC Try.prog 23 false [x.v] (· = .prop x.far (Classical.propDecidable _)) := by
  refine pureC_of_exec Try.E_ok Try.func23 rfl (by kernel_rfl) ?_
  unfold Cache.far
  (repeat' ((conv => whnf); (first | (with_reducible first | apply spl | apply spl') <;> intro hc <;> try (exfalso; omega) | with_reducible refine iJ fun hc => ?_ | refine vcq (k := ?_) | fail))); all_goals ((try conv => whnf); try with_reducible exact trivial); (repeat' ((first | (refine callee_fo (Check37 x (by omega)) rfl ?_; rintro _ rfl) | (refine pcall_intro (Check37 x (by omega)) rfl ?_) | (refine pcall_soft (fun _ => Check37 x (by omega)) rfl ?_)); (repeat' ((conv => whnf); (first | (with_reducible first | apply spl | apply spl') <;> intro hc <;> try (exfalso; omega) | with_reducible refine iJ fun hc => ?_ | refine vcq (k := ?_) | fail))); all_goals ((try conv => whnf); try with_reducible exact trivial)))
  · refine ⟨_, rfl, ?_⟩
    (repeat' ((conv => whnf); (first | (with_reducible first | apply spl | apply spl') <;> intro hc <;> try (exfalso; omega) | with_reducible refine iJ fun hc => ?_ | refine vcq (k := ?_) | fail))); all_goals ((try conv => whnf); try with_reducible exact trivial)
  · refine ⟨_, rfl, ?_⟩
    (repeat' ((conv => whnf); (first | (with_reducible first | apply spl | apply spl') <;> intro hc <;> try (exfalso; omega) | with_reducible refine iJ fun hc => ?_ | refine vcq (k := ?_) | fail))); all_goals ((try conv => whnf); try with_reducible exact trivial)
theorem Cache.valid {x : Cache} (h : ¬ x.far ∧ x.chk = 0) : x.Small := by
  unfold Cache.far at h
  obtain ⟨h1, h2⟩ := h
  refine ⟨Cache.chk_ok h2, ?_, ?_⟩
  · exact Classical.byContradiction fun g => h1 (.inr ⟨h2, .inl (by omega)⟩)
  · exact Classical.byContradiction fun g => h1 (.inr ⟨h2, .inr (by omega)⟩)
theorem IsImage33 (x : Cache) (hx : x.l.length ≤ 1000000) (l : List Int) (hl : l.length ≤ 1000000) : PureC Try.prog 33 false [x.v, .sl 1 l.length (rowOf intC 0 l)] (· = .prop (IsImg x l) (Classical.propDecidable _)) := by
  refine pureC_of_exec Try.E_ok Try.func33 rfl (by kernel_rfl) ?_
  (repeat' ((conv => whnf); (first | (with_reducible first | apply spl | apply spl') <;> intro hc <;> try (exfalso; omega) | with_reducible refine iJ fun hc => ?_ | refine vcq (k := ?_) | fail))); all_goals ((try conv => whnf); try with_reducible exact trivial)
  refine ⟨Nat, fun i => i ≤ l.length ∧ (i : Int) ≤ max x.n 0 ∧ ∀ b, b < i → okAt x b (l.getD b 0), fun i => l.length - i, fun i => [(5, .int .i64 (i : Nat))], fun _ => [], fun _ => [], 0, ⟨⟨by omega, by omega, fun b hb => by omega⟩, some [some 0], ?_⟩, ?_⟩
  · (repeat' ((conv => whnf); (first | (with_reducible first | apply spl | apply spl') <;> intro hc <;> try (exfalso; omega) | with_reducible refine iJ fun hc => ?_ | refine vcq (k := ?_) | fail))); all_goals ((try conv => whnf); try with_reducible exact trivial)
  · rintro i ⟨h1, h1', h2⟩
    have hti : (i : Int).toNat = i := Int.toNat_natCast i
    have hbad : i < l.length → ¬ okAt x i (l.getD i 0) → ¬ IsImg x l := fun hi h g => h (g.2 i hi)
    (repeat' ((conv => whnf); (first | (with_reducible first | apply spl | apply spl') <;> intro hc <;> try (exfalso; omega) | with_reducible refine iJ fun hc => ?_ | refine vcq (k := ?_) | fail))); all_goals ((try conv => whnf); try with_reducible exact trivial); (repeat' ((first | (refine callee_fo (within47 _ _ _) rfl ?_; rintro _ rfl) | (refine pcall_intro (within47 _ _ _) rfl ?_) | (refine pcall_soft (fun _ => within47 _ _ _) rfl ?_) | (refine callee_fo (puts35 _) rfl ?_; rintro _ rfl) | (refine pcall_intro (puts35 _) rfl ?_) | (refine pcall_soft (fun _ => puts35 _) rfl ?_)); (repeat' ((conv => whnf); (first | (with_reducible first | apply spl | apply spl') <;> intro hc <;> try (exfalso; omega) | with_reducible refine iJ fun hc => ?_ | refine vcq (k := ?_) | fail))); all_goals ((try conv => whnf); try with_reducible exact trivial)))
    · have hi : i < l.length := by omega
      rw [hti] at *
      refine ⟨_, rfl, ?_⟩
      (repeat' ((conv => whnf); (first | (with_reducible first | apply spl | apply spl') <;> intro hc <;> try (exfalso; omega) | with_reducible refine iJ fun hc => ?_ | refine vcq (k := ?_) | fail))); all_goals ((try conv => whnf); try with_reducible exact trivial)
      refine ⟨hbad hi (fun g => ?_), trivial⟩
      unfold okAt at g
      omega
    · have hi : i < l.length := by omega
      rw [hti] at *
      refine ⟨i + 1, ⟨⟨by omega, by omega, fun b hb => ?_⟩, by dsimp only; omega⟩, some [some 0], ?_⟩
      · rcases Nat.lt_or_eq_of_le (show b ≤ i by omega) with g | rfl
        · exact h2 b g
        · unfold okAt
          omega
      · (repeat' ((conv => whnf); (first | (with_reducible first | apply spl | apply spl') <;> intro hc <;> try (exfalso; omega) | with_reducible refine iJ fun hc => ?_ | refine vcq (k := ?_) | fail))); all_goals ((try conv => whnf); try with_reducible exact trivial)
    · have hi : i < l.length := by omega
      rw [hti] at *
      refine ⟨_, rfl, ?_⟩
      (repeat' ((conv => whnf); (first | (with_reducible first | apply spl | apply spl') <;> intro hc <;> try (exfalso; omega) | with_reducible refine iJ fun hc => ?_ | refine vcq (k := ?_) | fail))); all_goals ((try conv => whnf); try with_reducible exact trivial)
      refine ⟨hbad hi (fun g => ?_), trivial⟩
      unfold okAt at g
      omega
    · have hi : i < l.length := by omega
      rw [hti] at *
      refine ⟨i + 1, ⟨⟨by omega, by omega, fun b hb => ?_⟩, by dsimp only; omega⟩, some [some 0], ?_⟩
      · rcases Nat.lt_or_eq_of_le (show b ≤ i by omega) with g | rfl
        · exact h2 b g
        · unfold okAt
          omega
      · (repeat' ((conv => whnf); (first | (with_reducible first | apply spl | apply spl') <;> intro hc <;> try (exfalso; omega) | with_reducible refine iJ fun hc => ?_ | refine vcq (k := ?_) | fail))); all_goals ((try conv => whnf); try with_reducible exact trivial)
    · refine ⟨_, rfl, ?_⟩
      (repeat' ((conv => whnf); (first | (with_reducible first | apply spl | apply spl') <;> intro hc <;> try (exfalso; omega) | with_reducible refine iJ fun hc => ?_ | refine vcq (k := ?_) | fail))); all_goals ((try conv => whnf); try with_reducible exact trivial)
      refine ⟨⟨fun g => ⟨g, fun b hb => h2 b (by omega)⟩, fun g => g.1⟩, trivial⟩
end Go.Proofs


namespace Go.Proofs
open Go Go.Sx
set_option maxRecDepth 100000
set_option maxHeartbeats 1000000
namespace PS
theorem ep_lt {u : PS} {e b : Nat} (hb : b < 6) (h : (u.ep e).get b ≠ -3) : e < u.E.length := by
  refine Classical.byContradiction fun hn => h ?_
  unfold PS.ep
  rw [List.getD_eq_getElem?_getD, List.getElem?_eq_none (by omega)]
  exact C6.get_all hb
theorem ep_ne {u : PS} {e b : Nat} (hb : b < 6) (h : (u.ep e).get b ≠ -3) : u.ep e ≠ NO := by
  intro h2
  rw [h2] at h
  exact h (C6.get_all hb)
theorem wr_ep (u : PS) {e b : Nat} (h : (u.ep e).get b ≠ -3) (hb : b < 6) (e' : Nat) : (u.wr e b).ep e' = if e' = e then (u.ep e).set b (-3) else u.ep e' := by
  have hl := ep_lt hb h
  rw [wr_pos h]
  show (u.E.set e _).getD e' NO = _
  rw [ep_set]
  by_cases h2 : e' = e
  · rw [if_pos ⟨h2, hl⟩, if_pos h2]
  · rw [if_neg (fun g => h2 g.1), if_neg h2]; rfl
theorem wr_other (u : PS) (e b : Nat) (hb : b < 6) {e' : Nat} (h : e' ≠ e) : (u.wr e b).ep e' = u.ep e' := by
  by_cases hc : (u.ep e).get b = -3
  · rw [wr_neg hc]
  · rw [wr_ep u hc hb, if_neg h]
theorem idx_of {u : PS} {e b : Nat} (hb : b < 6) (h : (u.ep e).get b ≠ -3) (h2 : ∀ e', e' < e → u.ep e' = NO) : idxC isS u.E = e := by
  refine idxC_some (ep_lt hb h) (isS_iff.2 (ep_ne hb h)) fun j hj => ?_
  have := h2 j hj
  unfold PS.ep at this
  rw [this]
  decide
theorem can_of {u : PS} {e b : Nat} (hb : b < 6) (h : (u.ep e).get b ≠ -3) (h2 : ∀ e', e' < e → u.ep e' = NO) : u.can b := by
  unfold can
  rw [idx_of hb h h2, Int.toNat_natCast]
  exact ⟨by omega, h⟩
theorem drain_spec {u : PS} {b : Nat} (hb : b < 6) (h : u.can b) : ∃ e, (u.ep e).get b ≠ -3 ∧ (∀ e', e' < e → u.ep e' = NO) ∧ (u.drainU b).M = u.M.set b ((u.ep e).get b) ∧
    ∀ e', (u.drainU b).ep e' = if e' = e then (u.ep e).set b (-3) else u.ep e' := by
  refine ⟨(idxC isS u.E).toNat, h.2, fun e' he => ?_, ?_, fun e' => wr_ep u h.2 hb e'⟩
  · obtain ⟨pre, c, post, e, h1, h2, h3⟩ := first_at h.1
    rw [h3] at he
    have e2 : u.ep e' = pre[e'] := by unfold ep; rw [e]; simp [List.getD_eq_getElem?_getD, List.getElem?_append_left he, he]
    rw [e2, h1 _ (List.getElem_mem he)]
  · unfold drainU
    rw [wr_pos h.2]
end PS
inductive Dr : PS → PS → Prop
  | refl (u : PS) : Dr u u
  | step {u v : PS} {b : Nat} : Dr u v → b < 6 → v.can b → Dr u (v.drainU b)
theorem Dr.trans {u v w : PS} (h : Dr u v) (h2 : Dr v w) : Dr u w := by
  induction h2 with
  | refl => exact h
  | step _ hb hc ih => exact ih.step hb hc
theorem Dr.wr {u : PS} {e b : Nat} (hb : b < 6) (h2 : ∀ e', e' < e → u.ep e' = NO) : Dr u (u.wr e b) := by
  by_cases hc : (u.ep e).get b = -3
  · rw [PS.wr_neg hc]; exact .refl _
  · have h3 := Dr.step (.refl u) hb (PS.can_of hb hc h2)
    have h4 : u.drainU b = u.wr e b := by unfold PS.drainU; rw [PS.idx_of hb hc h2, Int.toNat_natCast]
    rwa [h4] at h3
theorem Dr.wrB {u : PS} {e : Nat} (h2 : ∀ e', e' < e → u.ep e' = NO) : ∀ b, b ≤ 6 → Dr u (u.wrB e b) ∧ ∀ e', e' < e → (u.wrB e b).ep e' = NO
  | 0, _ => ⟨.refl _, h2⟩
  | b + 1, hb => by
    obtain ⟨h3, h4⟩ := Dr.wrB h2 b (by omega)
    exact ⟨h3.trans (Dr.wr (by omega) h4), fun e' he => by rw [show u.wrB e (b + 1) = (u.wrB e b).wr e b from rfl, PS.wr_other _ _ _ (by omega) (by omega)]; exact h4 e' he⟩
theorem wrE_no (u : PS) (n : Nat) (hn : n ≤ u.E.length) {e : Nat} (he : e < n) : (u.wrE n).ep e = NO := by
  obtain ⟨M, E, W⟩ := u
  have h := PS.wrE_at [] n (E.take n) (by rw [List.length_take]; exact Nat.min_eq_left hn) M (E.drop n) W
  rw [List.take_append_drop] at h
  rw [h]
  unfold PS.ep
  simp [List.getD_eq_getElem?_getD, List.getElem?_append_left, he]
theorem Dr.wrE (u : PS) : ∀ n, n ≤ u.E.length → Dr u (u.wrE n)
  | 0, _ => .refl _
  | n + 1, hn => (Dr.wrE u n (by omega)).trans (Dr.wrB (fun _ he => wrE_no u n (by omega) he) 6 (by omega)).1
def PS.base (s : PS) (n : Int) (o : Int × Int) : PS :=
  if o.1 = 1 ∨ o.1 = 2 then s.put o.2.toNat n else if o.1 = 3 then ⟨s.M, s.E ++ [NO], s.W⟩ else s
theorem Dr.order (u : PS) (h : 0 < u.E.length) (n : Int) (o : Int × Int) (ho : o.1 = 2 → o.2.toNat < 6) : Dr (u.base n o) (u.orderU n o) := by
  unfold PS.base PS.orderU
  by_cases h1 : o.1 = 1
  · rw [if_pos (.inl h1), if_pos h1]; exact .refl _
  by_cases h2 : o.1 = 2
  · rw [if_pos (.inr h2), if_neg h1, if_pos h2]
    have hl := PS.put_len u o.2.toNat n
    exact (Dr.wrE _ _ (by omega)).trans (Dr.wr (ho h2) fun e he => wrE_no _ _ (by omega) he)
  rw [if_neg (by omega), if_neg h1, if_neg h2]
  by_cases h3 : o.1 = 3
  · rw [if_pos h3, if_pos h3]; exact .refl _
  rw [if_neg h3, if_neg h3]
  split
  · exact Dr.wrE _ _ (by omega)
  · exact .refl _
theorem nb_mono (x : Cache) {i j : Nat} (h : i ≤ j) : nb x i ≤ nb x j := by
  induction h with
  | refl => omega
  | step _ ih => simp only [nb]; omega
structure InvB (x : Cache) (k j : Nat) (u : PS) : Prop where
  ord : ∀ b, b < 6 → ∀ q : Nat, u.M.get b = q → ∀ e, e < nb x q → u.ep e = NO
  lt : ∀ e b, b < 6 → (u.ep e).get b ≠ -3 → u.M.get b < (u.ep e).get b
  kept : ∀ q : Nat, q < k → ∀ b, b < 6 → putQ x q b → (q : Int) ≤ u.M.get b ∨ (q : Int) ≤ (u.ep (nb x q)).get b
  fl : ∀ i : Nat, i < j → (x.l.getD i (0, 0)).1 = 4 → ∀ q : Nat, q < i → ∀ b, b < 6 → putQ x q b → (q : Int) ≤ u.M.get b
  fo : ∀ i : Nat, i < j → (x.l.getD i (0, 0)).1 = 2 → ∀ b, b < 6 → putQ x i b → (i : Int) ≤ u.M.get b
theorem InvB.drain {x : Cache} {k j : Nat} {u : PS} (hi : InvC x k u) (h : InvB x k j u) {b : Nat} (hb : b < 6) (hc : u.can b) : InvB x k j (u.drainU b) := by
  obtain ⟨e, h1, h2, h3, h4⟩ := PS.drain_spec hb hc
  obtain ⟨q0, hq0, hv, hp, hn⟩ := (hi.cell e b hb).resolve_left h1
  have hlt := h.lt e b hb h1
  have hle : ∀ b', b' < 6 → u.M.get b' ≤ (u.drainU b).M.get b' := by
    intro b' hb'
    rw [h3, C6.get_set hb hb']
    split
    · rename_i g; subst g; omega
    · exact Int.le_refl _
  refine ⟨fun b' hb' q hq e' he' => ?_, fun e' b' hb' hne => ?_, fun q hq b' hb' hpq => ?_, fun i h5 h6 q hq b' hb' hpq => Int.le_trans (h.fl i h5 h6 q hq b' hb' hpq) (hle b' hb'), fun i h5 h6 b' hb' hpq => Int.le_trans (h.fo i h5 h6 b' hb' hpq) (hle b' hb')⟩
  · rw [h3, C6.get_set hb hb'] at hq
    rw [h4]
    by_cases hbb : b' = b
    · rw [if_pos hbb, hv] at hq
      have : q = q0 := by omega
      subst this
      rw [if_neg (by omega)]
      exact h2 e' (by omega)
    · rw [if_neg hbb] at hq
      have h5 := h.ord b' hb' q hq
      have h6 : ¬ e < nb x q := fun g => PS.ep_ne hb h1 (h5 e g)
      rw [if_neg (by omega)]
      exact h5 e' he'
  · rw [h4] at hne ⊢
    rw [h3, C6.get_set hb hb']
    by_cases he : e' = e
    · subst he
      rw [if_pos rfl, C6.get_set hb hb'] at hne ⊢
      by_cases hbb : b' = b
      · rw [if_pos hbb] at hne; exact absurd rfl hne
      · rw [if_neg hbb] at hne
        rw [if_neg hbb, if_neg hbb]
        exact h.lt e' b' hb' hne
    · rw [if_neg he] at hne ⊢
      by_cases hbb : b' = b
      · subst hbb
        rw [if_pos rfl]
        obtain ⟨q', hq', hv', _, hn'⟩ := (hi.cell e' b' hb').resolve_left hne
        have h6 : ¬ e' < e := fun g => PS.ep_ne hb' hne (h2 e' g)
        have h7 : ¬ q' ≤ q0 := fun g => by have := nb_mono x g; omega
        omega
      · rw [if_neg hbb]
        exact h.lt e' b' hb' hne
  · rcases h.kept q hq b' hb' hpq with g | g
    · exact .inl (Int.le_trans g (hle b' hb'))
    · by_cases hbb : nb x q = e ∧ b' = b
      · obtain ⟨g1, g2⟩ := hbb
        subst g2
        left
        rw [h3, C6.get_set hb hb', if_pos rfl]
        rw [g1] at g
        exact g
      · right
        rw [h4]
        split
        · rename_i g1
          rw [C6.get_set hb hb', if_neg (fun g2 => hbb ⟨g1, g2⟩)]
          rw [g1] at g
          exact g
        · exact g
theorem InvB.drS {x : Cache} {k j : Nat} {u v : PS} (h : Dr u v) (hi : InvC x k u) (hb : InvB x k j u) : InvC x k v ∧ InvB x k j v := by
  induction h with
  | refl => exact ⟨hi, hb⟩
  | step _ hb6 hc ih => exact ⟨ih.1.wr _ _ hb6, InvB.drain ih.1 ih.2 hb6 hc⟩
theorem InvB.base {x : Cache} (hx : x.Ok) {k : Nat} {u : PS} (hk : k < x.l.length) (hl : u.E.length = nb x k + 1) (hi : InvC x k u) (h : InvB x k k u) :
    InvC x (k + 1) (u.base k (x.l.getD k (0, 0))) ∧ InvB x (k + 1) k (u.base k (x.l.getD k (0, 0))) := by
  have hblk := hx.blk hk
  unfold PS.base
  split
  · rename_i hkd
    obtain ⟨hb0, hb1⟩ := hblk hkd
    have hput : putQ x k (x.l.getD k (0, 0)).2.toNat := ⟨hkd, by omega⟩
    have hu : ∀ b', putQ x k b' → b' = (x.l.getD k (0, 0)).2.toNat := fun b' g => by have := g.2; omega
    have hb : (x.l.getD k (0, 0)).2.toNat < 6 := by omega
    generalize (x.l.getD k (0, 0)).2.toNat = b at *
    have hep : ∀ e', (u.put b k).ep e' = if e' = nb x k then (u.ep (nb x k)).set b k else u.ep e' := by
      intro e'
      show (u.E.set (u.E.length - 1) ((u.E.getD (u.E.length - 1) NO).set b k)).getD e' NO = _
      rw [ep_set, show u.E.length - 1 = nb x k by omega]
      by_cases g : e' = nb x k
      · rw [if_pos ⟨g, by omega⟩, if_pos g]; rfl
      · rw [if_neg (fun g2 => g g2.1), if_neg g]; rfl
    refine ⟨hi.put hl hb hput, fun b' hb' q hq e he => ?_, fun e' b' hb' hne => ?_, fun q hq b' hb' hpq => ?_, h.fl, h.fo⟩
    · have hq : u.M.get b' = q := hq
      have hqk : q < k := by rcases hi.med b' hb' with g | ⟨q', g1, g2, _⟩ <;> omega
      have := nb_mono x (show q ≤ k by omega)
      rw [hep, if_neg (by omega)]
      exact h.ord b' hb' q hq e he
    · show u.M.get b' < _
      rw [hep] at hne ⊢
      split at hne
      · rename_i g
        rw [if_pos g]
        rw [C6.get_set hb hb'] at hne ⊢
        split at hne
        · rename_i g2
          rw [if_pos g2]
          rcases hi.med b' hb' with g | ⟨q', g1, g2, _⟩ <;> omega
        · rename_i g2
          rw [if_neg g2]
          exact h.lt _ b' hb' hne
      · rename_i g
        rw [if_neg g]
        exact h.lt _ b' hb' hne
    · rcases Nat.lt_or_eq_of_le (show q ≤ k by omega) with g | rfl
      · rcases h.kept q g b' hb' hpq with g2 | g2
        · exact .inl g2
        · right
          rw [hep]
          split
          · rename_i g3
            rw [C6.get_set hb hb']
            rw [g3] at g2
            split
            · omega
            · exact g2
          · exact g2
      · right
        rw [hep, if_pos rfl, C6.get_set hb hb', if_pos (hu b' hpq)]
        omega
  · rename_i hkd
    have hnp : ∀ b, ¬ putQ x k b := fun b g => hkd g.1
    have key : InvC x (k + 1) u ∧ InvB x (k + 1) k u := by
      refine ⟨hi.mono (Nat.le_succ k), h.ord, h.lt, fun q hq b hb hpq => ?_, h.fl, h.fo⟩
      rcases Nat.lt_or_eq_of_le (show q ≤ k by omega) with g | rfl
      · exact h.kept q g b hb hpq
      · exact absurd hpq (hnp b)
    split
    · have he : ∀ e, (⟨u.M, u.E ++ [NO], u.W⟩ : PS).ep e = u.ep e := by
        intro e
        show (u.E ++ [NO]).getD e NO = u.E.getD e NO
        rcases Nat.lt_or_ge e u.E.length with g | g
        · simp only [List.getD_eq_getElem?_getD, List.getElem?_append_left g]
        · simp only [List.getD_eq_getElem?_getD, List.getElem?_append_right g, List.getElem?_eq_none g]
          cases e - u.E.length <;> simp
      obtain ⟨a1, a2⟩ := key
      refine ⟨⟨fun e b hb => by rw [he]; exact a1.cell e b hb, a1.med⟩, fun b hb q hq e he' => by rw [he]; exact a2.ord b hb q hq e he', fun e b hb hne => by rw [he] at hne ⊢; exact a2.lt e b hb hne, fun q hq b hb hpq => by rw [he]; exact a2.kept q hq b hb hpq, a2.fl, a2.fo⟩
    · exact key
theorem order4_no (u : PS) (n : Int) (o : Int × Int) (h : o.1 = 4) (e : Nat) : (u.orderU n o).ep e = NO := by
  unfold PS.orderU
  rw [if_neg (by omega), if_neg (by omega), if_neg (by omega), if_pos h]
  by_cases he : e < u.E.length
  · exact wrE_no u _ (Nat.le_refl _) he
  · have hl := PS.wrE_len u u.E.length
    unfold PS.ep
    rw [List.getD_eq_getElem?_getD, List.getElem?_eq_none (by omega)]
    rfl
theorem order2_M (u : PS) (hl : 0 < u.E.length) (n : Int) (hn : 0 ≤ n) (o : Int × Int) (h : o.1 = 2) (hb : o.2.toNat < 6) : (u.orderU n o).M.get o.2.toNat = n := by
  unfold PS.orderU
  rw [if_neg (by omega), if_pos h]
  obtain ⟨M, E, W⟩ := u
  obtain ⟨l, z, rfl⟩ := PS.split_last E hl
  dsimp only
  rw [show (l ++ [z]).length - 1 = l.length by simp, PS.put_at, PS.force_at]
  have e : (z.set o.2.toNat n).get o.2.toNat = n := by rw [C6.get_set hb hb, if_pos rfl]
  rw [e, if_neg (by omega)]
  show ((apM M l).set _ _).get _ = _
  rw [C6.get_set hb hb, if_pos rfl]
theorem RchU.invB {x : Cache} (hx : x.Ok) {k : Nat} {u : PS} {D : List (Int × Int)} (h : RchU x k u D) : InvB x k k u := by
  induction h with
  | begin =>
    have he : ∀ e, PS.begin.ep e = NO := fun e => by
      cases e with
      | zero => rfl
      | succ e => rfl
    refine ⟨fun b hb q hq => ?_, fun e b hb hne => ?_, fun q hq => absurd hq (by omega), fun q hq => absurd hq (by omega), fun q hq => absurd hq (by omega)⟩
    · have : PS.begin.M.get b = -1 := C6.get_all hb
      omega
    · rw [he] at hne
      exact absurd (C6.get_all hb) hne
  | @drain k u D b hr hb hcan ih =>
    exact ih.drain (hr.inv hx).inv (by have := hx.n; omega) hcan
  | @order k u D hr hk ih =>
    have hI := hr.inv hx
    have hl : 0 < u.E.length := by rw [hI.len]; omega
    have hblk := hx.blk hk
    obtain ⟨b1, b2⟩ := InvB.base hx hk hI.len hI.inv ih
    obtain ⟨c1, c2⟩ := InvB.drS (Dr.order u hl k (x.l.getD k (0, 0)) (fun g => by have := hblk (.inr g); omega)) b1 b2
    refine ⟨c2.ord, c2.lt, c2.kept, fun i hi h4 q hq b hb hp => ?_, fun i hi h4 b hb hp => ?_⟩
    · rcases Nat.lt_or_eq_of_le (show i ≤ k by omega) with g | rfl
      · exact c2.fl i g h4 q hq b hb hp
      · refine (c2.kept q (by omega) b hb hp).resolve_right fun g => ?_
        rw [order4_no u _ _ h4, C6.get_all hb] at g
        omega
    · rcases Nat.lt_or_eq_of_le (show i ≤ k by omega) with g | rfl
      · exact c2.fo i g h4 b hb hp
      · have h5 := hblk (.inr h4)
        have h6 := order2_M u hl i (by omega) (x.l.getD i (0, 0)) h4 (by omega)
        have : b = (x.l.getD i (0, 0)).2.toNat := by have := hp.2; omega
        subst this
        rw [h6]
        exact Int.le_refl _
theorem RchU.barrier {x : Cache} (hx : x.Ok) {k : Nat} {u : PS} {D : List (Int × Int)} (h : RchU x k u D) {i : Nat} (hi : i < k)
    (hb : (x.l.getD i (0, 0)).1 = 3 ∧ (∃ b, b < 6 ∧ (i : Int) < u.M.get b) ∨ (x.l.getD i (0, 0)).1 = 4) {q : Nat} (hq : q < i) {b : Nat} (hb6 : b < 6) (hp : putQ x q b) : (q : Int) ≤ u.M.get b := by
  have hB := h.invB hx
  rcases hb with ⟨h3, b0, h4, h5⟩ | h4
  · refine (hB.kept q (by omega) b hb6 hp).resolve_right fun g => ?_
    rcases (h.inv hx).inv.med b0 h4 with h6 | ⟨q0, _, h6, _⟩
    · omega
    · have h7 := nb_mono x (show i + 1 ≤ q0 by omega)
      have h8 := nb_mono x (show q ≤ i by omega)
      have h9 : nb x (i + 1) = nb x i + 1 := by simp only [nb]; rw [if_pos h3]
      have := hB.ord b0 h4 q0 h6 (nb x q) (by omega)
      rw [this, C6.get_all hb6] at g
      omega
  · exact hB.fl i hi h4 q hq b hb6 hp
end Go.Proofs


namespace Go.Proofs
open Go Go.Sx
set_option maxRecDepth 100000
set_option maxHeartbeats 4000000
end Go.Proofs


namespace Go.Proofs
open Go Go.Sx
set_option maxRecDepth 100000
set_option maxHeartbeats 4000000
end Go.Proofs


namespace Go.Proofs
open Go Go.Sx
set_option maxRecDepth 100000
set_option maxHeartbeats 4000000
theorem clone54 (s : PS) (hs : s.Sm) (n : Nat) (hn : 1 ≤ n ∧ n ≤ 6) : Sx.Callee Try.prog 54 [.x (.awin 0 0 1 n 6)] (stH s) (fun v H => v = .osl 2 n ∧ H = stH s ++ [.row 3 1 n (fun b => [.int .i64 (s.M.get b)]) false]) := by
  have h1 := hs.ne
  refine callee_ent Try.E_ok Try.func54 rfl (by kernel_rfl) ?_
  (repeat' ((conv => whnf); (first | (with_reducible first | apply spl | apply spl') <;> intro hc <;> try (exfalso; omega) | with_reducible refine iJ fun hc => ?_ | refine vcq (k := ?_) | fail))); all_goals ((try conv => whnf); try with_reducible exact trivial)
  refine ⟨_, _, ⟨rfl, rfl⟩, some [some 0, some 1, some 3], ?_⟩
  (repeat' ((conv => whnf); (first | (with_reducible first | apply spl | apply spl') <;> intro hc <;> try (exfalso; omega) | with_reducible refine iJ fun hc => ?_ | refine vcq (k := ?_) | fail))); all_goals ((try conv => whnf); try with_reducible exact trivial)
  refine ⟨fun i hi => ?_, trivial⟩
  have hi6 : i < 6 := by omega
  rcases six hi6 with rfl | rfl | rfl | rfl | rfl | rfl <;> rfl
def PS.from (l : List (Int × Int)) (s : PS) (i : Nat) : Nat → PS
  | 0 => s
  | m + 1 => (PS.from l s i m).order (i + m : Nat) (l.getD (i + m) (0, 0))
def PS.playD (x : Cache) (D : List (Int × Int)) : Nat → Option (PS × Nat)
  | 0 => some (PS.begin, 0)
  | j + 1 => match PS.playD x D j with
    | none => none
    | some (s, k) => if ((k : Int) ≤ (D.getD j (0, 0)).1 ∧ (D.getD j (0, 0)).1 ≤ x.l.length) ∧ (0 ≤ (D.getD j (0, 0)).2 ∧ (D.getD j (0, 0)).2 ≤ x.n - 1) ∧
        (PS.from x.l s k ((D.getD j (0, 0)).1.toNat - k)).can (D.getD j (0, 0)).2.toNat then some ((PS.from x.l s k ((D.getD j (0, 0)).1.toNat - k)).drain (D.getD j (0, 0)).2.toNat, (D.getD j (0, 0)).1.toNat) else none
end Go.Proofs

