/- Own work: a text of the proof of a law (ArmC5). -/
import Derived.Test.YtghddmaihcjmlaaArmC4
namespace Go.Proofs
open Go Go.Sx
set_option maxRecDepth 100000

/-- the states with one position, by speed, up to a speed -/
def Arm.rowTo (a : Arm) (i j : Nat) : List (Int × Int) := (List.range j).map fun (k : Nat) => ((i : Int), -a.S + (k : Int))
/-- the states before a position -/
def Arm.spotsTo (a : Arm) (i : Nat) : List (Int × Int) := (List.range i).flatMap fun (k : Nat) => a.rowTo k (2 * a.S + 1).toNat
/-- all states -/
def Arm.spots (a : Arm) : List (Int × Int) := a.spotsTo (a.L + 1).toNat
/-- those of some states that are in a set -/
noncomputable def sel (D : Int → Int → Prop) (l : List (Int × Int)) : List (Int × Int) := l.filter fun s => @decide (D s.1 s.2) (Classical.propDecidable _)

theorem sel_append (D : Int → Int → Prop) (l m : List (Int × Int)) : sel D (l ++ m) = sel D l ++ sel D m := List.filter_append ..
theorem sel_yes {D : Int → Int → Prop} {x v : Int} (h : D x v) : sel D [(x, v)] = [(x, v)] := by simp [sel, h]
theorem sel_no {D : Int → Int → Prop} {x v : Int} (h : ¬ D x v) : sel D [(x, v)] = [] := by simp [sel, h]
theorem sel_le (D : Int → Int → Prop) (l : List (Int × Int)) : (sel D l).length ≤ l.length := List.length_filter_le ..
theorem mem_sel {D : Int → Int → Prop} {l : List (Int × Int)} {s : Int × Int} : s ∈ sel D l ↔ s ∈ l ∧ D s.1 s.2 := by simp [sel]

theorem Arm.rowTo_succ (a : Arm) (i j : Nat) : a.rowTo i (j + 1) = a.rowTo i j ++ [((i : Int), -a.S + (j : Int))] := by simp [Arm.rowTo, List.range_succ]
theorem Arm.spotsTo_succ (a : Arm) (i : Nat) : a.spotsTo (i + 1) = a.spotsTo i ++ a.rowTo i (2 * a.S + 1).toNat := by simp [Arm.spotsTo, List.range_succ]
theorem Arm.rowTo_length (a : Arm) (i j : Nat) : (a.rowTo i j).length = j := by simp [Arm.rowTo]
theorem Arm.spotsTo_length (a : Arm) : ∀ (i : Nat), (a.spotsTo i).length = i * (2 * a.S + 1).toNat
  | 0 => by simp [Arm.spotsTo]
  | i + 1 => by rw [a.spotsTo_succ, List.length_append, a.spotsTo_length i, a.rowTo_length, Nat.add_mul]; omega
theorem Arm.mem_spots (a : Arm) (ha : a.Ok) (x v : Int) : (x, v) ∈ a.spots ↔ a.Has x v := by
  have hL := ha.L
  have hS := ha.S
  simp only [Arm.spots, Arm.spotsTo, Arm.rowTo, List.mem_flatMap, List.mem_map, List.mem_range, Prod.mk.injEq, Arm.Has]
  constructor
  · rintro ⟨i, hi, j, hj, rfl, rfl⟩
    omega
  · intro h
    exact ⟨x.toNat, by omega, (v + a.S).toNat, by omega, by omega, by omega⟩

def spotCs (s : Int × Int) : List V := spotC s.1 s.2

theorem sorted38 (a : Arm) (ha : a.Ok) (D : Int → Int → Prop) (val : List Int → Int) (n : Nat) : PureC Try.prog 38 false [a.v, .imap [.i64, .i64] true false (onK D) (fun k => [.int .i64 (val k)]) n]
    (· = .sl 2 (sel D a.spots).length (rowOf spotCs (0, 0) (sel D a.spots))) := by
  have hL := ha.L
  have hS := ha.S
  refine pureC_of_exec Try.E_ok Try.func38 rfl (by kernel_rfl) ?_
  (repeat' ((conv => whnf); (first | ((with_reducible refine spl (fun hc => ?_) (fun hc => ?_)) <;> (try (exfalso; omega))) | ((with_reducible refine spl' (fun hc => ?_) (fun hc => ?_)) <;> (try (exfalso; omega))) | (with_reducible refine imp_intro (fun hc => ?_)) | refine vc (k := ?_) | refine dr 1 (k := ?_) | refine dr 2 (k := ?_) | refine dr 3 (k := ?_) | refine dr 4 (k := ?_) | refine dr 5 (k := ?_) | refine dr 6 (k := ?_) | refine dr 7 (k := ?_) | refine dr 8 (k := ?_) | refine dr 9 (k := ?_) | refine dr 10 (k := ?_) | refine dr 11 (k := ?_) | refine dr 12 (k := ?_) | fail))); (all_goals (try (conv => whnf))); (all_goals (try exact trivial))
  refine callee_exec Try.E_ok Try.func57 rfl (by kernel_rfl) ?_
  (repeat' ((conv => whnf); (first | ((with_reducible refine spl (fun hc => ?_) (fun hc => ?_)) <;> (try (exfalso; omega))) | ((with_reducible refine spl' (fun hc => ?_) (fun hc => ?_)) <;> (try (exfalso; omega))) | (with_reducible refine imp_intro (fun hc => ?_)) | refine vc (k := ?_) | refine dr 1 (k := ?_) | refine dr 2 (k := ?_) | refine dr 3 (k := ?_) | refine dr 4 (k := ?_) | refine dr 5 (k := ?_) | refine dr 6 (k := ?_) | refine dr 7 (k := ?_) | refine dr 8 (k := ?_) | refine dr 9 (k := ?_) | refine dr 10 (k := ?_) | refine dr 11 (k := ?_) | refine dr 12 (k := ?_) | fail))); (all_goals (try (conv => whnf))); (all_goals (try exact trivial))
  refine ⟨Nat × List (Int × Int), fun i => (i.1 : Int) ≤ a.L + 1 ∧ i.2 = sel D (a.spotsTo i.1), fun i => (a.L + 1 - i.1).toNat, fun i => [(10, .int .i64 i.1)], fun i => [(2, .cells 39 [.osl 5 i.2.length])], fun i => [.row 25 2 i.2.length (rowOf spotCs (0, 0) i.2) true], (0, []), ⟨⟨by dsimp only; omega, rfl⟩, some [some 0, some 1, some 2, some 3, some 4, none], ?_⟩, ?_⟩
  · (repeat' ((conv => whnf); (first | ((with_reducible refine spl (fun hc => ?_) (fun hc => ?_)) <;> (try (exfalso; omega))) | ((with_reducible refine spl' (fun hc => ?_) (fun hc => ?_)) <;> (try (exfalso; omega))) | (with_reducible refine imp_intro (fun hc => ?_)) | refine vc (k := ?_) | refine dr 1 (k := ?_) | refine dr 2 (k := ?_) | refine dr 3 (k := ?_) | refine dr 4 (k := ?_) | refine dr 5 (k := ?_) | refine dr 6 (k := ?_) | refine dr 7 (k := ?_) | refine dr 8 (k := ?_) | refine dr 9 (k := ?_) | refine dr 10 (k := ?_) | refine dr 11 (k := ?_) | refine dr 12 (k := ?_) | fail))); (all_goals (try (conv => whnf))); (all_goals (try exact trivial))
  · rintro ⟨i, l⟩ ⟨hi, hl⟩
    dsimp only at hi hl
    (repeat' ((conv => whnf); (first | ((with_reducible refine spl (fun hc => ?_) (fun hc => ?_)) <;> (try (exfalso; omega))) | ((with_reducible refine spl' (fun hc => ?_) (fun hc => ?_)) <;> (try (exfalso; omega))) | (with_reducible refine imp_intro (fun hc => ?_)) | refine vc (k := ?_) | refine dr 1 (k := ?_) | refine dr 2 (k := ?_) | refine dr 3 (k := ?_) | refine dr 4 (k := ?_) | refine dr 5 (k := ?_) | refine dr 6 (k := ?_) | refine dr 7 (k := ?_) | refine dr 8 (k := ?_) | refine dr 9 (k := ?_) | refine dr 10 (k := ?_) | refine dr 11 (k := ?_) | refine dr 12 (k := ?_) | fail))); (all_goals (try (conv => whnf))); (all_goals (try exact trivial))
    · have hlen := a.spotsTo_length i
      have hlen2 : i * (2 * a.S + 1).toNat ≤ 41 * 17 := Nat.mul_le_mul (by omega) (by omega)
      refine ⟨Nat × List (Int × Int), fun j => (j.1 : Int) ≤ 2 * a.S + 1 ∧ j.2 = sel D (a.spotsTo i ++ a.rowTo i j.1), fun j => (2 * a.S + 1 - j.1).toNat, fun j => [(5, .int .i64 (-a.S + j.1))], fun j => [(2, .cells 39 [.osl 5 j.2.length]), (5, .row 25 2 j.2.length (rowOf spotCs (0, 0) j.2) true)], fun _ => [], (0, l), ⟨⟨by dsimp only; omega, by simp [Arm.rowTo, hl]⟩, some [some 0, some 1, some 2, some 3, some 4, some 5], ?_⟩, ?_⟩
      · (repeat' ((conv => whnf); (first | ((with_reducible refine spl (fun hc => ?_) (fun hc => ?_)) <;> (try (exfalso; omega))) | ((with_reducible refine spl' (fun hc => ?_) (fun hc => ?_)) <;> (try (exfalso; omega))) | (with_reducible refine imp_intro (fun hc => ?_)) | refine vc (k := ?_) | refine dr 1 (k := ?_) | refine dr 2 (k := ?_) | refine dr 3 (k := ?_) | refine dr 4 (k := ?_) | refine dr 5 (k := ?_) | refine dr 6 (k := ?_) | refine dr 7 (k := ?_) | refine dr 8 (k := ?_) | refine dr 9 (k := ?_) | refine dr 10 (k := ?_) | refine dr 11 (k := ?_) | refine dr 12 (k := ?_) | fail))); (all_goals (try (conv => whnf))); (all_goals (try exact trivial))
      · rintro ⟨j, l⟩ ⟨hj, hl⟩
        dsimp only at hj hl
        (repeat' ((conv => whnf); (first | ((with_reducible refine spl (fun hc => ?_) (fun hc => ?_)) <;> (try (exfalso; omega))) | ((with_reducible refine spl' (fun hc => ?_) (fun hc => ?_)) <;> (try (exfalso; omega))) | (with_reducible refine imp_intro (fun hc => ?_)) | refine vc (k := ?_) | refine dr 1 (k := ?_) | refine dr 2 (k := ?_) | refine dr 3 (k := ?_) | refine dr 4 (k := ?_) | refine dr 5 (k := ?_) | refine dr 6 (k := ?_) | refine dr 7 (k := ?_) | refine dr 8 (k := ?_) | refine dr 9 (k := ?_) | refine dr 10 (k := ?_) | refine dr 11 (k := ?_) | refine dr 12 (k := ?_) | fail))); (all_goals (try (conv => whnf))); (all_goals (try exact trivial))
        · have hb : l.length ≤ 10000 := by
            have := sel_le D (a.spotsTo i ++ a.rowTo i j)
            rw [List.length_append, a.rowTo_length, ← hl] at this
            omega
          refine ycall_exec Try.E_ok rfl rfl rfl ?_
          (repeat' ((conv => whnf); (first | ((with_reducible refine spl (fun hc => ?_) (fun hc => ?_)) <;> (try (exfalso; omega))) | ((with_reducible refine spl' (fun hc => ?_) (fun hc => ?_)) <;> (try (exfalso; omega))) | (with_reducible refine imp_intro (fun hc => ?_)) | refine vc (k := ?_) | refine dr 1 (k := ?_) | refine dr 2 (k := ?_) | refine dr 3 (k := ?_) | refine dr 4 (k := ?_) | refine dr 5 (k := ?_) | refine dr 6 (k := ?_) | refine dr 7 (k := ?_) | refine dr 8 (k := ?_) | refine dr 9 (k := ?_) | refine dr 10 (k := ?_) | refine dr 11 (k := ?_) | refine dr 12 (k := ?_) | fail))); (all_goals (try (conv => whnf))); (all_goals (try exact trivial)); (repeat' ((first | (refine callee_fo (setHas52 (onK D) val n _ _) rfl ?_; rintro _ rfl) | (refine pcall_intro (setHas52 (onK D) val n _ _) rfl ?_) | (refine pcall_soft (fun _ => setHas52 (onK D) val n _ _) rfl ?_)); (repeat' ((conv => whnf); (first | ((with_reducible refine spl (fun hc => ?_) (fun hc => ?_)) <;> (try (exfalso; omega))) | ((with_reducible refine spl' (fun hc => ?_) (fun hc => ?_)) <;> (try (exfalso; omega))) | (with_reducible refine imp_intro (fun hc => ?_)) | refine vc (k := ?_) | refine dr 1 (k := ?_) | refine dr 2 (k := ?_) | refine dr 3 (k := ?_) | refine dr 4 (k := ?_) | refine dr 5 (k := ?_) | refine dr 6 (k := ?_) | refine dr 7 (k := ?_) | refine dr 8 (k := ?_) | refine dr 9 (k := ?_) | refine dr 10 (k := ?_) | refine dr 11 (k := ?_) | refine dr 12 (k := ?_) | fail))); (all_goals (try (conv => whnf))); (all_goals (try exact trivial)))); (all_goals (try (refine ⟨_, rfl, ?_⟩; (repeat' ((conv => whnf); (first | ((with_reducible refine spl (fun hc => ?_) (fun hc => ?_)) <;> (try (exfalso; omega))) | ((with_reducible refine spl' (fun hc => ?_) (fun hc => ?_)) <;> (try (exfalso; omega))) | (with_reducible refine imp_intro (fun hc => ?_)) | refine vc (k := ?_) | refine dr 1 (k := ?_) | refine dr 2 (k := ?_) | refine dr 3 (k := ?_) | refine dr 4 (k := ?_) | refine dr 5 (k := ?_) | refine dr 6 (k := ?_) | refine dr 7 (k := ?_) | refine dr 8 (k := ?_) | refine dr 9 (k := ?_) | refine dr 10 (k := ?_) | refine dr 11 (k := ?_) | refine dr 12 (k := ?_) | fail))); (all_goals (try (conv => whnf))); (all_goals (try exact trivial)))))
          · have hD : D i (-a.S + j) := hc
            refine ⟨(j + 1, l ++ [((i : Int), -a.S + (j : Int))]), ⟨⟨by dsimp only; omega, ?_⟩, by dsimp only; omega⟩, some [some 0, some 1, some 2, some 3, some 4, some 8], ?_⟩
            · dsimp only
              rw [a.rowTo_succ, ← List.append_assoc, sel_append, ← hl, sel_yes hD]
            · (repeat' ((conv => whnf); (first | ((with_reducible refine spl (fun hc => ?_) (fun hc => ?_)) <;> (try (exfalso; omega))) | ((with_reducible refine spl' (fun hc => ?_) (fun hc => ?_)) <;> (try (exfalso; omega))) | (with_reducible refine imp_intro (fun hc => ?_)) | refine vc (k := ?_) | refine dr 1 (k := ?_) | refine dr 2 (k := ?_) | refine dr 3 (k := ?_) | refine dr 4 (k := ?_) | refine dr 5 (k := ?_) | refine dr 6 (k := ?_) | refine dr 7 (k := ?_) | refine dr 8 (k := ?_) | refine dr 9 (k := ?_) | refine dr 10 (k := ?_) | refine dr 11 (k := ?_) | refine dr 12 (k := ?_) | fail))); (all_goals (try (conv => whnf))); (all_goals (try exact trivial))
              refine ⟨by simp, ?_⟩
              (repeat' ((conv => whnf); (first | ((with_reducible refine spl (fun hc => ?_) (fun hc => ?_)) <;> (try (exfalso; omega))) | ((with_reducible refine spl' (fun hc => ?_) (fun hc => ?_)) <;> (try (exfalso; omega))) | (with_reducible refine imp_intro (fun hc => ?_)) | refine vc (k := ?_) | refine dr 1 (k := ?_) | refine dr 2 (k := ?_) | refine dr 3 (k := ?_) | refine dr 4 (k := ?_) | refine dr 5 (k := ?_) | refine dr 6 (k := ?_) | refine dr 7 (k := ?_) | refine dr 8 (k := ?_) | refine dr 9 (k := ?_) | refine dr 10 (k := ?_) | refine dr 11 (k := ?_) | refine dr 12 (k := ?_) | fail))); (all_goals (try (conv => whnf))); (all_goals (try exact trivial))
              refine ⟨by simp, rowOf_snoc (c := spotCs) (a := ((i : Int), -a.S + (j : Int))) rfl (fun _ _ => rfl), ?_⟩
              (repeat' ((conv => whnf); (first | ((with_reducible refine spl (fun hc => ?_) (fun hc => ?_)) <;> (try (exfalso; omega))) | ((with_reducible refine spl' (fun hc => ?_) (fun hc => ?_)) <;> (try (exfalso; omega))) | (with_reducible refine imp_intro (fun hc => ?_)) | refine vc (k := ?_) | refine dr 1 (k := ?_) | refine dr 2 (k := ?_) | refine dr 3 (k := ?_) | refine dr 4 (k := ?_) | refine dr 5 (k := ?_) | refine dr 6 (k := ?_) | refine dr 7 (k := ?_) | refine dr 8 (k := ?_) | refine dr 9 (k := ?_) | refine dr 10 (k := ?_) | refine dr 11 (k := ?_) | refine dr 12 (k := ?_) | fail))); (all_goals (try (conv => whnf))); (all_goals (try exact trivial))
          · have hD : ¬ D i (-a.S + j) := hc
            refine ⟨(j + 1, l), ⟨⟨by dsimp only; omega, ?_⟩, by dsimp only; omega⟩, some [some 0, some 1, some 2, some 3, some 4, some 5], ?_⟩
            · dsimp only
              rw [a.rowTo_succ, ← List.append_assoc, sel_append, ← hl, sel_no hD, List.append_nil]
            · (repeat' ((conv => whnf); (first | ((with_reducible refine spl (fun hc => ?_) (fun hc => ?_)) <;> (try (exfalso; omega))) | ((with_reducible refine spl' (fun hc => ?_) (fun hc => ?_)) <;> (try (exfalso; omega))) | (with_reducible refine imp_intro (fun hc => ?_)) | refine vc (k := ?_) | refine dr 1 (k := ?_) | refine dr 2 (k := ?_) | refine dr 3 (k := ?_) | refine dr 4 (k := ?_) | refine dr 5 (k := ?_) | refine dr 6 (k := ?_) | refine dr 7 (k := ?_) | refine dr 8 (k := ?_) | refine dr 9 (k := ?_) | refine dr 10 (k := ?_) | refine dr 11 (k := ?_) | refine dr 12 (k := ?_) | fail))); (all_goals (try (conv => whnf))); (all_goals (try exact trivial))
        · refine ⟨(i + 1, l), ⟨⟨by dsimp only; omega, ?_⟩, by dsimp only; omega⟩, some [some 0, some 1, some 2, some 3, some 4, some 5], ?_⟩
          · obtain rfl : j = (2 * a.S + 1).toNat := by omega
            rw [hl, a.spotsTo_succ]
          · (repeat' ((conv => whnf); (first | ((with_reducible refine spl (fun hc => ?_) (fun hc => ?_)) <;> (try (exfalso; omega))) | ((with_reducible refine spl' (fun hc => ?_) (fun hc => ?_)) <;> (try (exfalso; omega))) | (with_reducible refine imp_intro (fun hc => ?_)) | refine vc (k := ?_) | refine dr 1 (k := ?_) | refine dr 2 (k := ?_) | refine dr 3 (k := ?_) | refine dr 4 (k := ?_) | refine dr 5 (k := ?_) | refine dr 6 (k := ?_) | refine dr 7 (k := ?_) | refine dr 8 (k := ?_) | refine dr 9 (k := ?_) | refine dr 10 (k := ?_) | refine dr 11 (k := ?_) | refine dr 12 (k := ?_) | fail))); (all_goals (try (conv => whnf))); (all_goals (try exact trivial))
    · obtain rfl : i = (a.L + 1).toNat := by omega
      subst hl
      refine ⟨_, rfl, ?_⟩
      (repeat' ((conv => whnf); (first | ((with_reducible refine spl (fun hc => ?_) (fun hc => ?_)) <;> (try (exfalso; omega))) | ((with_reducible refine spl' (fun hc => ?_) (fun hc => ?_)) <;> (try (exfalso; omega))) | (with_reducible refine imp_intro (fun hc => ?_)) | refine vc (k := ?_) | refine dr 1 (k := ?_) | refine dr 2 (k := ?_) | refine dr 3 (k := ?_) | refine dr 4 (k := ?_) | refine dr 5 (k := ?_) | refine dr 6 (k := ?_) | refine dr 7 (k := ?_) | refine dr 8 (k := ?_) | refine dr 9 (k := ?_) | refine dr 10 (k := ?_) | refine dr 11 (k := ?_) | refine dr 12 (k := ?_) | fail))); (all_goals (try (conv => whnf))); (all_goals (try exact trivial))
end Go.Proofs
