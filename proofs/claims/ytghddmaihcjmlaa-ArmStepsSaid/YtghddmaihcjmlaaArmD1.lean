/- Own work: a text of the proof of a law (ArmD1). -/
import Derived.Test.YtghddmaihcjmlaaArmW
namespace Go.Proofs
open Go Go.Sx
set_option maxRecDepth 100000

theorem check20_ok {a : Arm} (ha : a.Ok) : PureC Try.prog 20 false [a.v] (· = .int .i64 0) := by have := check20 a; rwa [if_pos ha] at this
theorem check20_bad {a : Arm} (ha : ¬ a.Ok) : PureC Try.prog 20 false [a.v] (· = .int .i64 60) := by have := check20 a; rwa [if_neg ha] at this

/-- larger than a statement looks at -/
def Arm.Far (a : Arm) : Prop := a.Ok ∧ (10 < a.L ∨ 3 < a.S ∨ 4 < a.F)
instance (a : Arm) : Decidable a.Far := by unfold Arm.Far; infer_instance

theorem far18 (a : Arm) : PureC Try.prog 18 false [a.v] (· = .prop a.Far inferInstance) := by
  refine pureC_of_exec Try.E_ok Try.func18 rfl (by kernel_rfl) ?_
  by_cases ha : a.Ok
  · (repeat' ((conv => whnf); (first | ((with_reducible refine spl (fun hc => ?_) (fun hc => ?_)) <;> (try (exfalso; omega))) | ((with_reducible refine spl' (fun hc => ?_) (fun hc => ?_)) <;> (try (exfalso; omega))) | (with_reducible refine imp_intro (fun hc => ?_)) | refine vc (k := ?_) | refine dr 1 (k := ?_) | refine dr 2 (k := ?_) | refine dr 3 (k := ?_) | refine dr 4 (k := ?_) | refine dr 5 (k := ?_) | refine dr 6 (k := ?_) | refine dr 7 (k := ?_) | refine dr 8 (k := ?_) | refine dr 9 (k := ?_) | refine dr 10 (k := ?_) | refine dr 11 (k := ?_) | refine dr 12 (k := ?_) | fail))); (all_goals (try (conv => whnf))); (all_goals (try exact trivial)); (repeat' ((first | (refine callee_fo (check20_ok ha) rfl ?_; rintro _ rfl) | (refine pcall_intro (check20_ok ha) rfl ?_) | (refine pcall_soft (fun _ => check20_ok ha) rfl ?_)); (repeat' ((conv => whnf); (first | ((with_reducible refine spl (fun hc => ?_) (fun hc => ?_)) <;> (try (exfalso; omega))) | ((with_reducible refine spl' (fun hc => ?_) (fun hc => ?_)) <;> (try (exfalso; omega))) | (with_reducible refine imp_intro (fun hc => ?_)) | refine vc (k := ?_) | refine dr 1 (k := ?_) | refine dr 2 (k := ?_) | refine dr 3 (k := ?_) | refine dr 4 (k := ?_) | refine dr 5 (k := ?_) | refine dr 6 (k := ?_) | refine dr 7 (k := ?_) | refine dr 8 (k := ?_) | refine dr 9 (k := ?_) | refine dr 10 (k := ?_) | refine dr 11 (k := ?_) | refine dr 12 (k := ?_) | fail))); (all_goals (try (conv => whnf))); (all_goals (try exact trivial)))); (all_goals (try (refine ⟨_, rfl, ?_⟩; (repeat' ((conv => whnf); (first | ((with_reducible refine spl (fun hc => ?_) (fun hc => ?_)) <;> (try (exfalso; omega))) | ((with_reducible refine spl' (fun hc => ?_) (fun hc => ?_)) <;> (try (exfalso; omega))) | (with_reducible refine imp_intro (fun hc => ?_)) | refine vc (k := ?_) | refine dr 1 (k := ?_) | refine dr 2 (k := ?_) | refine dr 3 (k := ?_) | refine dr 4 (k := ?_) | refine dr 5 (k := ?_) | refine dr 6 (k := ?_) | refine dr 7 (k := ?_) | refine dr 8 (k := ?_) | refine dr 9 (k := ?_) | refine dr 10 (k := ?_) | refine dr 11 (k := ?_) | refine dr 12 (k := ?_) | fail))); (all_goals (try (conv => whnf))); (all_goals (try exact trivial)))))
    exact ⟨by simp [Arm.Far, ha, or_assoc], trivial⟩
  · (repeat' ((conv => whnf); (first | ((with_reducible refine spl (fun hc => ?_) (fun hc => ?_)) <;> (try (exfalso; omega))) | ((with_reducible refine spl' (fun hc => ?_) (fun hc => ?_)) <;> (try (exfalso; omega))) | (with_reducible refine imp_intro (fun hc => ?_)) | refine vc (k := ?_) | refine dr 1 (k := ?_) | refine dr 2 (k := ?_) | refine dr 3 (k := ?_) | refine dr 4 (k := ?_) | refine dr 5 (k := ?_) | refine dr 6 (k := ?_) | refine dr 7 (k := ?_) | refine dr 8 (k := ?_) | refine dr 9 (k := ?_) | refine dr 10 (k := ?_) | refine dr 11 (k := ?_) | refine dr 12 (k := ?_) | fail))); (all_goals (try (conv => whnf))); (all_goals (try exact trivial)); (repeat' ((first | (refine callee_fo (check20_bad ha) rfl ?_; rintro _ rfl) | (refine pcall_intro (check20_bad ha) rfl ?_) | (refine pcall_soft (fun _ => check20_bad ha) rfl ?_)); (repeat' ((conv => whnf); (first | ((with_reducible refine spl (fun hc => ?_) (fun hc => ?_)) <;> (try (exfalso; omega))) | ((with_reducible refine spl' (fun hc => ?_) (fun hc => ?_)) <;> (try (exfalso; omega))) | (with_reducible refine imp_intro (fun hc => ?_)) | refine vc (k := ?_) | refine dr 1 (k := ?_) | refine dr 2 (k := ?_) | refine dr 3 (k := ?_) | refine dr 4 (k := ?_) | refine dr 5 (k := ?_) | refine dr 6 (k := ?_) | refine dr 7 (k := ?_) | refine dr 8 (k := ?_) | refine dr 9 (k := ?_) | refine dr 10 (k := ?_) | refine dr 11 (k := ?_) | refine dr 12 (k := ?_) | fail))); (all_goals (try (conv => whnf))); (all_goals (try exact trivial)))); (all_goals (try (refine ⟨_, rfl, ?_⟩; (repeat' ((conv => whnf); (first | ((with_reducible refine spl (fun hc => ?_) (fun hc => ?_)) <;> (try (exfalso; omega))) | ((with_reducible refine spl' (fun hc => ?_) (fun hc => ?_)) <;> (try (exfalso; omega))) | (with_reducible refine imp_intro (fun hc => ?_)) | refine vc (k := ?_) | refine dr 1 (k := ?_) | refine dr 2 (k := ?_) | refine dr 3 (k := ?_) | refine dr 4 (k := ?_) | refine dr 5 (k := ?_) | refine dr 6 (k := ?_) | refine dr 7 (k := ?_) | refine dr 8 (k := ?_) | refine dr 9 (k := ?_) | refine dr 10 (k := ?_) | refine dr 11 (k := ?_) | refine dr 12 (k := ?_) | fail))); (all_goals (try (conv => whnf))); (all_goals (try exact trivial)))))
    exact ⟨by simp [Arm.Far, ha], trivial⟩

theorem checkTarget44 (a : Arm) (t : Int) : PureC Try.prog 44 false [a.v, .int .i64 t] (· = .int .i64 (a.err t [])) := by
  refine pureC_of_exec Try.E_ok Try.func44 rfl (by kernel_rfl) ?_
  by_cases ha : a.Ok
  · (repeat' ((conv => whnf); (first | ((with_reducible refine spl (fun hc => ?_) (fun hc => ?_)) <;> (try (exfalso; omega))) | ((with_reducible refine spl' (fun hc => ?_) (fun hc => ?_)) <;> (try (exfalso; omega))) | (with_reducible refine imp_intro (fun hc => ?_)) | refine vc (k := ?_) | refine dr 1 (k := ?_) | refine dr 2 (k := ?_) | refine dr 3 (k := ?_) | refine dr 4 (k := ?_) | refine dr 5 (k := ?_) | refine dr 6 (k := ?_) | refine dr 7 (k := ?_) | refine dr 8 (k := ?_) | refine dr 9 (k := ?_) | refine dr 10 (k := ?_) | refine dr 11 (k := ?_) | refine dr 12 (k := ?_) | fail))); (all_goals (try (conv => whnf))); (all_goals (try exact trivial)); (repeat' ((first | (refine callee_fo (check20_ok ha) rfl ?_; rintro _ rfl) | (refine pcall_intro (check20_ok ha) rfl ?_) | (refine pcall_soft (fun _ => check20_ok ha) rfl ?_) | (refine callee_fo (within41 _ _ _) rfl ?_; rintro _ rfl) | (refine pcall_intro (within41 _ _ _) rfl ?_) | (refine pcall_soft (fun _ => within41 _ _ _) rfl ?_)); (repeat' ((conv => whnf); (first | ((with_reducible refine spl (fun hc => ?_) (fun hc => ?_)) <;> (try (exfalso; omega))) | ((with_reducible refine spl' (fun hc => ?_) (fun hc => ?_)) <;> (try (exfalso; omega))) | (with_reducible refine imp_intro (fun hc => ?_)) | refine vc (k := ?_) | refine dr 1 (k := ?_) | refine dr 2 (k := ?_) | refine dr 3 (k := ?_) | refine dr 4 (k := ?_) | refine dr 5 (k := ?_) | refine dr 6 (k := ?_) | refine dr 7 (k := ?_) | refine dr 8 (k := ?_) | refine dr 9 (k := ?_) | refine dr 10 (k := ?_) | refine dr 11 (k := ?_) | refine dr 12 (k := ?_) | fail))); (all_goals (try (conv => whnf))); (all_goals (try exact trivial)))); (all_goals (try (refine ⟨_, rfl, ?_⟩; (repeat' ((conv => whnf); (first | ((with_reducible refine spl (fun hc => ?_) (fun hc => ?_)) <;> (try (exfalso; omega))) | ((with_reducible refine spl' (fun hc => ?_) (fun hc => ?_)) <;> (try (exfalso; omega))) | (with_reducible refine imp_intro (fun hc => ?_)) | refine vc (k := ?_) | refine dr 1 (k := ?_) | refine dr 2 (k := ?_) | refine dr 3 (k := ?_) | refine dr 4 (k := ?_) | refine dr 5 (k := ?_) | refine dr 6 (k := ?_) | refine dr 7 (k := ?_) | refine dr 8 (k := ?_) | refine dr 9 (k := ?_) | refine dr 10 (k := ?_) | refine dr 11 (k := ?_) | refine dr 12 (k := ?_) | fail))); (all_goals (try (conv => whnf))); (all_goals (try exact trivial)))))
    · exact ⟨(a.err_arg ha hc).symm, trivial⟩
    · exact ⟨(a.err_ok ha (Classical.not_not.1 hc) (by simp)).symm, trivial⟩
  · (repeat' ((conv => whnf); (first | ((with_reducible refine spl (fun hc => ?_) (fun hc => ?_)) <;> (try (exfalso; omega))) | ((with_reducible refine spl' (fun hc => ?_) (fun hc => ?_)) <;> (try (exfalso; omega))) | (with_reducible refine imp_intro (fun hc => ?_)) | refine vc (k := ?_) | refine dr 1 (k := ?_) | refine dr 2 (k := ?_) | refine dr 3 (k := ?_) | refine dr 4 (k := ?_) | refine dr 5 (k := ?_) | refine dr 6 (k := ?_) | refine dr 7 (k := ?_) | refine dr 8 (k := ?_) | refine dr 9 (k := ?_) | refine dr 10 (k := ?_) | refine dr 11 (k := ?_) | refine dr 12 (k := ?_) | fail))); (all_goals (try (conv => whnf))); (all_goals (try exact trivial)); (repeat' ((first | (refine callee_fo (check20_bad ha) rfl ?_; rintro _ rfl) | (refine pcall_intro (check20_bad ha) rfl ?_) | (refine pcall_soft (fun _ => check20_bad ha) rfl ?_)); (repeat' ((conv => whnf); (first | ((with_reducible refine spl (fun hc => ?_) (fun hc => ?_)) <;> (try (exfalso; omega))) | ((with_reducible refine spl' (fun hc => ?_) (fun hc => ?_)) <;> (try (exfalso; omega))) | (with_reducible refine imp_intro (fun hc => ?_)) | refine vc (k := ?_) | refine dr 1 (k := ?_) | refine dr 2 (k := ?_) | refine dr 3 (k := ?_) | refine dr 4 (k := ?_) | refine dr 5 (k := ?_) | refine dr 6 (k := ?_) | refine dr 7 (k := ?_) | refine dr 8 (k := ?_) | refine dr 9 (k := ?_) | refine dr 10 (k := ?_) | refine dr 11 (k := ?_) | refine dr 12 (k := ?_) | fail))); (all_goals (try (conv => whnf))); (all_goals (try exact trivial)))); (all_goals (try (refine ⟨_, rfl, ?_⟩; (repeat' ((conv => whnf); (first | ((with_reducible refine spl (fun hc => ?_) (fun hc => ?_)) <;> (try (exfalso; omega))) | ((with_reducible refine spl' (fun hc => ?_) (fun hc => ?_)) <;> (try (exfalso; omega))) | (with_reducible refine imp_intro (fun hc => ?_)) | refine vc (k := ?_) | refine dr 1 (k := ?_) | refine dr 2 (k := ?_) | refine dr 3 (k := ?_) | refine dr 4 (k := ?_) | refine dr 5 (k := ?_) | refine dr 6 (k := ?_) | refine dr 7 (k := ?_) | refine dr 8 (k := ?_) | refine dr 9 (k := ?_) | refine dr 10 (k := ?_) | refine dr 11 (k := ?_) | refine dr 12 (k := ?_) | fail))); (all_goals (try (conv => whnf))); (all_goals (try exact trivial)))))
    exact ⟨(a.err_bad ha).symm, trivial⟩

theorem checkState33 (a : Arm) (t x v : Int) : PureC Try.prog 33 false [a.v, .int .i64 t, spotV x v] (· = .int .i64 (a.err t [(x, v)])) := by
  refine pureC_of_exec Try.E_ok Try.func33 rfl (by kernel_rfl) ?_
  by_cases he : a.err t [] = 0
  · obtain ⟨ha, ht, _⟩ := Arm.err_zero he
    have h0 : PureC Try.prog 44 false [a.v, .int .i64 t] (· = .int .i64 0) := by have := checkTarget44 a t; rwa [he] at this
    (repeat' ((conv => whnf); (first | ((with_reducible refine spl (fun hc => ?_) (fun hc => ?_)) <;> (try (exfalso; omega))) | ((with_reducible refine spl' (fun hc => ?_) (fun hc => ?_)) <;> (try (exfalso; omega))) | (with_reducible refine imp_intro (fun hc => ?_)) | refine vc (k := ?_) | refine dr 1 (k := ?_) | refine dr 2 (k := ?_) | refine dr 3 (k := ?_) | refine dr 4 (k := ?_) | refine dr 5 (k := ?_) | refine dr 6 (k := ?_) | refine dr 7 (k := ?_) | refine dr 8 (k := ?_) | refine dr 9 (k := ?_) | refine dr 10 (k := ?_) | refine dr 11 (k := ?_) | refine dr 12 (k := ?_) | fail))); (all_goals (try (conv => whnf))); (all_goals (try exact trivial)); (repeat' ((first | (refine callee_fo (h0) rfl ?_; rintro _ rfl) | (refine pcall_intro (h0) rfl ?_) | (refine pcall_soft (fun _ => h0) rfl ?_) | (refine callee_fo (isState17 a ha _ _) rfl ?_; rintro _ rfl) | (refine pcall_intro (isState17 a ha _ _) rfl ?_) | (refine pcall_soft (fun _ => isState17 a ha _ _) rfl ?_)); (repeat' ((conv => whnf); (first | ((with_reducible refine spl (fun hc => ?_) (fun hc => ?_)) <;> (try (exfalso; omega))) | ((with_reducible refine spl' (fun hc => ?_) (fun hc => ?_)) <;> (try (exfalso; omega))) | (with_reducible refine imp_intro (fun hc => ?_)) | refine vc (k := ?_) | refine dr 1 (k := ?_) | refine dr 2 (k := ?_) | refine dr 3 (k := ?_) | refine dr 4 (k := ?_) | refine dr 5 (k := ?_) | refine dr 6 (k := ?_) | refine dr 7 (k := ?_) | refine dr 8 (k := ?_) | refine dr 9 (k := ?_) | refine dr 10 (k := ?_) | refine dr 11 (k := ?_) | refine dr 12 (k := ?_) | fail))); (all_goals (try (conv => whnf))); (all_goals (try exact trivial)))); (all_goals (try (refine ⟨_, rfl, ?_⟩; (repeat' ((conv => whnf); (first | ((with_reducible refine spl (fun hc => ?_) (fun hc => ?_)) <;> (try (exfalso; omega))) | ((with_reducible refine spl' (fun hc => ?_) (fun hc => ?_)) <;> (try (exfalso; omega))) | (with_reducible refine imp_intro (fun hc => ?_)) | refine vc (k := ?_) | refine dr 1 (k := ?_) | refine dr 2 (k := ?_) | refine dr 3 (k := ?_) | refine dr 4 (k := ?_) | refine dr 5 (k := ?_) | refine dr 6 (k := ?_) | refine dr 7 (k := ?_) | refine dr 8 (k := ?_) | refine dr 9 (k := ?_) | refine dr 10 (k := ?_) | refine dr 11 (k := ?_) | refine dr 12 (k := ?_) | fail))); (all_goals (try (conv => whnf))); (all_goals (try exact trivial)))))
    · exact ⟨(a.err_spot ha ht ⟨(x, v), by simp, hc⟩).symm, trivial⟩
    · exact ⟨(a.err_ok ha ht (by simpa using hc)).symm, trivial⟩
  · have he2 : a.err t [(x, v)] = a.err t [] := by
      by_cases ha : a.Ok
      · by_cases ht : 0 ≤ t ∧ t ≤ a.L
        · exact absurd (a.err_ok ha ht (by simp)) he
        · rw [a.err_arg ha ht, a.err_arg ha ht]
      · rw [a.err_bad ha, a.err_bad ha]
    rw [he2]
    (repeat' ((conv => whnf); (first | ((with_reducible refine spl (fun hc => ?_) (fun hc => ?_)) <;> (try (exfalso; omega))) | ((with_reducible refine spl' (fun hc => ?_) (fun hc => ?_)) <;> (try (exfalso; omega))) | (with_reducible refine imp_intro (fun hc => ?_)) | refine vc (k := ?_) | refine dr 1 (k := ?_) | refine dr 2 (k := ?_) | refine dr 3 (k := ?_) | refine dr 4 (k := ?_) | refine dr 5 (k := ?_) | refine dr 6 (k := ?_) | refine dr 7 (k := ?_) | refine dr 8 (k := ?_) | refine dr 9 (k := ?_) | refine dr 10 (k := ?_) | refine dr 11 (k := ?_) | refine dr 12 (k := ?_) | fail))); (all_goals (try (conv => whnf))); (all_goals (try exact trivial)); (repeat' ((first | (refine callee_fo (checkTarget44 a t) rfl ?_; rintro _ rfl) | (refine pcall_intro (checkTarget44 a t) rfl ?_) | (refine pcall_soft (fun _ => checkTarget44 a t) rfl ?_)); (repeat' ((conv => whnf); (first | ((with_reducible refine spl (fun hc => ?_) (fun hc => ?_)) <;> (try (exfalso; omega))) | ((with_reducible refine spl' (fun hc => ?_) (fun hc => ?_)) <;> (try (exfalso; omega))) | (with_reducible refine imp_intro (fun hc => ?_)) | refine vc (k := ?_) | refine dr 1 (k := ?_) | refine dr 2 (k := ?_) | refine dr 3 (k := ?_) | refine dr 4 (k := ?_) | refine dr 5 (k := ?_) | refine dr 6 (k := ?_) | refine dr 7 (k := ?_) | refine dr 8 (k := ?_) | refine dr 9 (k := ?_) | refine dr 10 (k := ?_) | refine dr 11 (k := ?_) | refine dr 12 (k := ?_) | fail))); (all_goals (try (conv => whnf))); (all_goals (try exact trivial)))); (all_goals (try (refine ⟨_, rfl, ?_⟩; (repeat' ((conv => whnf); (first | ((with_reducible refine spl (fun hc => ?_) (fun hc => ?_)) <;> (try (exfalso; omega))) | ((with_reducible refine spl' (fun hc => ?_) (fun hc => ?_)) <;> (try (exfalso; omega))) | (with_reducible refine imp_intro (fun hc => ?_)) | refine vc (k := ?_) | refine dr 1 (k := ?_) | refine dr 2 (k := ?_) | refine dr 3 (k := ?_) | refine dr 4 (k := ?_) | refine dr 5 (k := ?_) | refine dr 6 (k := ?_) | refine dr 7 (k := ?_) | refine dr 8 (k := ?_) | refine dr 9 (k := ?_) | refine dr 10 (k := ?_) | refine dr 11 (k := ?_) | refine dr 12 (k := ?_) | fail))); (all_goals (try (conv => whnf))); (all_goals (try exact trivial)))))

/-- what statements look at -/
def Arm.Valid (a : Arm) (t x v : Int) : Prop := ¬ a.Far ∧ a.err t [(x, v)] = 0

theorem valid11 (a : Arm) (t x v : Int) : PureC Try.prog 11 false [a.v, .int .i64 t, spotV x v] (· = .prop (a.Valid t x v) (Classical.propDecidable _)) := by
  refine pureC_of_exec Try.E_ok Try.func11 rfl (by kernel_rfl) ?_
  (repeat' ((conv => whnf); (first | ((with_reducible refine spl (fun hc => ?_) (fun hc => ?_)) <;> (try (exfalso; omega))) | ((with_reducible refine spl' (fun hc => ?_) (fun hc => ?_)) <;> (try (exfalso; omega))) | (with_reducible refine imp_intro (fun hc => ?_)) | refine vc (k := ?_) | refine dr 1 (k := ?_) | refine dr 2 (k := ?_) | refine dr 3 (k := ?_) | refine dr 4 (k := ?_) | refine dr 5 (k := ?_) | refine dr 6 (k := ?_) | refine dr 7 (k := ?_) | refine dr 8 (k := ?_) | refine dr 9 (k := ?_) | refine dr 10 (k := ?_) | refine dr 11 (k := ?_) | refine dr 12 (k := ?_) | fail))); (all_goals (try (conv => whnf))); (all_goals (try exact trivial)); (repeat' ((first | (refine callee_fo (far18 a) rfl ?_; rintro _ rfl) | (refine pcall_intro (far18 a) rfl ?_) | (refine pcall_soft (fun _ => far18 a) rfl ?_) | (refine callee_fo (checkState33 a t x v) rfl ?_; rintro _ rfl) | (refine pcall_intro (checkState33 a t x v) rfl ?_) | (refine pcall_soft (fun _ => checkState33 a t x v) rfl ?_)); (repeat' ((conv => whnf); (first | ((with_reducible refine spl (fun hc => ?_) (fun hc => ?_)) <;> (try (exfalso; omega))) | ((with_reducible refine spl' (fun hc => ?_) (fun hc => ?_)) <;> (try (exfalso; omega))) | (with_reducible refine imp_intro (fun hc => ?_)) | refine vc (k := ?_) | refine dr 1 (k := ?_) | refine dr 2 (k := ?_) | refine dr 3 (k := ?_) | refine dr 4 (k := ?_) | refine dr 5 (k := ?_) | refine dr 6 (k := ?_) | refine dr 7 (k := ?_) | refine dr 8 (k := ?_) | refine dr 9 (k := ?_) | refine dr 10 (k := ?_) | refine dr 11 (k := ?_) | refine dr 12 (k := ?_) | fail))); (all_goals (try (conv => whnf))); (all_goals (try exact trivial)))); (all_goals (try (refine ⟨_, rfl, ?_⟩; (repeat' ((conv => whnf); (first | ((with_reducible refine spl (fun hc => ?_) (fun hc => ?_)) <;> (try (exfalso; omega))) | ((with_reducible refine spl' (fun hc => ?_) (fun hc => ?_)) <;> (try (exfalso; omega))) | (with_reducible refine imp_intro (fun hc => ?_)) | refine vc (k := ?_) | refine dr 1 (k := ?_) | refine dr 2 (k := ?_) | refine dr 3 (k := ?_) | refine dr 4 (k := ?_) | refine dr 5 (k := ?_) | refine dr 6 (k := ?_) | refine dr 7 (k := ?_) | refine dr 8 (k := ?_) | refine dr 9 (k := ?_) | refine dr 10 (k := ?_) | refine dr 11 (k := ?_) | refine dr 12 (k := ?_) | fail))); (all_goals (try (conv => whnf))); (all_goals (try exact trivial)))))
  · exact ⟨⟨fun h => ⟨hc, h⟩, fun h => h.2⟩, trivial⟩
  · exact ⟨fun h => hc h.1, trivial⟩

structure Ease where
  F : Int
  K : Int
  G : Int
  W : Int
def Ease.v (e : Ease) : V := .agg [.int .i64 e.F, .int .i64 e.K, .int .i64 e.G, .int .i64 e.W]
def seekV (t x v : Int) (l : List Int) : V := .agg [.int .i64 t, .int .i64 x, .int .i64 v, .sl 1 l.length (rowOf (fun n => [.int .i64 n]) 0 l)]

/-- an arm with more force, less shake, a greater gate or slow -/
structure Easier (a b : Arm) : Prop where
  L : b.L = a.L
  S : b.S = a.S
  F : a.F ≤ b.F
  K : b.K ≤ a.K
  G : a.G ≤ b.G
  W : a.W ≤ b.W

theorem Easier.can {a b : Arm} (h : Easier a b) {p q : Int → Int → Prop} (hpq : ∀ x v, a.Has x v → p x v → q x v) {x v : Int} (hc : a.Can p x v) : b.Can q x v := by
  obtain ⟨c, h1, h2, h3⟩ := hc
  have hF := h.F
  have hK := h.K
  refine ⟨c, by omega, by omega, fun k hk1 hk2 => ?_⟩
  obtain ⟨g1, g2⟩ := h3 k (by omega) (by omega)
  refine ⟨?_, hpq _ _ g1 g2⟩
  unfold Arm.Has at g1 ⊢
  rw [h.L, h.S]
  exact g1

theorem Easier.there {a b : Arm} (h : Easier a b) {t x v : Int} (hx : a.There t x v) : b.There t x v := by
  refine Arm.Kept.of (A := a.There t) (fun x v hx => ⟨?_, ?_, h.can (fun _ _ _ h => h) hx.can⟩) hx
  · have := hx.has
    unfold Arm.Has at this ⊢
    rw [h.L, h.S]
    exact this
  · have := hx.told
    have hG := h.G
    have hW := h.W
    unfold Arm.Track at this ⊢
    omega

theorem Easier.reach {a b : Arm} (h : Easier a b) {t : Int} : ∀ {n : Nat} {x v : Int}, a.Reach (a.There t) n x v → b.Reach (b.There t) n x v
  | 0, _, _, hr => h.there hr
  | n + 1, x, v, hr => by
    rcases hr with hr | ⟨h1, h2⟩
    · exact .inl (h.reach hr)
    · refine .inr ⟨?_, h.can (fun _ _ _ hq => h.reach hq) h2⟩
      unfold Arm.Has at h1 ⊢
      rw [h.L, h.S]
      exact h1

theorem Easier.found {a b : Arm} (h : Easier a b) {t x v : Int} (hf : a.Found (a.There t) x v) : b.Found (b.There t) x v ∧ b.rk (b.There t) x v ≤ a.rk (a.There t) x v := by
  have h1 := hf.rk
  have h2 : b.Found (b.There t) x v := ⟨_, h.reach h1.1⟩
  refine ⟨h2, ?_⟩
  rcases Nat.lt_or_ge (a.rk (a.There t) x v) (b.rk (b.There t) x v) with h3 | h3
  · exact absurd (h.reach h1.1) (h2.rk.2 _ h3)
  · exact h3

theorem Arm.stepsE_or {a : Arm} {t x v : Int} (he : a.err t [(x, v)] = 0) : (a.Found (a.There t) x v ∧ a.stepsE t x v = 0) ∨ (¬ a.Found (a.There t) x v ∧ a.stepsE t x v = 3) := by
  by_cases hf : a.Found (a.There t) x v
  · exact .inl ⟨hf, (Arm.steps_ok he hf).2.2⟩
  · exact .inr ⟨hf, (Arm.steps_lost he hf).2.2⟩

theorem easier4 (a : Arm) (e : Ease) (t x v : Int) (l : List Int) : PureC Try.prog 4 false [a.v, e.v, seekV t x v l] (· = .prop True inferInstance) := by
  refine pureC_of_exec Try.E_ok Try.func4 rfl (by kernel_rfl) ?_
  (repeat' ((conv => whnf); (first | ((with_reducible refine spl (fun hc => ?_) (fun hc => ?_)) <;> (try (exfalso; omega))) | ((with_reducible refine spl' (fun hc => ?_) (fun hc => ?_)) <;> (try (exfalso; omega))) | (with_reducible refine imp_intro (fun hc => ?_)) | refine vc (k := ?_) | refine dr 1 (k := ?_) | refine dr 2 (k := ?_) | refine dr 3 (k := ?_) | refine dr 4 (k := ?_) | refine dr 5 (k := ?_) | refine dr 6 (k := ?_) | refine dr 7 (k := ?_) | refine dr 8 (k := ?_) | refine dr 9 (k := ?_) | refine dr 10 (k := ?_) | refine dr 11 (k := ?_) | refine dr 12 (k := ?_) | fail))); (all_goals (try (conv => whnf))); (all_goals (try exact trivial)); (repeat' ((first | (refine callee_fo (valid11 a t x v) rfl ?_; rintro _ rfl) | (refine pcall_intro (valid11 a t x v) rfl ?_) | (refine pcall_soft (fun _ => valid11 a t x v) rfl ?_) | (refine callee_fo (works12) rfl ?_; rintro _ rfl) | (refine pcall_intro (works12) rfl ?_) | (refine pcall_soft (fun _ => works12) rfl ?_)); (repeat' ((conv => whnf); (first | ((with_reducible refine spl (fun hc => ?_) (fun hc => ?_)) <;> (try (exfalso; omega))) | ((with_reducible refine spl' (fun hc => ?_) (fun hc => ?_)) <;> (try (exfalso; omega))) | (with_reducible refine imp_intro (fun hc => ?_)) | refine vc (k := ?_) | refine dr 1 (k := ?_) | refine dr 2 (k := ?_) | refine dr 3 (k := ?_) | refine dr 4 (k := ?_) | refine dr 5 (k := ?_) | refine dr 6 (k := ?_) | refine dr 7 (k := ?_) | refine dr 8 (k := ?_) | refine dr 9 (k := ?_) | refine dr 10 (k := ?_) | refine dr 11 (k := ?_) | refine dr 12 (k := ?_) | fail))); (all_goals (try (conv => whnf))); (all_goals (try exact trivial)))); (all_goals (try (refine ⟨_, rfl, ?_⟩; (repeat' ((conv => whnf); (first | ((with_reducible refine spl (fun hc => ?_) (fun hc => ?_)) <;> (try (exfalso; omega))) | ((with_reducible refine spl' (fun hc => ?_) (fun hc => ?_)) <;> (try (exfalso; omega))) | (with_reducible refine imp_intro (fun hc => ?_)) | refine vc (k := ?_) | refine dr 1 (k := ?_) | refine dr 2 (k := ?_) | refine dr 3 (k := ?_) | refine dr 4 (k := ?_) | refine dr 5 (k := ?_) | refine dr 6 (k := ?_) | refine dr 7 (k := ?_) | refine dr 8 (k := ?_) | refine dr 9 (k := ?_) | refine dr 10 (k := ?_) | refine dr 11 (k := ?_) | refine dr 12 (k := ?_) | fail))); (all_goals (try (conv => whnf))); (all_goals (try exact trivial)))))
  simp only [not_or, Classical.not_not, Int.not_lt] at hc
  obtain ⟨⟨⟨⟨⟨⟨⟨⟨hv, e1⟩, e2⟩, e3⟩, e4⟩, e5⟩, e6⟩, e7⟩, e8⟩ := hc
  obtain ⟨ha, ht, hx⟩ := Arm.err_zero hv.2
  have hx : a.Has x v := hx (x, v) (by simp)
  have hS := ha.S
  have hF := ha.F
  have hK := ha.K
  have hG := ha.G
  have hW := ha.W
  obtain ⟨b, hb⟩ : ∃ b : Arm, b = ⟨a.L, a.S, min 4 (a.F + e.F), max 0 (a.K - e.K), min 4 (a.G + e.G), min a.S (a.W + e.W)⟩ := ⟨_, rfl⟩
  have hea : Easier a b := by subst hb; exact ⟨rfl, rfl, by dsimp only; omega, by dsimp only; omega, by dsimp only; omega, by dsimp only; omega⟩
  have hbo : b.Ok := by subst hb; exact ⟨ha.L, ha.S, by dsimp only; omega, by dsimp only; omega, by dsimp only; omega, by dsimp only; omega⟩
  have hbe : b.err t [(x, v)] = 0 := Arm.err_ok hbo (by subst hb; exact ht) (by subst hb; simp only [List.mem_singleton, exists_eq_left, Classical.not_not]; exact hx)
  have sb : PureC Try.prog 13 false [.agg [.int .i64 a.L, .int .i64 a.S, .int .i64 (min 4 (a.F + e.F)), .int .i64 (max 0 (a.K - e.K)), .int .i64 (min 4 (a.G + e.G)), .int .i64 (min a.S (a.W + e.W))], .int .i64 t, spotV x v] (· = .tup [.int .i64 (b.stepsN t x v), .int .i64 (b.stepsC t x v), .int .i64 (b.stepsE t x v)]) := by
    have := steps13 b t x v
    rwa [hb] at this ⊢
  (repeat' ((conv => whnf); (first | ((with_reducible refine spl (fun hc => ?_) (fun hc => ?_)) <;> (try (exfalso; omega))) | ((with_reducible refine spl' (fun hc => ?_) (fun hc => ?_)) <;> (try (exfalso; omega))) | (with_reducible refine imp_intro (fun hc => ?_)) | refine vc (k := ?_) | refine dr 1 (k := ?_) | refine dr 2 (k := ?_) | refine dr 3 (k := ?_) | refine dr 4 (k := ?_) | refine dr 5 (k := ?_) | refine dr 6 (k := ?_) | refine dr 7 (k := ?_) | refine dr 8 (k := ?_) | refine dr 9 (k := ?_) | refine dr 10 (k := ?_) | refine dr 11 (k := ?_) | refine dr 12 (k := ?_) | fail))); (all_goals (try (conv => whnf))); (all_goals (try exact trivial)); (repeat' ((first | (refine callee_fo (sb) rfl ?_; rintro _ rfl) | (refine pcall_intro (sb) rfl ?_) | (refine pcall_soft (fun _ => sb) rfl ?_) | (refine callee_fo (steps13 a t x v) rfl ?_; rintro _ rfl) | (refine pcall_intro (steps13 a t x v) rfl ?_) | (refine pcall_soft (fun _ => steps13 a t x v) rfl ?_) | (refine callee_fo (works12) rfl ?_; rintro _ rfl) | (refine pcall_intro (works12) rfl ?_) | (refine pcall_soft (fun _ => works12) rfl ?_)); (repeat' ((conv => whnf); (first | ((with_reducible refine spl (fun hc => ?_) (fun hc => ?_)) <;> (try (exfalso; omega))) | ((with_reducible refine spl' (fun hc => ?_) (fun hc => ?_)) <;> (try (exfalso; omega))) | (with_reducible refine imp_intro (fun hc => ?_)) | refine vc (k := ?_) | refine dr 1 (k := ?_) | refine dr 2 (k := ?_) | refine dr 3 (k := ?_) | refine dr 4 (k := ?_) | refine dr 5 (k := ?_) | refine dr 6 (k := ?_) | refine dr 7 (k := ?_) | refine dr 8 (k := ?_) | refine dr 9 (k := ?_) | refine dr 10 (k := ?_) | refine dr 11 (k := ?_) | refine dr 12 (k := ?_) | fail))); (all_goals (try (conv => whnf))); (all_goals (try exact trivial)))); (all_goals (try (refine ⟨_, rfl, ?_⟩; (repeat' ((conv => whnf); (first | ((with_reducible refine spl (fun hc => ?_) (fun hc => ?_)) <;> (try (exfalso; omega))) | ((with_reducible refine spl' (fun hc => ?_) (fun hc => ?_)) <;> (try (exfalso; omega))) | (with_reducible refine imp_intro (fun hc => ?_)) | refine vc (k := ?_) | refine dr 1 (k := ?_) | refine dr 2 (k := ?_) | refine dr 3 (k := ?_) | refine dr 4 (k := ?_) | refine dr 5 (k := ?_) | refine dr 6 (k := ?_) | refine dr 7 (k := ?_) | refine dr 8 (k := ?_) | refine dr 9 (k := ?_) | refine dr 10 (k := ?_) | refine dr 11 (k := ?_) | refine dr 12 (k := ?_) | fail))); (all_goals (try (conv => whnf))); (all_goals (try exact trivial)))))
  · exfalso
    have h1 := Arm.stepsE_or hv.2
    have h2 := Arm.stepsE_or hbe
    omega
  · exfalso
    apply hc
    rcases Arm.stepsE_or hv.2 with ⟨h1, h2⟩ | ⟨h1, h2⟩
    · obtain ⟨h3, h4⟩ := hea.found h1
      right
      rw [(Arm.steps_ok hbe h3).2.2, (Arm.steps_ok hbe h3).1, (Arm.steps_ok hv.2 h1).1]
      exact ⟨rfl, by omega⟩
    · left; omega
end Go.Proofs
