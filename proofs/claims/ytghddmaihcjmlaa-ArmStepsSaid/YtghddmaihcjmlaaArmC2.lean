/- Own work: a text of the proof of a law (ArmC2). -/
import Derived.Test.YtghddmaihcjmlaaArmC1
namespace Go.Proofs
open Go Go.Sx
set_option maxRecDepth 100000

/-- whatever the shock is, the arm does not crash and comes to a state as told -/
def Arm.Good (a : Arm) (p : Int → Int → Prop) (x v c : Int) : Prop := ∀ k, -a.K ≤ k → k ≤ a.K → a.Has (x + (v + (c + k))) (v + (c + k)) ∧ p (x + (v + (c + k))) (v + (c + k))
def Arm.Can (a : Arm) (p : Int → Int → Prop) (x v : Int) : Prop := ∃ c, -a.F ≤ c ∧ c ≤ a.F ∧ a.Good p x v c
def Arm.IsCmd (a : Arm) (p : Int → Int → Prop) (x v c : Int) : Prop := -a.F ≤ c ∧ c ≤ a.F ∧ a.Good p x v c ∧ ∀ d, -a.F ≤ d → d < c → ¬ a.Good p x v d
/-- the lowest command -/
noncomputable def Arm.cmd (a : Arm) (p : Int → Int → Prop) (x v : Int) : Int := @dite _ (∃ c, a.IsCmd p x v c) (Classical.propDecidable _) (fun h => h.choose) (fun _ => 0)

theorem Arm.cmd_eq {a : Arm} {p : Int → Int → Prop} {x v c : Int} (h : a.IsCmd p x v c) : a.cmd p x v = c := by
  have he : ∃ c, a.IsCmd p x v c := ⟨c, h⟩
  have h2 : a.IsCmd p x v (a.cmd p x v) := by unfold Arm.cmd; rw [dif_pos he]; exact he.choose_spec
  rcases Int.lt_trichotomy (a.cmd p x v) c with h3 | h3 | h3
  · exact absurd h2.2.2.1 (h.2.2.2 _ h2.1 h3)
  · exact h3
  · exact absurd h.2.2.1 (h2.2.2.2 _ h.1 h3)

theorem Arm.cmd_none {a : Arm} {p : Int → Int → Prop} {x v : Int} (h : ¬ a.Can p x v) : a.cmd p x v = 0 := by
  unfold Arm.cmd
  rw [dif_neg]
  rintro ⟨c, h1, h2, h3, _⟩
  exact h ⟨c, h1, h2, h3⟩

/-- a function that tells states -/
def TellD (a : Arm) (p : Int → Int → Prop) : (Nat → Prop) → World → Value → Prop :=
  FnD Try.prog (fun i : { i : Int × Int // a.Has i.1 i.2 } => [spotV i.1.1 i.1.2]) (fun i r => r = .prop (p i.1.1 i.1.2) (Classical.propDecidable _))

theorem command58 (a : Arm) (ha : a.Ok) (p : Int → Int → Prop) (x v : Int) (hx : a.Has x v) : PureC Try.prog 58 false [a.v, spotV x v, .sem (TellD a p)]
    (· = .tup [.int .i64 (a.cmd p x v), .prop (a.Can p x v) (Classical.propDecidable _)]) := by
  have hL := ha.L
  have hS := ha.S
  have hF := ha.F
  have hK := ha.K
  obtain ⟨hx1, hx2⟩ := id hx
  refine pureC_of_exec Try.E_ok Try.func58 rfl (by kernel_rfl) ?_
  (repeat' ((conv => whnf); (first | ((with_reducible refine spl (fun hc => ?_) (fun hc => ?_)) <;> (try (exfalso; omega))) | ((with_reducible refine spl' (fun hc => ?_) (fun hc => ?_)) <;> (try (exfalso; omega))) | (with_reducible refine imp_intro (fun hc => ?_)) | refine vc (k := ?_) | refine dr 1 (k := ?_) | refine dr 2 (k := ?_) | refine dr 3 (k := ?_) | refine dr 4 (k := ?_) | refine dr 5 (k := ?_) | refine dr 6 (k := ?_) | refine dr 7 (k := ?_) | refine dr 8 (k := ?_) | refine dr 9 (k := ?_) | refine dr 10 (k := ?_) | refine dr 11 (k := ?_) | refine dr 12 (k := ?_) | fail))); (all_goals (try (conv => whnf))); (all_goals (try exact trivial))
  refine ⟨Int, fun c => (-a.F ≤ c ∧ c ≤ a.F + 1) ∧ ∀ d, -a.F ≤ d → d < c → ¬ a.Good p x v d, fun c => (a.F + 1 - c).toNat, fun c => [(8, .int .i64 c)], fun _ => [], fun _ => [], -a.F, ⟨⟨by omega, fun d _ _ => by omega⟩, none, ?_⟩, fun c hc => ?_⟩
  · (repeat' ((conv => whnf); (first | ((with_reducible refine spl (fun hc => ?_) (fun hc => ?_)) <;> (try (exfalso; omega))) | ((with_reducible refine spl' (fun hc => ?_) (fun hc => ?_)) <;> (try (exfalso; omega))) | (with_reducible refine imp_intro (fun hc => ?_)) | refine vc (k := ?_) | refine dr 1 (k := ?_) | refine dr 2 (k := ?_) | refine dr 3 (k := ?_) | refine dr 4 (k := ?_) | refine dr 5 (k := ?_) | refine dr 6 (k := ?_) | refine dr 7 (k := ?_) | refine dr 8 (k := ?_) | refine dr 9 (k := ?_) | refine dr 10 (k := ?_) | refine dr 11 (k := ?_) | refine dr 12 (k := ?_) | fail))); (all_goals (try (conv => whnf))); (all_goals (try exact trivial))
  · obtain ⟨hc1, hc2⟩ := hc
    (repeat' ((conv => whnf); (first | ((with_reducible refine spl (fun hc => ?_) (fun hc => ?_)) <;> (try (exfalso; omega))) | ((with_reducible refine spl' (fun hc => ?_) (fun hc => ?_)) <;> (try (exfalso; omega))) | (with_reducible refine imp_intro (fun hc => ?_)) | refine vc (k := ?_) | refine dr 1 (k := ?_) | refine dr 2 (k := ?_) | refine dr 3 (k := ?_) | refine dr 4 (k := ?_) | refine dr 5 (k := ?_) | refine dr 6 (k := ?_) | refine dr 7 (k := ?_) | refine dr 8 (k := ?_) | refine dr 9 (k := ?_) | refine dr 10 (k := ?_) | refine dr 11 (k := ?_) | refine dr 12 (k := ?_) | fail))); (all_goals (try (conv => whnf))); (all_goals (try exact trivial))
    · refine ⟨Int, fun k => (-a.K ≤ k ∧ k ≤ a.K + 1) ∧ ∀ d, -a.K ≤ d → d < k → a.Has (x + (v + (c + d))) (v + (c + d)) ∧ p (x + (v + (c + d))) (v + (c + d)), fun k => (a.K + 1 - k).toNat, fun k => [(9, .int .i64 k)], fun _ => [], fun _ => [], -a.K, ⟨⟨by omega, fun d _ _ => by omega⟩, none, ?_⟩, fun k hk => ?_⟩
      · (repeat' ((conv => whnf); (first | ((with_reducible refine spl (fun hc => ?_) (fun hc => ?_)) <;> (try (exfalso; omega))) | ((with_reducible refine spl' (fun hc => ?_) (fun hc => ?_)) <;> (try (exfalso; omega))) | (with_reducible refine imp_intro (fun hc => ?_)) | refine vc (k := ?_) | refine dr 1 (k := ?_) | refine dr 2 (k := ?_) | refine dr 3 (k := ?_) | refine dr 4 (k := ?_) | refine dr 5 (k := ?_) | refine dr 6 (k := ?_) | refine dr 7 (k := ?_) | refine dr 8 (k := ?_) | refine dr 9 (k := ?_) | refine dr 10 (k := ?_) | refine dr 11 (k := ?_) | refine dr 12 (k := ?_) | fail))); (all_goals (try (conv => whnf))); (all_goals (try exact trivial))
      · obtain ⟨hk1, hk2⟩ := hk
        have bad : ¬ (a.Has (x + (v + (c + k))) (v + (c + k)) ∧ p (x + (v + (c + k))) (v + (c + k))) → k ≤ a.K → ¬ a.Good p x v c := fun h h2 hg => h (hg k hk1.1 h2)
        (repeat' ((conv => whnf); (first | ((with_reducible refine spl (fun hc => ?_) (fun hc => ?_)) <;> (try (exfalso; omega))) | ((with_reducible refine spl' (fun hc => ?_) (fun hc => ?_)) <;> (try (exfalso; omega))) | (with_reducible refine imp_intro (fun hc => ?_)) | refine vc (k := ?_) | refine dr 1 (k := ?_) | refine dr 2 (k := ?_) | refine dr 3 (k := ?_) | refine dr 4 (k := ?_) | refine dr 5 (k := ?_) | refine dr 6 (k := ?_) | refine dr 7 (k := ?_) | refine dr 8 (k := ?_) | refine dr 9 (k := ?_) | refine dr 10 (k := ?_) | refine dr 11 (k := ?_) | refine dr 12 (k := ?_) | fail))); (all_goals (try (conv => whnf))); (all_goals (try exact trivial)); (repeat' ((first | (refine callee_fo (step53 a ha x v c k (by omega) (by omega) (by omega) (by omega)) rfl ?_; rintro _ rfl) | (refine pcall_intro (step53 a ha x v c k (by omega) (by omega) (by omega) (by omega)) rfl ?_) | (refine pcall_soft (fun _ => step53 a ha x v c k (by omega) (by omega) (by omega) (by omega)) rfl ?_)); (repeat' ((conv => whnf); (first | ((with_reducible refine spl (fun hc => ?_) (fun hc => ?_)) <;> (try (exfalso; omega))) | ((with_reducible refine spl' (fun hc => ?_) (fun hc => ?_)) <;> (try (exfalso; omega))) | (with_reducible refine imp_intro (fun hc => ?_)) | refine vc (k := ?_) | refine dr 1 (k := ?_) | refine dr 2 (k := ?_) | refine dr 3 (k := ?_) | refine dr 4 (k := ?_) | refine dr 5 (k := ?_) | refine dr 6 (k := ?_) | refine dr 7 (k := ?_) | refine dr 8 (k := ?_) | refine dr 9 (k := ?_) | refine dr 10 (k := ?_) | refine dr 11 (k := ?_) | refine dr 12 (k := ?_) | fail))); (all_goals (try (conv => whnf))); (all_goals (try exact trivial)))); (all_goals (try (refine ⟨_, rfl, ?_⟩; (repeat' ((conv => whnf); (first | ((with_reducible refine spl (fun hc => ?_) (fun hc => ?_)) <;> (try (exfalso; omega))) | ((with_reducible refine spl' (fun hc => ?_) (fun hc => ?_)) <;> (try (exfalso; omega))) | (with_reducible refine imp_intro (fun hc => ?_)) | refine vc (k := ?_) | refine dr 1 (k := ?_) | refine dr 2 (k := ?_) | refine dr 3 (k := ?_) | refine dr 4 (k := ?_) | refine dr 5 (k := ?_) | refine dr 6 (k := ?_) | refine dr 7 (k := ?_) | refine dr 8 (k := ?_) | refine dr 9 (k := ?_) | refine dr 10 (k := ?_) | refine dr 11 (k := ?_) | refine dr 12 (k := ?_) | fail))); (all_goals (try (conv => whnf))); (all_goals (try exact trivial)))))
        · have hh := hc; rename_i hkK
          refine scall_fn ⟨(_, _), Classical.not_not.1 hh⟩ rfl rfl ?_
          rintro _ rfl
          (repeat' ((conv => whnf); (first | ((with_reducible refine spl (fun hc => ?_) (fun hc => ?_)) <;> (try (exfalso; omega))) | ((with_reducible refine spl' (fun hc => ?_) (fun hc => ?_)) <;> (try (exfalso; omega))) | (with_reducible refine imp_intro (fun hc => ?_)) | refine vc (k := ?_) | refine dr 1 (k := ?_) | refine dr 2 (k := ?_) | refine dr 3 (k := ?_) | refine dr 4 (k := ?_) | refine dr 5 (k := ?_) | refine dr 6 (k := ?_) | refine dr 7 (k := ?_) | refine dr 8 (k := ?_) | refine dr 9 (k := ?_) | refine dr 10 (k := ?_) | refine dr 11 (k := ?_) | refine dr 12 (k := ?_) | fail))); (all_goals (try (conv => whnf))); (all_goals (try exact trivial))
          · refine ⟨c + 1, ⟨⟨by omega, fun d h1 h2 => ?_⟩, by dsimp only; omega⟩, some [some 0, some 1], ?_⟩
            · rcases Int.lt_or_eq_of_le (show d ≤ c by omega) with h3 | rfl
              · exact hc2 d h1 h3
              · exact bad (fun h => hc h.2) hkK
            · (repeat' ((conv => whnf); (first | ((with_reducible refine spl (fun hc => ?_) (fun hc => ?_)) <;> (try (exfalso; omega))) | ((with_reducible refine spl' (fun hc => ?_) (fun hc => ?_)) <;> (try (exfalso; omega))) | (with_reducible refine imp_intro (fun hc => ?_)) | refine vc (k := ?_) | refine dr 1 (k := ?_) | refine dr 2 (k := ?_) | refine dr 3 (k := ?_) | refine dr 4 (k := ?_) | refine dr 5 (k := ?_) | refine dr 6 (k := ?_) | refine dr 7 (k := ?_) | refine dr 8 (k := ?_) | refine dr 9 (k := ?_) | refine dr 10 (k := ?_) | refine dr 11 (k := ?_) | refine dr 12 (k := ?_) | fail))); (all_goals (try (conv => whnf))); (all_goals (try exact trivial))
          · refine ⟨k + 1, ⟨⟨by omega, fun d h1 h2 => ?_⟩, by dsimp only; omega⟩, some [some 0, some 1], ?_⟩
            · rcases Int.lt_or_eq_of_le (show d ≤ k by omega) with h3 | rfl
              · exact hk2 d h1 h3
              · exact ⟨Classical.not_not.1 hh, Classical.not_not.1 hc⟩
            · (repeat' ((conv => whnf); (first | ((with_reducible refine spl (fun hc => ?_) (fun hc => ?_)) <;> (try (exfalso; omega))) | ((with_reducible refine spl' (fun hc => ?_) (fun hc => ?_)) <;> (try (exfalso; omega))) | (with_reducible refine imp_intro (fun hc => ?_)) | refine vc (k := ?_) | refine dr 1 (k := ?_) | refine dr 2 (k := ?_) | refine dr 3 (k := ?_) | refine dr 4 (k := ?_) | refine dr 5 (k := ?_) | refine dr 6 (k := ?_) | refine dr 7 (k := ?_) | refine dr 8 (k := ?_) | refine dr 9 (k := ?_) | refine dr 10 (k := ?_) | refine dr 11 (k := ?_) | refine dr 12 (k := ?_) | fail))); (all_goals (try (conv => whnf))); (all_goals (try exact trivial))
        · rename_i hkK
          refine ⟨c + 1, ⟨⟨by omega, fun d h1 h2 => ?_⟩, by dsimp only; omega⟩, some [some 0, some 1], ?_⟩
          · rcases Int.lt_or_eq_of_le (show d ≤ c by omega) with h3 | rfl
            · exact hc2 d h1 h3
            · exact bad (fun h => hc h.1) hkK
          · (repeat' ((conv => whnf); (first | ((with_reducible refine spl (fun hc => ?_) (fun hc => ?_)) <;> (try (exfalso; omega))) | ((with_reducible refine spl' (fun hc => ?_) (fun hc => ?_)) <;> (try (exfalso; omega))) | (with_reducible refine imp_intro (fun hc => ?_)) | refine vc (k := ?_) | refine dr 1 (k := ?_) | refine dr 2 (k := ?_) | refine dr 3 (k := ?_) | refine dr 4 (k := ?_) | refine dr 5 (k := ?_) | refine dr 6 (k := ?_) | refine dr 7 (k := ?_) | refine dr 8 (k := ?_) | refine dr 9 (k := ?_) | refine dr 10 (k := ?_) | refine dr 11 (k := ?_) | refine dr 12 (k := ?_) | fail))); (all_goals (try (conv => whnf))); (all_goals (try exact trivial))
        · have hg : a.IsCmd p x v c := ⟨hc1.1, by omega, fun d h1 h2 => hk2 d h1 (by omega), hc2⟩
          refine ⟨(a.cmd_eq hg).symm, ⟨c, hg.1, hg.2.1, hg.2.2.1⟩, trivial⟩
    · have hn : ¬ a.Can p x v := fun ⟨d, h1, h2, h3⟩ => hc2 d h1 (by omega) h3
      refine ⟨_, rfl, ?_⟩
      (repeat' ((conv => whnf); (first | ((with_reducible refine spl (fun hc => ?_) (fun hc => ?_)) <;> (try (exfalso; omega))) | ((with_reducible refine spl' (fun hc => ?_) (fun hc => ?_)) <;> (try (exfalso; omega))) | (with_reducible refine imp_intro (fun hc => ?_)) | refine vc (k := ?_) | refine dr 1 (k := ?_) | refine dr 2 (k := ?_) | refine dr 3 (k := ?_) | refine dr 4 (k := ?_) | refine dr 5 (k := ?_) | refine dr 6 (k := ?_) | refine dr 7 (k := ?_) | refine dr 8 (k := ?_) | refine dr 9 (k := ?_) | refine dr 10 (k := ?_) | refine dr 11 (k := ?_) | refine dr 12 (k := ?_) | fail))); (all_goals (try (conv => whnf))); (all_goals (try exact trivial))
      exact ⟨(a.cmd_none hn).symm, hn, trivial⟩
end Go.Proofs
