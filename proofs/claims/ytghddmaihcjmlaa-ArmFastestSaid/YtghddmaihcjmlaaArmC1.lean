/- Own work: a text of the proof of a law (ArmC1). -/
import Derived.Test.YtghddmaihcjmlaaSxEnv
import Derived.Test.YtghddmaihcjmlaaSxAid
namespace Go.Proofs
open Go Go.Sx
set_option maxRecDepth 100000

/-- an arm -/
structure Arm where
  L : Int
  S : Int
  F : Int
  K : Int
  G : Int
  W : Int

def Arm.v (a : Arm) : V := .agg [.int .i64 a.L, .int .i64 a.S, .int .i64 a.F, .int .i64 a.K, .int .i64 a.G, .int .i64 a.W]
def spotC (x v : Int) : List V := [.int .i64 x, .int .i64 v]
def spotV (x v : Int) : V := .agg [.int .i64 x, .int .i64 v]

/-- an arm that is valid -/
structure Arm.Ok (a : Arm) : Prop where
  L : 0 ≤ a.L ∧ a.L ≤ 40
  S : 0 ≤ a.S ∧ a.S ≤ 8
  F : 0 ≤ a.F ∧ a.F ≤ 4
  K : 0 ≤ a.K ∧ a.K ≤ 2
  G : 0 ≤ a.G ∧ a.G ≤ 4
  W : 0 ≤ a.W ∧ a.W ≤ a.S

def I64 (n : Int) : Prop := -9223372036854775808 ≤ n ∧ n ≤ 9223372036854775807

/-- the states of an arm -/
def Arm.Has (a : Arm) (x v : Int) : Prop := (0 ≤ x ∧ x ≤ a.L) ∧ -a.S ≤ v ∧ v ≤ a.S
instance (a : Arm) (x v : Int) : Decidable (a.Has x v) := by unfold Arm.Has; infer_instance

theorem within42 (n l h : Int) : PureC Try.prog 42 false [.int .i64 n, .int .i64 l, .int .i64 h] (· = .prop (l ≤ n ∧ n ≤ h) inferInstance) := by
  refine pureC_of_exec Try.E_ok Try.func42 rfl (by kernel_rfl) ?_
  (repeat' ((conv => whnf); (first | refine vc (k := ?_) | ((refine sp (fun hc => ?_) (fun hc => ?_)) <;> (try (exfalso; omega))) | ((refine sp' (fun hc => ?_) (fun hc => ?_)) <;> (try (exfalso; omega))) | refine imp_intro (fun hc => ?_) | refine dr 1 (k := ?_) | refine dr 2 (k := ?_) | refine dr 3 (k := ?_) | refine dr 4 (k := ?_) | refine dr 5 (k := ?_) | refine dr 6 (k := ?_) | refine dr 7 (k := ?_) | refine dr 8 (k := ?_) | refine dr 9 (k := ?_) | refine dr 10 (k := ?_) | refine dr 11 (k := ?_) | refine dr 12 (k := ?_) | fail))); (all_goals (try (conv => whnf))); (all_goals (try exact trivial))
  refine ⟨_, rfl, ?_⟩
  (repeat' ((conv => whnf); (first | refine vc (k := ?_) | ((refine sp (fun hc => ?_) (fun hc => ?_)) <;> (try (exfalso; omega))) | ((refine sp' (fun hc => ?_) (fun hc => ?_)) <;> (try (exfalso; omega))) | refine imp_intro (fun hc => ?_) | refine dr 1 (k := ?_) | refine dr 2 (k := ?_) | refine dr 3 (k := ?_) | refine dr 4 (k := ?_) | refine dr 5 (k := ?_) | refine dr 6 (k := ?_) | refine dr 7 (k := ?_) | refine dr 8 (k := ?_) | refine dr 9 (k := ?_) | refine dr 10 (k := ?_) | refine dr 11 (k := ?_) | refine dr 12 (k := ?_) | fail))); (all_goals (try (conv => whnf))); (all_goals (try exact trivial))

theorem within41 (n l h : Int) : PureC Try.prog 41 false [.int .i64 n, .int .i64 l, .int .i64 h] (· = .prop (l ≤ n ∧ n ≤ h) inferInstance) := by
  refine pureC_of_exec Try.E_ok Try.func41 rfl (by kernel_rfl) ?_
  (repeat' ((conv => whnf); (first | refine vc (k := ?_) | ((refine sp (fun hc => ?_) (fun hc => ?_)) <;> (try (exfalso; omega))) | ((refine sp' (fun hc => ?_) (fun hc => ?_)) <;> (try (exfalso; omega))) | refine imp_intro (fun hc => ?_) | refine dr 1 (k := ?_) | refine dr 2 (k := ?_) | refine dr 3 (k := ?_) | refine dr 4 (k := ?_) | refine dr 5 (k := ?_) | refine dr 6 (k := ?_) | refine dr 7 (k := ?_) | refine dr 8 (k := ?_) | refine dr 9 (k := ?_) | refine dr 10 (k := ?_) | refine dr 11 (k := ?_) | refine dr 12 (k := ?_) | fail))); (all_goals (try (conv => whnf))); (all_goals (try exact trivial))
  refine ⟨_, rfl, ?_⟩
  (repeat' ((conv => whnf); (first | refine vc (k := ?_) | ((refine sp (fun hc => ?_) (fun hc => ?_)) <;> (try (exfalso; omega))) | ((refine sp' (fun hc => ?_) (fun hc => ?_)) <;> (try (exfalso; omega))) | refine imp_intro (fun hc => ?_) | refine dr 1 (k := ?_) | refine dr 2 (k := ?_) | refine dr 3 (k := ?_) | refine dr 4 (k := ?_) | refine dr 5 (k := ?_) | refine dr 6 (k := ?_) | refine dr 7 (k := ?_) | refine dr 8 (k := ?_) | refine dr 9 (k := ?_) | refine dr 10 (k := ?_) | refine dr 11 (k := ?_) | refine dr 12 (k := ?_) | fail))); (all_goals (try (conv => whnf))); (all_goals (try exact trivial))

theorem has56 (a : Arm) (ha : a.Ok) (x v : Int) : PureC Try.prog 56 false [a.v, spotV x v] (· = .prop (a.Has x v) inferInstance) := by
  have hS := ha.S
  refine pureC_of_exec Try.E_ok Try.func56 rfl (by kernel_rfl) ?_
  (repeat' ((conv => whnf); (first | refine vc (k := ?_) | ((refine sp (fun hc => ?_) (fun hc => ?_)) <;> (try (exfalso; omega))) | ((refine sp' (fun hc => ?_) (fun hc => ?_)) <;> (try (exfalso; omega))) | refine imp_intro (fun hc => ?_) | refine dr 1 (k := ?_) | refine dr 2 (k := ?_) | refine dr 3 (k := ?_) | refine dr 4 (k := ?_) | refine dr 5 (k := ?_) | refine dr 6 (k := ?_) | refine dr 7 (k := ?_) | refine dr 8 (k := ?_) | refine dr 9 (k := ?_) | refine dr 10 (k := ?_) | refine dr 11 (k := ?_) | refine dr 12 (k := ?_) | fail))); (all_goals (try (conv => whnf))); (all_goals (try exact trivial)); (repeat' ((first | (refine callee_fo (within42 _ _ _) rfl ?_; rintro _ rfl) | (refine pcall_intro (within42 _ _ _) rfl ?_) | (refine pcall_soft (fun _ => within42 _ _ _) rfl ?_)); (repeat' ((conv => whnf); (first | refine vc (k := ?_) | ((refine sp (fun hc => ?_) (fun hc => ?_)) <;> (try (exfalso; omega))) | ((refine sp' (fun hc => ?_) (fun hc => ?_)) <;> (try (exfalso; omega))) | refine imp_intro (fun hc => ?_) | refine dr 1 (k := ?_) | refine dr 2 (k := ?_) | refine dr 3 (k := ?_) | refine dr 4 (k := ?_) | refine dr 5 (k := ?_) | refine dr 6 (k := ?_) | refine dr 7 (k := ?_) | refine dr 8 (k := ?_) | refine dr 9 (k := ?_) | refine dr 10 (k := ?_) | refine dr 11 (k := ?_) | refine dr 12 (k := ?_) | fail))); (all_goals (try (conv => whnf))); (all_goals (try exact trivial)))); (all_goals (try (refine ⟨_, rfl, ?_⟩; (repeat' ((conv => whnf); (first | refine vc (k := ?_) | ((refine sp (fun hc => ?_) (fun hc => ?_)) <;> (try (exfalso; omega))) | ((refine sp' (fun hc => ?_) (fun hc => ?_)) <;> (try (exfalso; omega))) | refine imp_intro (fun hc => ?_) | refine dr 1 (k := ?_) | refine dr 2 (k := ?_) | refine dr 3 (k := ?_) | refine dr 4 (k := ?_) | refine dr 5 (k := ?_) | refine dr 6 (k := ?_) | refine dr 7 (k := ?_) | refine dr 8 (k := ?_) | refine dr 9 (k := ?_) | refine dr 10 (k := ?_) | refine dr 11 (k := ?_) | refine dr 12 (k := ?_) | fail))); (all_goals (try (conv => whnf))); (all_goals (try exact trivial)))))
  · exact ⟨⟨fun h => ⟨hc, h⟩, fun h => h.2⟩, trivial⟩
  · exact ⟨fun h => hc h.1, trivial⟩

theorem isState17 (a : Arm) (ha : a.Ok) (x v : Int) : PureC Try.prog 17 false [a.v, spotV x v] (· = .prop (a.Has x v) inferInstance) := by
  have hS := ha.S
  refine pureC_of_exec Try.E_ok Try.func17 rfl (by kernel_rfl) ?_
  (repeat' ((conv => whnf); (first | refine vc (k := ?_) | ((refine sp (fun hc => ?_) (fun hc => ?_)) <;> (try (exfalso; omega))) | ((refine sp' (fun hc => ?_) (fun hc => ?_)) <;> (try (exfalso; omega))) | refine imp_intro (fun hc => ?_) | refine dr 1 (k := ?_) | refine dr 2 (k := ?_) | refine dr 3 (k := ?_) | refine dr 4 (k := ?_) | refine dr 5 (k := ?_) | refine dr 6 (k := ?_) | refine dr 7 (k := ?_) | refine dr 8 (k := ?_) | refine dr 9 (k := ?_) | refine dr 10 (k := ?_) | refine dr 11 (k := ?_) | refine dr 12 (k := ?_) | fail))); (all_goals (try (conv => whnf))); (all_goals (try exact trivial)); (repeat' ((first | (refine callee_fo (within41 _ _ _) rfl ?_; rintro _ rfl) | (refine pcall_intro (within41 _ _ _) rfl ?_) | (refine pcall_soft (fun _ => within41 _ _ _) rfl ?_)); (repeat' ((conv => whnf); (first | refine vc (k := ?_) | ((refine sp (fun hc => ?_) (fun hc => ?_)) <;> (try (exfalso; omega))) | ((refine sp' (fun hc => ?_) (fun hc => ?_)) <;> (try (exfalso; omega))) | refine imp_intro (fun hc => ?_) | refine dr 1 (k := ?_) | refine dr 2 (k := ?_) | refine dr 3 (k := ?_) | refine dr 4 (k := ?_) | refine dr 5 (k := ?_) | refine dr 6 (k := ?_) | refine dr 7 (k := ?_) | refine dr 8 (k := ?_) | refine dr 9 (k := ?_) | refine dr 10 (k := ?_) | refine dr 11 (k := ?_) | refine dr 12 (k := ?_) | fail))); (all_goals (try (conv => whnf))); (all_goals (try exact trivial)))); (all_goals (try (refine ⟨_, rfl, ?_⟩; (repeat' ((conv => whnf); (first | refine vc (k := ?_) | ((refine sp (fun hc => ?_) (fun hc => ?_)) <;> (try (exfalso; omega))) | ((refine sp' (fun hc => ?_) (fun hc => ?_)) <;> (try (exfalso; omega))) | refine imp_intro (fun hc => ?_) | refine dr 1 (k := ?_) | refine dr 2 (k := ?_) | refine dr 3 (k := ?_) | refine dr 4 (k := ?_) | refine dr 5 (k := ?_) | refine dr 6 (k := ?_) | refine dr 7 (k := ?_) | refine dr 8 (k := ?_) | refine dr 9 (k := ?_) | refine dr 10 (k := ?_) | refine dr 11 (k := ?_) | refine dr 12 (k := ?_) | fail))); (all_goals (try (conv => whnf))); (all_goals (try exact trivial)))))
  · exact ⟨⟨fun h => ⟨hc, h⟩, fun h => h.2⟩, trivial⟩
  · exact ⟨fun h => hc h.1, trivial⟩

theorem step53 (a : Arm) (ha : a.Ok) (x v c k : Int) (hx : -100 ≤ x ∧ x ≤ 100) (hv : -100 ≤ v ∧ v ≤ 100) (hc : -100 ≤ c ∧ c ≤ 100) (hk : -100 ≤ k ∧ k ≤ 100) : PureC Try.prog 53 false [a.v, spotV x v, .int .i64 c, .int .i64 k]
    (· = .tup [spotV (x + (v + (c + k))) (v + (c + k)), .prop (a.Has (x + (v + (c + k))) (v + (c + k))) inferInstance]) := by
  refine pureC_of_exec Try.E_ok Try.func53 rfl (by kernel_rfl) ?_
  (repeat' ((conv => whnf); (first | refine vc (k := ?_) | ((refine sp (fun hc => ?_) (fun hc => ?_)) <;> (try (exfalso; omega))) | ((refine sp' (fun hc => ?_) (fun hc => ?_)) <;> (try (exfalso; omega))) | refine imp_intro (fun hc => ?_) | refine dr 1 (k := ?_) | refine dr 2 (k := ?_) | refine dr 3 (k := ?_) | refine dr 4 (k := ?_) | refine dr 5 (k := ?_) | refine dr 6 (k := ?_) | refine dr 7 (k := ?_) | refine dr 8 (k := ?_) | refine dr 9 (k := ?_) | refine dr 10 (k := ?_) | refine dr 11 (k := ?_) | refine dr 12 (k := ?_) | fail))); (all_goals (try (conv => whnf))); (all_goals (try exact trivial)); (repeat' ((first | (refine callee_fo (has56 a ha _ _) rfl ?_; rintro _ rfl) | (refine pcall_intro (has56 a ha _ _) rfl ?_) | (refine pcall_soft (fun _ => has56 a ha _ _) rfl ?_)); (repeat' ((conv => whnf); (first | refine vc (k := ?_) | ((refine sp (fun hc => ?_) (fun hc => ?_)) <;> (try (exfalso; omega))) | ((refine sp' (fun hc => ?_) (fun hc => ?_)) <;> (try (exfalso; omega))) | refine imp_intro (fun hc => ?_) | refine dr 1 (k := ?_) | refine dr 2 (k := ?_) | refine dr 3 (k := ?_) | refine dr 4 (k := ?_) | refine dr 5 (k := ?_) | refine dr 6 (k := ?_) | refine dr 7 (k := ?_) | refine dr 8 (k := ?_) | refine dr 9 (k := ?_) | refine dr 10 (k := ?_) | refine dr 11 (k := ?_) | refine dr 12 (k := ?_) | fail))); (all_goals (try (conv => whnf))); (all_goals (try exact trivial)))); (all_goals (try (refine ⟨_, rfl, ?_⟩; (repeat' ((conv => whnf); (first | refine vc (k := ?_) | ((refine sp (fun hc => ?_) (fun hc => ?_)) <;> (try (exfalso; omega))) | ((refine sp' (fun hc => ?_) (fun hc => ?_)) <;> (try (exfalso; omega))) | refine imp_intro (fun hc => ?_) | refine dr 1 (k := ?_) | refine dr 2 (k := ?_) | refine dr 3 (k := ?_) | refine dr 4 (k := ?_) | refine dr 5 (k := ?_) | refine dr 6 (k := ?_) | refine dr 7 (k := ?_) | refine dr 8 (k := ?_) | refine dr 9 (k := ?_) | refine dr 10 (k := ?_) | refine dr 11 (k := ?_) | refine dr 12 (k := ?_) | fail))); (all_goals (try (conv => whnf))); (all_goals (try exact trivial)))))

theorem step14 (a : Arm) (ha : a.Ok) (x v c k : Int) (hx : -100 ≤ x ∧ x ≤ 100) (hv : -100 ≤ v ∧ v ≤ 100) (hc : -100 ≤ c ∧ c ≤ 100) (hk : -100 ≤ k ∧ k ≤ 100) : PureC Try.prog 14 false [a.v, spotV x v, .int .i64 c, .int .i64 k]
    (· = .tup [spotV (x + (v + c + k)) (v + c + k), .prop (a.Has (x + (v + c + k)) (v + c + k)) inferInstance]) := by
  refine pureC_of_exec Try.E_ok Try.func14 rfl (by kernel_rfl) ?_
  (repeat' ((conv => whnf); (first | refine vc (k := ?_) | ((refine sp (fun hc => ?_) (fun hc => ?_)) <;> (try (exfalso; omega))) | ((refine sp' (fun hc => ?_) (fun hc => ?_)) <;> (try (exfalso; omega))) | refine imp_intro (fun hc => ?_) | refine dr 1 (k := ?_) | refine dr 2 (k := ?_) | refine dr 3 (k := ?_) | refine dr 4 (k := ?_) | refine dr 5 (k := ?_) | refine dr 6 (k := ?_) | refine dr 7 (k := ?_) | refine dr 8 (k := ?_) | refine dr 9 (k := ?_) | refine dr 10 (k := ?_) | refine dr 11 (k := ?_) | refine dr 12 (k := ?_) | fail))); (all_goals (try (conv => whnf))); (all_goals (try exact trivial)); (repeat' ((first | (refine callee_fo (isState17 a ha _ _) rfl ?_; rintro _ rfl) | (refine pcall_intro (isState17 a ha _ _) rfl ?_) | (refine pcall_soft (fun _ => isState17 a ha _ _) rfl ?_)); (repeat' ((conv => whnf); (first | refine vc (k := ?_) | ((refine sp (fun hc => ?_) (fun hc => ?_)) <;> (try (exfalso; omega))) | ((refine sp' (fun hc => ?_) (fun hc => ?_)) <;> (try (exfalso; omega))) | refine imp_intro (fun hc => ?_) | refine dr 1 (k := ?_) | refine dr 2 (k := ?_) | refine dr 3 (k := ?_) | refine dr 4 (k := ?_) | refine dr 5 (k := ?_) | refine dr 6 (k := ?_) | refine dr 7 (k := ?_) | refine dr 8 (k := ?_) | refine dr 9 (k := ?_) | refine dr 10 (k := ?_) | refine dr 11 (k := ?_) | refine dr 12 (k := ?_) | fail))); (all_goals (try (conv => whnf))); (all_goals (try exact trivial)))); (all_goals (try (refine ⟨_, rfl, ?_⟩; (repeat' ((conv => whnf); (first | refine vc (k := ?_) | ((refine sp (fun hc => ?_) (fun hc => ?_)) <;> (try (exfalso; omega))) | ((refine sp' (fun hc => ?_) (fun hc => ?_)) <;> (try (exfalso; omega))) | refine imp_intro (fun hc => ?_) | refine dr 1 (k := ?_) | refine dr 2 (k := ?_) | refine dr 3 (k := ?_) | refine dr 4 (k := ?_) | refine dr 5 (k := ?_) | refine dr 6 (k := ?_) | refine dr 7 (k := ?_) | refine dr 8 (k := ?_) | refine dr 9 (k := ?_) | refine dr 10 (k := ?_) | refine dr 11 (k := ?_) | refine dr 12 (k := ?_) | fail))); (all_goals (try (conv => whnf))); (all_goals (try exact trivial)))))

theorem setHas52 (dom : List Int → Prop) (val : List Int → Int) (n : Nat) (x v : Int) : PureC Try.prog 52 false [.imap [.i64, .i64] true false dom (fun k => [.int .i64 (val k)]) n, spotV x v] (· = .prop (dom [x, v]) (Classical.propDecidable _)) := by
  refine pureC_of_exec Try.E_ok Try.func52 rfl (by kernel_rfl) ?_
  (repeat' ((conv => whnf); (first | refine vc (k := ?_) | ((refine sp (fun hc => ?_) (fun hc => ?_)) <;> (try (exfalso; omega))) | ((refine sp' (fun hc => ?_) (fun hc => ?_)) <;> (try (exfalso; omega))) | refine imp_intro (fun hc => ?_) | refine dr 1 (k := ?_) | refine dr 2 (k := ?_) | refine dr 3 (k := ?_) | refine dr 4 (k := ?_) | refine dr 5 (k := ?_) | refine dr 6 (k := ?_) | refine dr 7 (k := ?_) | refine dr 8 (k := ?_) | refine dr 9 (k := ?_) | refine dr 10 (k := ?_) | refine dr 11 (k := ?_) | refine dr 12 (k := ?_) | fail))); (all_goals (try (conv => whnf))); (all_goals (try exact trivial))
  refine ⟨_, rfl, ?_⟩
  (repeat' ((conv => whnf); (first | refine vc (k := ?_) | ((refine sp (fun hc => ?_) (fun hc => ?_)) <;> (try (exfalso; omega))) | ((refine sp' (fun hc => ?_) (fun hc => ?_)) <;> (try (exfalso; omega))) | refine imp_intro (fun hc => ?_) | refine dr 1 (k := ?_) | refine dr 2 (k := ?_) | refine dr 3 (k := ?_) | refine dr 4 (k := ?_) | refine dr 5 (k := ?_) | refine dr 6 (k := ?_) | refine dr 7 (k := ?_) | refine dr 8 (k := ?_) | refine dr 9 (k := ?_) | refine dr 10 (k := ?_) | refine dr 11 (k := ?_) | refine dr 12 (k := ?_) | fail))); (all_goals (try (conv => whnf))); (all_goals (try exact trivial))
end Go.Proofs
