/- Own work: a text of the proof of a law (ArmC3). -/
import Derived.Test.YtghddmaihcjmlaaArmC2
namespace Go.Proofs
open Go Go.Sx
set_option maxRecDepth 100000

/-- a set of states, as one of keys -/
def onK (A : Int → Int → Prop) : List Int → Prop
  | [x, v] => A x v
  | _ => False

/-- on track for a target -/
def Arm.Track (a : Arm) (t x v : Int) : Prop := (-a.G ≤ x - t ∧ x - t ≤ a.G) ∧ -a.W ≤ v ∧ v ≤ a.W
instance (a : Arm) (t x v : Int) : Decidable (a.Track t x v) := by unfold Arm.Track; infer_instance

theorem track60 (a : Arm) (ha : a.Ok) (t : Int) (ht : 0 ≤ t ∧ t ≤ a.L) (x v : Int) (h : a.Has x v) : PureC Try.prog 60 false [spotV x v, .iptr [.int .i64 t], .iptr [.int .i64 a.L, .int .i64 a.S, .int .i64 a.F, .int .i64 a.K, .int .i64 a.G, .int .i64 a.W]] (· = .prop (a.Track t x v) (Classical.propDecidable _)) := by
  have hL := ha.L
  have hS := ha.S
  have hG := ha.G
  have hW := ha.W
  obtain ⟨hx1, hx2⟩ := id h
  refine pureC_of_exec Try.E_ok Try.func60 rfl (by kernel_rfl) ?_
  (repeat' ((conv => whnf); (first | ((with_reducible refine spl (fun hc => ?_) (fun hc => ?_)) <;> (try (exfalso; omega))) | ((with_reducible refine spl' (fun hc => ?_) (fun hc => ?_)) <;> (try (exfalso; omega))) | (with_reducible refine imp_intro (fun hc => ?_)) | refine vc (k := ?_) | refine dr 1 (k := ?_) | refine dr 2 (k := ?_) | refine dr 3 (k := ?_) | refine dr 4 (k := ?_) | refine dr 5 (k := ?_) | refine dr 6 (k := ?_) | refine dr 7 (k := ?_) | refine dr 8 (k := ?_) | refine dr 9 (k := ?_) | refine dr 10 (k := ?_) | refine dr 11 (k := ?_) | refine dr 12 (k := ?_) | fail))); (all_goals (try (conv => whnf))); (all_goals (try exact trivial)); (repeat' ((first | (refine callee_fo (within42 _ _ _) rfl ?_; rintro _ rfl) | (refine pcall_intro (within42 _ _ _) rfl ?_) | (refine pcall_soft (fun _ => within42 _ _ _) rfl ?_)); (repeat' ((conv => whnf); (first | ((with_reducible refine spl (fun hc => ?_) (fun hc => ?_)) <;> (try (exfalso; omega))) | ((with_reducible refine spl' (fun hc => ?_) (fun hc => ?_)) <;> (try (exfalso; omega))) | (with_reducible refine imp_intro (fun hc => ?_)) | refine vc (k := ?_) | refine dr 1 (k := ?_) | refine dr 2 (k := ?_) | refine dr 3 (k := ?_) | refine dr 4 (k := ?_) | refine dr 5 (k := ?_) | refine dr 6 (k := ?_) | refine dr 7 (k := ?_) | refine dr 8 (k := ?_) | refine dr 9 (k := ?_) | refine dr 10 (k := ?_) | refine dr 11 (k := ?_) | refine dr 12 (k := ?_) | fail))); (all_goals (try (conv => whnf))); (all_goals (try exact trivial)))); (all_goals (try (refine ⟨_, rfl, ?_⟩; (repeat' ((conv => whnf); (first | ((with_reducible refine spl (fun hc => ?_) (fun hc => ?_)) <;> (try (exfalso; omega))) | ((with_reducible refine spl' (fun hc => ?_) (fun hc => ?_)) <;> (try (exfalso; omega))) | (with_reducible refine imp_intro (fun hc => ?_)) | refine vc (k := ?_) | refine dr 1 (k := ?_) | refine dr 2 (k := ?_) | refine dr 3 (k := ?_) | refine dr 4 (k := ?_) | refine dr 5 (k := ?_) | refine dr 6 (k := ?_) | refine dr 7 (k := ?_) | refine dr 8 (k := ?_) | refine dr 9 (k := ?_) | refine dr 10 (k := ?_) | refine dr 11 (k := ?_) | refine dr 12 (k := ?_) | fail))); (all_goals (try (conv => whnf))); (all_goals (try exact trivial)))))
  · exact ⟨⟨fun h => ⟨hc, h⟩, fun h => h.2⟩, trivial⟩
  · exact ⟨fun h => hc h.1, trivial⟩

theorem plain_of {g : FuncId} {fn : Func} (hf : Try.prog.funcs[g]? = some fn) (hn : (fn.name == "runtime.NumGoroutine") = false) (hb : fn.body.isNone = false) : Plain Try.prog g := ⟨fn, hf, hn, hb⟩

theorem track43 (a : Arm) (ha : a.Ok) (t : Int) (ht : 0 ≤ t ∧ t ≤ a.L) : PureC Try.prog 43 false [a.v, .int .i64 t] (· = .sem (TellD a (a.Track t))) := by
  refine pureC_of_exec Try.E_ok Try.func43 rfl (by kernel_rfl) ?_
  (repeat' ((conv => whnf); (first | ((with_reducible refine spl (fun hc => ?_) (fun hc => ?_)) <;> (try (exfalso; omega))) | ((with_reducible refine spl' (fun hc => ?_) (fun hc => ?_)) <;> (try (exfalso; omega))) | (with_reducible refine imp_intro (fun hc => ?_)) | refine vc (k := ?_) | refine dr 1 (k := ?_) | refine dr 2 (k := ?_) | refine dr 3 (k := ?_) | refine dr 4 (k := ?_) | refine dr 5 (k := ?_) | refine dr 6 (k := ?_) | refine dr 7 (k := ?_) | refine dr 8 (k := ?_) | refine dr 9 (k := ?_) | refine dr 10 (k := ?_) | refine dr 11 (k := ?_) | refine dr 12 (k := ?_) | fail))); (all_goals (try (conv => whnf))); (all_goals (try exact trivial))
  refine ⟨_, rfl, ?_, trivial⟩
  refine semOb_fn (a' := []) (b' := [.iptr [.int .i64 t], .iptr [.int .i64 a.L, .int .i64 a.S, .int .i64 a.F, .int .i64 a.K, .int .i64 a.G, .int .i64 a.W]]) (fun i => track60 a ha t ht i.1.1 i.1.2 i.2) (plain_of Try.func60 (by kernel_rfl) (by kernel_rfl)) ?_
  (repeat' ((conv => whnf); (first | ((with_reducible refine spl (fun hc => ?_) (fun hc => ?_)) <;> (try (exfalso; omega))) | ((with_reducible refine spl' (fun hc => ?_) (fun hc => ?_)) <;> (try (exfalso; omega))) | (with_reducible refine imp_intro (fun hc => ?_)) | refine vc (k := ?_) | refine dr 1 (k := ?_) | refine dr 2 (k := ?_) | refine dr 3 (k := ?_) | refine dr 4 (k := ?_) | refine dr 5 (k := ?_) | refine dr 6 (k := ?_) | refine dr 7 (k := ?_) | refine dr 8 (k := ?_) | refine dr 9 (k := ?_) | refine dr 10 (k := ?_) | refine dr 11 (k := ?_) | refine dr 12 (k := ?_) | fail))); (all_goals (try (conv => whnf))); (all_goals (try exact trivial))

theorem all40 (x v : Int) : PureC Try.prog 40 false [spotV x v] (· = .prop True (Classical.propDecidable _)) := by
  refine pureC_of_exec Try.E_ok Try.func40 rfl (by kernel_rfl) ?_
  (repeat' ((conv => whnf); (first | ((with_reducible refine spl (fun hc => ?_) (fun hc => ?_)) <;> (try (exfalso; omega))) | ((with_reducible refine spl' (fun hc => ?_) (fun hc => ?_)) <;> (try (exfalso; omega))) | (with_reducible refine imp_intro (fun hc => ?_)) | refine vc (k := ?_) | refine dr 1 (k := ?_) | refine dr 2 (k := ?_) | refine dr 3 (k := ?_) | refine dr 4 (k := ?_) | refine dr 5 (k := ?_) | refine dr 6 (k := ?_) | refine dr 7 (k := ?_) | refine dr 8 (k := ?_) | refine dr 9 (k := ?_) | refine dr 10 (k := ?_) | refine dr 11 (k := ?_) | refine dr 12 (k := ?_) | fail))); (all_goals (try (conv => whnf))); (all_goals (try exact trivial))
  refine ⟨_, rfl, ?_⟩
  (repeat' ((conv => whnf); (first | ((with_reducible refine spl (fun hc => ?_) (fun hc => ?_)) <;> (try (exfalso; omega))) | ((with_reducible refine spl' (fun hc => ?_) (fun hc => ?_)) <;> (try (exfalso; omega))) | (with_reducible refine imp_intro (fun hc => ?_)) | refine vc (k := ?_) | refine dr 1 (k := ?_) | refine dr 2 (k := ?_) | refine dr 3 (k := ?_) | refine dr 4 (k := ?_) | refine dr 5 (k := ?_) | refine dr 6 (k := ?_) | refine dr 7 (k := ?_) | refine dr 8 (k := ?_) | refine dr 9 (k := ?_) | refine dr 10 (k := ?_) | refine dr 11 (k := ?_) | refine dr 12 (k := ?_) | fail))); (all_goals (try (conv => whnf))); (all_goals (try exact trivial))
end Go.Proofs
