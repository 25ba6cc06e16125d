/- The law ShingleAgain returns true for every input, and leaves its arguments as they were (layer 9). No condition. -/
import Derived.Test.YtdjkkkkhlgdopaaPart17

namespace Go.Proofs.Ytdjkkkkhlgdopaa
open Go Go.Sx Go.Proofs
set_option maxRecDepth 100000
-- SxAid2

theorem shingleAgain_pure (y : TS.Vals [tsBands, .slice tsWrite, .int .i64]) (hy : TS.wfs [tsBands, .slice tsWrite, .int .i64] y) : ∃ keep, PureC Try.prog 6 keep (TS.args [tsBands, .slice tsWrite, .int .i64] y) (· = .prop True inferInstance) := by
  obtain ⟨⟨B, T, K, C, L, _⟩, l, n, _⟩ := y
  refine ⟨_, PureC.view (again6 ⟨B, T, K, C, L⟩ (toW l) (toW_le l hy.2.1.1) n) ?_⟩
  (repeat' ((conv => whnf); (first | ((first | with_reducible refine spl (fun hc => ?_) (fun hc => ?_) | with_reducible refine spl' (fun hc => ?_) (fun hc => ?_)) <;> try (exfalso; omega)) | with_reducible refine imp_intro (fun hc => ?_) | refine vcq (k := ?_) | refine dr 1 (k := ?_) | refine dr 2 (k := ?_) | refine dr 3 (k := ?_) | refine dr 4 (k := ?_) | refine dr 5 (k := ?_) | refine dr 6 (k := ?_) | refine dr 7 (k := ?_) | refine dr 8 (k := ?_) | refine dr 9 (k := ?_) | refine dr 10 (k := ?_) | refine dr 11 (k := ?_) | refine dr 12 (k := ?_) | refine dr 1001 (k := ?_) | refine dr 1002 (k := ?_) | refine dr 1003 (k := ?_) | refine dr 1004 (k := ?_) | refine dr 1005 (k := ?_) | refine dr 1006 (k := ?_) | refine dr 1007 (k := ?_) | refine dr 1008 (k := ?_) | refine dr 1009 (k := ?_) | refine dr 1010 (k := ?_) | refine dr 1011 (k := ?_) | refine dr 1012 (k := ?_) | refine dr 1013 (k := ?_) | refine dr 1014 (k := ?_) | refine dr 1015 (k := ?_) | refine dr 1016 (k := ?_)))); all_goals (try conv => whnf); all_goals (try with_reducible exact trivial)
  refine ⟨toW_length l, fun i _ => rowW l i, ?_⟩
  (repeat' ((conv => whnf); (first | ((first | with_reducible refine spl (fun hc => ?_) (fun hc => ?_) | with_reducible refine spl' (fun hc => ?_) (fun hc => ?_)) <;> try (exfalso; omega)) | with_reducible refine imp_intro (fun hc => ?_) | refine vcq (k := ?_) | refine dr 1 (k := ?_) | refine dr 2 (k := ?_) | refine dr 3 (k := ?_) | refine dr 4 (k := ?_) | refine dr 5 (k := ?_) | refine dr 6 (k := ?_) | refine dr 7 (k := ?_) | refine dr 8 (k := ?_) | refine dr 9 (k := ?_) | refine dr 10 (k := ?_) | refine dr 11 (k := ?_) | refine dr 12 (k := ?_) | refine dr 1001 (k := ?_) | refine dr 1002 (k := ?_) | refine dr 1003 (k := ?_) | refine dr 1004 (k := ?_) | refine dr 1005 (k := ?_) | refine dr 1006 (k := ?_) | refine dr 1007 (k := ?_) | refine dr 1008 (k := ?_) | refine dr 1009 (k := ?_) | refine dr 1010 (k := ?_) | refine dr 1011 (k := ?_) | refine dr 1012 (k := ?_) | refine dr 1013 (k := ?_) | refine dr 1014 (k := ?_) | refine dr 1015 (k := ?_) | refine dr 1016 (k := ?_)))); all_goals (try conv => whnf); all_goals (try with_reducible exact trivial)

theorem shingleAgain_lifted (os : Os) (started : os.Started) (H : Type) (enc : TypeId × Value → H) :
    ReturnsInHanded {} Try.checked os 6 .any (Rows.shingleAgainSpec.pre6 enc Try.prog Try.f6 Rows.shingleAgainRow.domain false) (Rows.shingleAgainSpec.post enc Try.prog Try.f6 false true false false) := by
  refine returnsInHanded_of_change (C := Try.checked) ownKnob_none started (by kernel_rfl) Try.func6
    (ChangeSpec.witness6 (enc := enc) (C := Try.checked) false ⟨#[], #[zeroBands, zeroSl, zeroInt], []⟩ 8 (by kernel_rfl) (by kernel_rfl) (by kernel_rfl) (by kernel_rfl)) ?_
  intro W base args ds gs before hval hW _ _
  exact contract_of_pure (ss := [tsBands, .slice tsWrite, .int .i64]) (tb := 4) rfl (by kernel_rfl) (by kernel_rfl) under4
    (fun H ds h => match ds, h with | [_, _, _], _ => ⟨rfl, rfl, rfl⟩) shingleAgain_pure W base args ds gs before hval hW

theorem shingleAgain_holds : Rows.ShingleAgainSaid :=
  OpenClaim.holds_of_wide 6 Try.f6 rfl rfl rfl rfl rfl rfl rfl ⟨rfl, rfl, rfl, rfl, rfl⟩ rfl rfl rfl rfl rfl (by kernel_rfl) Try.func6 (by kernel_rfl)
    (of_decide_eq_true (by kernel_rfl)) (by unfold Func.isWrapper; first | (rw [if_pos (by decide +kernel)]; kernel_rfl) | (rw [if_neg (by decide +kernel)]; exact ⟨rfl, rfl⟩))
    (fun os started H enc _ => shingleAgain_lifted os started H enc)
end Go.Proofs.Ytdjkkkkhlgdopaa

