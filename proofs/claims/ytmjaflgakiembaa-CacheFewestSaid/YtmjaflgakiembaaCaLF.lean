/- The law CacheFewest returns true for every input, and leaves its arguments as they were (layer 8). No condition. -/
import Derived.Test.YtmjaflgakiembaaCaLFPart22

namespace Go.Proofs.Ytmjaflgakiembaa
open Go Go.Sx Go.Proofs
set_option maxRecDepth 100000
theorem cacheFewest_pure (y : TS.Vals [tsCache, .slice tsPair]) (hy : TS.wfs [tsCache, .slice tsPair] y) : ∃ keep, PureC Try.prog 3 keep (TS.args [tsCache, .slice tsPair] y) (· = .prop True inferInstance) := by
  obtain ⟨⟨n, l, _⟩, d, _⟩ := y
  refine ⟨_, PureC.view (Fewest3 ⟨n, toW l⟩ (toW_le l hy.1.2.1.1) (toW d) (toW_le d hy.2.1.1)) ?_⟩
  (repeat' ((conv => whnf); (first | (with_reducible first | refine spl (fun hc => ?_) fun hc => ?_ | refine spl' (fun hc => ?_) fun hc => ?_) <;> try (exfalso; omega) | with_reducible refine iJ fun hc => ?_ | refine vcq (k := ?_) | fail))); all_goals ((try conv => whnf); try with_reducible exact trivial)
  refine ⟨toW_length l, fun i _ => rowW l i, ?_⟩
  (repeat' ((conv => whnf); (first | (with_reducible first | refine spl (fun hc => ?_) fun hc => ?_ | refine spl' (fun hc => ?_) fun hc => ?_) <;> try (exfalso; omega) | with_reducible refine iJ fun hc => ?_ | refine vcq (k := ?_) | fail))); all_goals ((try conv => whnf); try with_reducible exact trivial)
  refine ⟨toW_length d, fun i _ => rowW d i, ?_⟩
  (repeat' ((conv => whnf); (first | (with_reducible first | refine spl (fun hc => ?_) fun hc => ?_ | refine spl' (fun hc => ?_) fun hc => ?_) <;> try (exfalso; omega) | with_reducible refine iJ fun hc => ?_ | refine vcq (k := ?_) | fail))); all_goals ((try conv => whnf); try with_reducible exact trivial)
theorem cacheFewest_lifted (os : Os) (started : os.Started) (H : Type) (enc : TypeId × Value → H) :
    ReturnsInHanded {} Try.checked os 3 .any (Rows.cacheFewestSpec.pre6 enc Try.prog Try.f3 Rows.cacheFewestRow.domain false) (Rows.cacheFewestSpec.post enc Try.prog Try.f3 false true false false) := by
  refine returnsInHanded_of_change (C := Try.checked) ownKnob_none started (by kernel_rfl) Try.func3
    (ChangeSpec.witness6 (enc := enc) (C := Try.checked) false ⟨#[], #[zeroCache, zeroSl], []⟩ 8 (by kernel_rfl) (by kernel_rfl) (by kernel_rfl) (by kernel_rfl)) ?_
  intro W base args ds gs before hval hW _ _
  exact contract_of_pure (ss := [tsCache, .slice tsPair]) (tb := 4) rfl (by kernel_rfl) (by kernel_rfl) under4
    (fun H ds h => match ds, h with | [_, _], _ => ⟨rfl, rfl, rfl⟩) cacheFewest_pure W base args ds gs before hval hW
theorem cacheFewest_holds : Rows.CacheFewestSaid :=
  OpenClaim.holds_of_wide 3 Try.f3 rfl rfl rfl rfl rfl rfl rfl ⟨rfl, rfl, rfl, rfl, rfl⟩ rfl rfl rfl rfl rfl (by kernel_rfl) Try.func3 (by kernel_rfl)
    (of_decide_eq_true (by kernel_rfl)) (by unfold Func.isWrapper; first | (rw [if_pos (by decide +kernel)]; kernel_rfl) | (rw [if_neg (by decide +kernel)]; exact ⟨rfl, rfl⟩))
    (fun os started H enc _ => cacheFewest_lifted os started H enc)
end Go.Proofs.Ytmjaflgakiembaa

