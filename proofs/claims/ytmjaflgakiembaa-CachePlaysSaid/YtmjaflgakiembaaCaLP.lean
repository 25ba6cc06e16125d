/- The law CachePlays returns true for every input, and leaves its arguments as they were (layer 8). No condition. -/
import Derived.Test.YtmjaflgakiembaaCaLPPart24

namespace Go.Proofs.Ytmjaflgakiembaa
open Go Go.Sx Go.Proofs
set_option maxRecDepth 100000
theorem cachePlays_pure (y : TS.Vals [tsCache, tsFall]) (hy : TS.wfs [tsCache, tsFall] y) : ∃ keep, PureC Try.prog 10 keep (TS.args [tsCache, tsFall] y) (· = .prop True inferInstance) := by
  obtain ⟨⟨n, l, _⟩, ⟨d, torn, _⟩, _⟩ := y
  refine ⟨_, PureC.view (Plays10 ⟨n, toW l⟩ (toW_le l hy.1.2.1.1) (toW d) (toW_le d hy.2.1.1.1) torn) ?_⟩
  (repeat' ((conv => whnf); (first | (with_reducible first | refine spl (fun hc => ?_) fun hc => ?_ | refine spl' (fun hc => ?_) fun hc => ?_) <;> try (exfalso; omega) | with_reducible refine iJ fun hc => ?_ | refine vcq (k := ?_) | fail))); all_goals ((try conv => whnf); try with_reducible exact trivial)
  refine ⟨toW_length l, fun i _ => rowW l i, ?_⟩
  (repeat' ((conv => whnf); (first | (with_reducible first | refine spl (fun hc => ?_) fun hc => ?_ | refine spl' (fun hc => ?_) fun hc => ?_) <;> try (exfalso; omega) | with_reducible refine iJ fun hc => ?_ | refine vcq (k := ?_) | fail))); all_goals ((try conv => whnf); try with_reducible exact trivial)
  refine ⟨toW_length d, fun i _ => rowW d i, ?_⟩
  (repeat' ((conv => whnf); (first | (with_reducible first | refine spl (fun hc => ?_) fun hc => ?_ | refine spl' (fun hc => ?_) fun hc => ?_) <;> try (exfalso; omega) | with_reducible refine iJ fun hc => ?_ | refine vcq (k := ?_) | fail))); all_goals ((try conv => whnf); try with_reducible exact trivial)
theorem cachePlays_lifted (os : Os) (started : os.Started) (H : Type) (enc : TypeId × Value → H) :
    ReturnsInHanded {} Try.checked os 10 .any (Rows.cachePlaysSpec.pre6 enc Try.prog Try.f10 Rows.cachePlaysRow.domain false) (Rows.cachePlaysSpec.post enc Try.prog Try.f10 false true false false) := by
  refine returnsInHanded_of_change (C := Try.checked) ownKnob_none started (by kernel_rfl) Try.func10
    (ChangeSpec.witness6 (enc := enc) (C := Try.checked) false ⟨#[], #[zeroCache, zeroFall], []⟩ 8 (by kernel_rfl) (by kernel_rfl) (by kernel_rfl) (by kernel_rfl)) ?_
  intro W base args ds gs before hval hW _ _
  exact contract_of_pure (ss := [tsCache, tsFall]) (tb := 4) rfl (by kernel_rfl) (by kernel_rfl) under4
    (fun H ds h => match ds, h with | [_, _], _ => ⟨rfl, rfl, rfl⟩) cachePlays_pure W base args ds gs before hval hW
theorem cachePlays_holds : Rows.CachePlaysSaid :=
  OpenClaim.holds_of_wide 10 Try.f10 rfl rfl rfl rfl rfl rfl rfl ⟨rfl, rfl, rfl, rfl, rfl⟩ rfl rfl rfl rfl rfl (by kernel_rfl) Try.func10 (by kernel_rfl)
    (of_decide_eq_true (by kernel_rfl)) (by unfold Func.isWrapper; first | (rw [if_pos (by decide +kernel)]; kernel_rfl) | (rw [if_neg (by decide +kernel)]; exact ⟨rfl, rfl⟩))
    (fun os started H enc _ => cachePlays_lifted os started H enc)
end Go.Proofs.Ytmjaflgakiembaa

