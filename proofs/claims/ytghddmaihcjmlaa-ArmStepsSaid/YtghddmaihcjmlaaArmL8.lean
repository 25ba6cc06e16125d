/- The law ArmSteps returns true for every input, and leaves its arguments as they were (layer 6). No condition. -/
import Derived.Test.YtghddmaihcjmlaaArmP2
import Derived.Test.YtghddmaihcjmlaaArmL
namespace Go.Proofs.Ytghddmaihcjmlaa
open Go Go.Sx Go.Proofs

theorem armSteps_pure (y : TS.Vals [tsArm, tsSeek]) (hy : TS.wfs [tsArm, tsSeek] y) : ∃ keep, PureC Try.prog 10 keep (TS.args [tsArm, tsSeek] y) (· = .prop True inferInstance) := by
  obtain ⟨⟨l, s, f, k, g, w, _⟩, ⟨t, ⟨x, v, _⟩, sh, _⟩, _⟩ := y
  exact ⟨_, armSteps10 ⟨l, s, f, k, g, w⟩ t x v sh (Nat.le_trans hy.2.1.2.2.1.1 (by decide))⟩

theorem armSteps_lifted (os : Os) (started : os.Started) (H : Type) (enc : TypeId × Value → H) :
    ReturnsInHanded {} Try.checked os 10 .any (Rows.armStepsSpec.pre6 enc Try.prog Try.f10 Rows.armStepsRow.domain false) (Rows.armStepsSpec.post enc Try.prog Try.f10 false true false false) := by
  refine returnsInHanded_of_change (C := Try.checked) ownKnob_none started (by kernel_rfl) Try.func10
    (ChangeSpec.witness6 (enc := enc) (C := Try.checked) false ⟨#[], #[zeroArm, zeroSeek], []⟩ 8 (by kernel_rfl) (by kernel_rfl) (by kernel_rfl) (by kernel_rfl)) ?_
  intro W base args ds gs before hval hW _ _
  exact contract_of_pure (ss := [tsArm, tsSeek]) (tb := 4) rfl (by kernel_rfl) (by kernel_rfl) under4
    (fun H ds h => match ds, h with | [_, _], _ => ⟨rfl, rfl, rfl⟩) armSteps_pure W base args ds gs before hval hW

theorem armSteps_holds : Rows.ArmStepsSaid :=
  OpenClaim.holds_of_wide 10 Try.f10 rfl rfl rfl rfl rfl rfl rfl ⟨rfl, rfl, rfl, rfl, rfl⟩ rfl rfl rfl rfl rfl (by kernel_rfl) Try.func10 (by kernel_rfl)
    (of_decide_eq_true (by kernel_rfl)) (by unfold Func.isWrapper; first | (rw [if_pos (by decide +kernel)]; kernel_rfl) | (rw [if_neg (by decide +kernel)]; exact ⟨rfl, rfl⟩))
    (fun os started H enc _ => armSteps_lifted os started H enc)
end Go.Proofs.Ytghddmaihcjmlaa
