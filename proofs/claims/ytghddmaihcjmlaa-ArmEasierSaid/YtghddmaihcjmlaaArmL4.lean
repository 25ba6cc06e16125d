/- The law ArmEasier of layer 6 returns true for every input, and leaves its arguments as they were. No condition. -/
import Derived.Test.YtghddmaihcjmlaaArmD1
import Derived.Test.YtghddmaihcjmlaaArmL
namespace Go.Proofs.Ytghddmaihcjmlaa
open Go Go.Sx Go.Proofs

theorem armEasier_pure (y : TS.Vals [tsArm, tsEase, tsSeek]) (_hy : TS.wfs [tsArm, tsEase, tsSeek] y) : ∃ keep, PureC Try.prog 4 keep (TS.args [tsArm, tsEase, tsSeek] y) (· = .prop True inferInstance) := by
  obtain ⟨⟨l, s, f, k, g, w, _⟩, ⟨e1, e2, e3, e4, _⟩, ⟨t, ⟨x, v, _⟩, sh, _⟩, _⟩ := y
  exact ⟨false, easier4 ⟨l, s, f, k, g, w⟩ ⟨e1, e2, e3, e4⟩ t x v sh⟩

theorem armEasier_lifted (os : Os) (started : os.Started) (H : Type) (enc : TypeId × Value → H) :
    ReturnsInHanded {} Try.checked os 4 .any (Rows.armEasierSpec.pre6 enc Try.prog Try.f4 Rows.armEasierRow.domain false) (Rows.armEasierSpec.post enc Try.prog Try.f4 false true false false) := by
  refine returnsInHanded_of_change (C := Try.checked) ownKnob_none started (by kernel_rfl) Try.func4
    (ChangeSpec.witness6 (enc := enc) (C := Try.checked) false ⟨#[], #[zeroArm, zeroEase, zeroSeek], []⟩ 8 (by kernel_rfl) (by kernel_rfl) (by kernel_rfl) (by kernel_rfl)) ?_
  intro W base args ds gs before hval hW _ _
  exact contract_of_pure (ss := [tsArm, tsEase, tsSeek]) (tb := 4) rfl (by kernel_rfl) (by kernel_rfl) under4
    (fun H ds h => match ds, h with | [_, _, _], _ => ⟨rfl, rfl, rfl⟩) armEasier_pure W base args ds gs before hval hW

theorem armEasier_holds : Rows.ArmEasierSaid :=
  OpenClaim.holds_of_wide 4 Try.f4 rfl rfl rfl rfl rfl rfl rfl ⟨rfl, rfl, rfl, rfl, rfl⟩ rfl rfl rfl rfl rfl (by kernel_rfl) Try.func4 (by kernel_rfl)
    (of_decide_eq_true (by kernel_rfl)) (by unfold Func.isWrapper; first | (rw [if_pos (by decide +kernel)]; kernel_rfl) | (rw [if_neg (by decide +kernel)]; exact ⟨rfl, rfl⟩))
    (fun os started H enc _ => armEasier_lifted os started H enc)
end Go.Proofs.Ytghddmaihcjmlaa
