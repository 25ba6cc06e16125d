/- The law ArmStays returns true for every input, and leaves its arguments as they were (layer 6). No condition. -/
import Derived.Test.YtghddmaihcjmlaaArmS3
import Derived.Test.YtghddmaihcjmlaaArmL
namespace Go.Proofs.Ytghddmaihcjmlaa
open Go Go.Sx Go.Proofs

theorem armStays_pure (y : TS.Vals [tsArm, .int .i64]) (hy : TS.wfs [tsArm, .int .i64] y) : ∃ keep, PureC Try.prog 6 keep (TS.args [tsArm, .int .i64] y) (· = .prop True inferInstance) := by
  obtain ⟨⟨l, s, f, k, g, w, _⟩, t, _⟩ := y
  exact ⟨_, armStays6 ⟨l, s, f, k, g, w⟩ t⟩

theorem armStays_lifted (os : Os) (started : os.Started) (H : Type) (enc : TypeId × Value → H) :
    ReturnsInHanded {} Try.checked os 6 .any (Rows.armStaysSpec.pre6 enc Try.prog Try.f6 Rows.armStaysRow.domain false) (Rows.armStaysSpec.post enc Try.prog Try.f6 false true false false) := by
  refine returnsInHanded_of_change (C := Try.checked) ownKnob_none started (by kernel_rfl) Try.func6
    (ChangeSpec.witness6 (enc := enc) (C := Try.checked) false ⟨#[], #[zeroArm, .int .i64 0], []⟩ 8 (by kernel_rfl) (by kernel_rfl) (by kernel_rfl) (by kernel_rfl)) ?_
  intro W base args ds gs before hval hW _ _
  exact contract_of_pure (ss := [tsArm, .int .i64]) (tb := 4) rfl (by kernel_rfl) (by kernel_rfl) under4
    (fun H ds h => match ds, h with | [_, _], _ => ⟨rfl, rfl, rfl⟩) armStays_pure W base args ds gs before hval hW

theorem armStays_holds : Rows.ArmStaysSaid :=
  OpenClaim.holds_of_wide 6 Try.f6 rfl rfl rfl rfl rfl rfl rfl ⟨rfl, rfl, rfl, rfl, rfl⟩ rfl rfl rfl rfl rfl (by kernel_rfl) Try.func6 (by kernel_rfl)
    (of_decide_eq_true (by kernel_rfl)) (by unfold Func.isWrapper; first | (rw [if_pos (by decide +kernel)]; kernel_rfl) | (rw [if_neg (by decide +kernel)]; exact ⟨rfl, rfl⟩))
    (fun os started H enc _ => armStays_lifted os started H enc)
end Go.Proofs.Ytghddmaihcjmlaa
