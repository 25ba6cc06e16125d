/- The law ArmTable returns true for every input, and leaves its arguments as they were (layer 6). No condition. -/
import Derived.Test.YtghddmaihcjmlaaPart16

namespace Go.Proofs.Ytghddmaihcjmlaa
open Go Go.Sx Go.Proofs

theorem armTable_pure (y : TS.Vals [tsArm]) (hy : TS.wfs [tsArm] y) : ∃ keep, PureC Try.prog 8 keep (TS.args [tsArm] y) (· = .prop True inferInstance) := by
  obtain ⟨⟨l, s, f, k, g, w, _⟩, _⟩ := y
  exact ⟨_, table8 table26 ⟨l, s, f, k, g, w⟩⟩

theorem armTable_lifted (os : Os) (started : os.Started) (H : Type) (enc : TypeId × Value → H) :
    ReturnsInHanded {} Try.checked os 8 .any (Rows.armTableSpec.pre6 enc Try.prog Try.f8 Rows.armTableRow.domain false) (Rows.armTableSpec.post enc Try.prog Try.f8 false true false false) := by
  refine returnsInHanded_of_change (C := Try.checked) ownKnob_none started (by kernel_rfl) Try.func8
    (ChangeSpec.witness6 (enc := enc) (C := Try.checked) false ⟨#[], #[zeroArm], []⟩ 8 (by kernel_rfl) (by kernel_rfl) (by kernel_rfl) (by kernel_rfl)) ?_
  intro W base args ds gs before hval hW _ _
  exact contract_of_pure (ss := [tsArm]) (tb := 4) rfl (by kernel_rfl) (by kernel_rfl) under4
    (fun H ds h => match ds, h with | [_], _ => ⟨rfl, rfl, rfl⟩) armTable_pure W base args ds gs before hval hW

theorem armTable_holds : Rows.ArmTableSaid :=
  OpenClaim.holds_of_wide 8 Try.f8 rfl rfl rfl rfl rfl rfl rfl ⟨rfl, rfl, rfl, rfl, rfl⟩ rfl rfl rfl rfl rfl (by kernel_rfl) Try.func8 (by kernel_rfl)
    (of_decide_eq_true (by kernel_rfl)) (by unfold Func.isWrapper; first | (rw [if_pos (by decide +kernel)]; kernel_rfl) | (rw [if_neg (by decide +kernel)]; exact ⟨rfl, rfl⟩))
    (fun os started H enc _ => armTable_lifted os started H enc)
end Go.Proofs.Ytghddmaihcjmlaa
