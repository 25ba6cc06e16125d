/- The law ArmMirror returns true for every input, and leaves its arguments as they were (layer 6). No condition. -/
import Derived.Test.YtghddmaihcjmlaaPart15

namespace Go.Proofs.Ytghddmaihcjmlaa
open Go Go.Sx Go.Proofs

theorem armMirror_pure (y : TS.Vals [tsArm, .int .i64, tsSpot]) (hy : TS.wfs [tsArm, .int .i64, tsSpot] y) : ∃ keep, PureC Try.prog 7 keep (TS.args [tsArm, .int .i64, tsSpot] y) (· = .prop True inferInstance) := by
  obtain ⟨⟨l, s, f, k, g, w, _⟩, t, ⟨x, v, _⟩, _⟩ := y
  exact ⟨_, mirror7 ⟨l, s, f, k, g, w⟩ t x v⟩

theorem armMirror_lifted (os : Os) (started : os.Started) (H : Type) (enc : TypeId × Value → H) :
    ReturnsInHanded {} Try.checked os 7 .any (Rows.armMirrorSpec.pre6 enc Try.prog Try.f7 Rows.armMirrorRow.domain false) (Rows.armMirrorSpec.post enc Try.prog Try.f7 false true false false) := by
  refine returnsInHanded_of_change (C := Try.checked) ownKnob_none started (by kernel_rfl) Try.func7
    (ChangeSpec.witness6 (enc := enc) (C := Try.checked) false ⟨#[], #[zeroArm, .int .i64 0, zeroSpot], []⟩ 8 (by kernel_rfl) (by kernel_rfl) (by kernel_rfl) (by kernel_rfl)) ?_
  intro W base args ds gs before hval hW _ _
  exact contract_of_pure (ss := [tsArm, .int .i64, tsSpot]) (tb := 4) rfl (by kernel_rfl) (by kernel_rfl) under4
    (fun H ds h => match ds, h with | [_, _, _], _ => ⟨rfl, rfl, rfl⟩) armMirror_pure W base args ds gs before hval hW

theorem armMirror_holds : Rows.ArmMirrorSaid :=
  OpenClaim.holds_of_wide 7 Try.f7 rfl rfl rfl rfl rfl rfl rfl ⟨rfl, rfl, rfl, rfl, rfl⟩ rfl rfl rfl rfl rfl (by kernel_rfl) Try.func7 (by kernel_rfl)
    (of_decide_eq_true (by kernel_rfl)) (by unfold Func.isWrapper; first | (rw [if_pos (by decide +kernel)]; kernel_rfl) | (rw [if_neg (by decide +kernel)]; exact ⟨rfl, rfl⟩))
    (fun os started H enc _ => armMirror_lifted os started H enc)
end Go.Proofs.Ytghddmaihcjmlaa
