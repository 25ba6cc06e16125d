/- The law ArmInTime returns true for every input, and leaves its arguments as they were (layer 6). No condition. -/
import Derived.Test.YtghddmaihcjmlaaArmT4
import Derived.Test.YtghddmaihcjmlaaArmL
namespace Go.Proofs.Ytghddmaihcjmlaa
open Go Go.Sx Go.Proofs

theorem armInTime_pure (y : TS.Vals [tsArm, tsSeek]) (hy : TS.wfs [tsArm, tsSeek] y) : ∃ keep, PureC Try.prog 9 keep (TS.args [tsArm, tsSeek] y) (· = .prop True inferInstance) := by
  obtain ⟨⟨l, s, f, k, g, w, _⟩, ⟨t, ⟨x, v, _⟩, sh, _⟩, _⟩ := y
  exact ⟨_, inTime9 ⟨l, s, f, k, g, w⟩ t x v sh (Nat.le_trans hy.2.1.2.2.1.1 (by decide))⟩

theorem armInTime_lifted (os : Os) (started : os.Started) (H : Type) (enc : TypeId × Value → H) :
    ReturnsInHanded {} Try.checked os 9 .any (Rows.armInTimeSpec.pre6 enc Try.prog Try.f9 Rows.armInTimeRow.domain false) (Rows.armInTimeSpec.post enc Try.prog Try.f9 false true false false) := by
  refine returnsInHanded_of_change (C := Try.checked) ownKnob_none started (by kernel_rfl) Try.func9
    (ChangeSpec.witness6 (enc := enc) (C := Try.checked) false ⟨#[], #[zeroArm, zeroSeek], []⟩ 8 (by kernel_rfl) (by kernel_rfl) (by kernel_rfl) (by kernel_rfl)) ?_
  intro W base args ds gs before hval hW _ _
  exact contract_of_pure (ss := [tsArm, tsSeek]) (tb := 4) rfl (by kernel_rfl) (by kernel_rfl) under4
    (fun H ds h => match ds, h with | [_, _], _ => ⟨rfl, rfl, rfl⟩) armInTime_pure W base args ds gs before hval hW

theorem armInTime_holds : Rows.ArmInTimeSaid :=
  OpenClaim.holds_of_wide 9 Try.f9 rfl rfl rfl rfl rfl rfl rfl ⟨rfl, rfl, rfl, rfl, rfl⟩ rfl rfl rfl rfl rfl (by kernel_rfl) Try.func9 (by kernel_rfl)
    (of_decide_eq_true (by kernel_rfl)) (by unfold Func.isWrapper; first | (rw [if_pos (by decide +kernel)]; kernel_rfl) | (rw [if_neg (by decide +kernel)]; exact ⟨rfl, rfl⟩))
    (fun os started H enc _ => armInTime_lifted os started H enc)
end Go.Proofs.Ytghddmaihcjmlaa
