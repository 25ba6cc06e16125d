/- Own work: a text of the proof of a law (SxAid2). -/
import Derived.Test.YtghddmaihcjmlaaSxAid
namespace Go.Sx
open Go

theorem not_inl {a b : Prop} (h : ¬ (a ∨ b)) : ¬ a := fun g => h (.inl g)
theorem not_inr {a b : Prop} (h : ¬ (a ∨ b)) : ¬ b := fun g => h (.inr g)
theorem and_ll {a b c : Prop} (h : (a ∧ b) ∧ c) : a := h.1.1
theorem and_lr {a b c : Prop} (h : (a ∧ b) ∧ c) : b := h.1.2

/-- as vc, with the cheap ways first -/
theorem vcq {a b : Prop} (h : a := by first | (with_reducible rfl) | (with_reducible exact id) | (with_reducible exact trivial) | (with_reducible exact Iff.rfl) | (with_reducible exact And.left) | (with_reducible exact And.right) | (with_reducible exact And.intro) | (with_reducible exact not_inl) | (with_reducible exact and_ll) | (with_reducible exact and_lr) | exact inR64 (by omega) (by omega) | omega | (dsimp only; omega) | (dsimp only; exact inR64 (by omega) (by omega)) | (intros; first | (with_reducible assumption) | omega | (exact inR64 (by omega) (by omega))) | (with_reducible exact fun _ _ => rfl) | (with_reducible exact fun _ => rfl) | exact fun _ _ => rfl | exact fun _ => rfl | exact rfl | exact fun _ _ => ⟨Iff.rfl, fun _ => rfl⟩ | exact .inr (fun _ _ => rfl) | exact .inr (fun _ => rfl) | exact .inl rfl | exact Iff.rfl | exact id | exact And.left | exact And.right) (k : b) : a ∧ b := ⟨h, k⟩
end Go.Sx
