/- The law CacheKept returns true for every input, and leaves its arguments as they were (layer 8). No condition. -/
import Derived.Test.YtmjaflgakiembaaPart22

namespace Go.Proofs.Ytmjaflgakiembaa
open Go Go.Sx Go.Proofs
set_option maxRecDepth 100000
-- SxAid2

theorem cacheKept_pure (y : TS.Vals [tsCache, tsFall]) (hy : TS.wfs [tsCache, tsFall] y) : ∃ keep, PureC Try.prog 9 keep (TS.args [tsCache, tsFall] y) (· = .prop True inferInstance) := by
  obtain ⟨⟨n, l, _⟩, ⟨d, torn, _⟩, _⟩ := y
  refine ⟨_, PureC.view (Kept9 ⟨n, toW l⟩ (toW_le l hy.1.2.1.1) (toW d) (toW_le d hy.2.1.1.1) torn) ?_⟩
  (repeat' ((conv => whnf); (first | ((first | with_reducible refine spl (fun hc => ?_) (fun hc => ?_) | with_reducible refine spl' (fun hc => ?_) (fun hc => ?_)) <;> try (exfalso; omega)) | with_reducible refine imp_intro (fun hc => ?_) | refine vcq (k := ?_) | refine dr 1 (k := ?_)))); all_goals (try conv => whnf); all_goals (try with_reducible exact trivial)
  refine ⟨toW_length l, fun i _ => rowW l i, ?_⟩
  (repeat' ((conv => whnf); (first | ((first | with_reducible refine spl (fun hc => ?_) (fun hc => ?_) | with_reducible refine spl' (fun hc => ?_) (fun hc => ?_)) <;> try (exfalso; omega)) | with_reducible refine imp_intro (fun hc => ?_) | refine vcq (k := ?_) | refine dr 1 (k := ?_)))); all_goals (try conv => whnf); all_goals (try with_reducible exact trivial)
  refine ⟨toW_length d, fun i _ => rowW d i, ?_⟩
  (repeat' ((conv => whnf); (first | ((first | with_reducible refine spl (fun hc => ?_) (fun hc => ?_) | with_reducible refine spl' (fun hc => ?_) (fun hc => ?_)) <;> try (exfalso; omega)) | with_reducible refine imp_intro (fun hc => ?_) | refine vcq (k := ?_) | refine dr 1 (k := ?_)))); all_goals (try conv => whnf); all_goals (try with_reducible exact trivial)

theorem cacheKept_lifted (os : Os) (started : os.Started) (H : Type) (enc : TypeId × Value → H) :
    ReturnsInHanded {} Try.checked os 9 .any (Rows.cacheKeptSpec.pre6 enc Try.prog Try.f9 Rows.cacheKeptRow.domain false) (Rows.cacheKeptSpec.post enc Try.prog Try.f9 false true false false) := by
  refine returnsInHanded_of_change (C := Try.checked) ownKnob_none started (by kernel_rfl) Try.func9
    (ChangeSpec.witness6 (enc := enc) (C := Try.checked) false ⟨#[], #[zeroCache, zeroFall], []⟩ 8 (by kernel_rfl) (by kernel_rfl) (by kernel_rfl) (by kernel_rfl)) ?_
  intro W base args ds gs before hval hW _ _
  exact contract_of_pure (ss := [tsCache, tsFall]) (tb := 4) rfl (by kernel_rfl) (by kernel_rfl) under4
    (fun H ds h => match ds, h with | [_, _], _ => ⟨rfl, rfl, rfl⟩) cacheKept_pure W base args ds gs before hval hW

theorem cacheKept_holds : Rows.CacheKeptSaid :=
  OpenClaim.holds_of_wide 9 Try.f9 rfl rfl rfl rfl rfl rfl rfl ⟨rfl, rfl, rfl, rfl, rfl⟩ rfl rfl rfl rfl rfl (by kernel_rfl) Try.func9 (by kernel_rfl)
    (of_decide_eq_true (by kernel_rfl)) (by unfold Func.isWrapper; first | (rw [if_pos (by decide +kernel)]; kernel_rfl) | (rw [if_neg (by decide +kernel)]; exact ⟨rfl, rfl⟩))
    (fun os started H enc _ => cacheKept_lifted os started H enc)
end Go.Proofs.Ytmjaflgakiembaa
