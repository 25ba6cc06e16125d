/- The law CacheShows returns true for every input, and leaves its arguments as they were (layer 8). No condition. -/
import Derived.Test.YtmjaflgakiembaaCaLHPart23

namespace Go.Proofs.Ytmjaflgakiembaa
open Go Go.Sx Go.Proofs
set_option maxRecDepth 100000
theorem cacheShows_pure (y : TS.Vals [tsCache, tsInts]) (hy : TS.wfs [tsCache, tsInts] y) : ∃ keep, PureC Try.prog 6 keep (TS.args [tsCache, tsInts] y) (· = .prop True inferInstance) := by
  obtain ⟨⟨n, l, _⟩, d, _⟩ := y
  refine ⟨_, PureC.view (Shows6 ⟨n, toW l⟩ (toW_le l hy.1.2.1.1) d (ints_le d hy.2.1.1)) ?_⟩
  (repeat' ((conv => whnf); (first | (with_reducible first | apply spl | apply spl') <;> intro hc <;> try (exfalso; omega) | with_reducible refine iJ fun hc => ?_ | refine vcq (k := ?_) | fail))); all_goals ((try conv => whnf); try with_reducible exact trivial)
  refine ⟨toW_length l, fun i _ => rowW l i, ?_⟩
  (repeat' ((conv => whnf); (first | (with_reducible first | apply spl | apply spl') <;> intro hc <;> try (exfalso; omega) | with_reducible refine iJ fun hc => ?_ | refine vcq (k := ?_) | fail))); all_goals ((try conv => whnf); try with_reducible exact trivial)
theorem cacheShows_lifted (os : Os) (started : os.Started) (H : Type) (enc : TypeId × Value → H) :
    ReturnsInHanded {} Try.checked os 6 .any (Rows.cacheShowsSpec.pre6 enc Try.prog Try.f6 Rows.cacheShowsRow.domain false) (Rows.cacheShowsSpec.post enc Try.prog Try.f6 false true false false) := by
  refine returnsInHanded_of_change (C := Try.checked) ownKnob_none started (by kernel_rfl) Try.func6
    (ChangeSpec.witness6 (enc := enc) (C := Try.checked) false ⟨#[], #[zeroCache, zeroSl], []⟩ 8 (by kernel_rfl) (by kernel_rfl) (by kernel_rfl) (by kernel_rfl)) ?_
  intro W base args ds gs before hval hW _ _
  exact contract_of_pure (ss := [tsCache, tsInts]) (tb := 4) rfl (by kernel_rfl) (by kernel_rfl) under4
    (fun H ds h => match ds, h with | [_, _], _ => ⟨rfl, rfl, rfl⟩) cacheShows_pure W base args ds gs before hval hW
theorem cacheShows_holds : Rows.CacheShowsSaid :=
  OpenClaim.holds_of_wide 6 Try.f6 rfl rfl rfl rfl rfl rfl rfl ⟨rfl, rfl, rfl, rfl, rfl⟩ rfl rfl rfl rfl rfl (by kernel_rfl) Try.func6 (by kernel_rfl)
    (of_decide_eq_true (by kernel_rfl)) (by unfold Func.isWrapper; first | (rw [if_pos (by decide +kernel)]; kernel_rfl) | (rw [if_neg (by decide +kernel)]; exact ⟨rfl, rfl⟩))
    (fun os started H enc _ => cacheShows_lifted os started H enc)
end Go.Proofs.Ytmjaflgakiembaa

