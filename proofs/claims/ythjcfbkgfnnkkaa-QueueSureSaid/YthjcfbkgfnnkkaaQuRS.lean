/- The law QueueSure returns true for every input, and leaves its arguments as they were (layer 7). No condition. -/
import Derived.Test.YthjcfbkgfnnkkaaQuRSPart21

namespace Go.Proofs.Ythjcfbkgfnnkkaa
open Go Go.Sx Go.Proofs
set_option maxRecDepth 100000
theorem queueSure_pure (y : TS.Vals [tsQueue, tsInts]) (hy : TS.wfs [tsQueue, tsInts] y) : ∃ keep, PureC Try.prog 7 keep (TS.args [tsQueue, tsInts] y) (· = .prop True inferInstance) := by
  obtain ⟨⟨⟨h, t, z, hk, ck, ⟨ha, hb, _⟩, ⟨ca, cb, _⟩, _⟩, cy, ps, sk, rq, _⟩, l, _⟩ := y
  refine ⟨_, PureC.view (Sure7 ⟨⟨h, t, toP z, hk, ck, (ha, hb), (ca, cb)⟩, cy, ps, toP sk, toR rq⟩ (toP_le z hy.1.1.2.2.1.1) (toP_le sk hy.1.2.2.2.1.1) (toR_le rq hy.1.2.2.2.2.1.1) l (ints_le l hy.2.1.1)) ?_⟩
  (repeat' ((conv => whnf); (first | (with_reducible first | apply spl | apply spl') <;> intro hc <;> try (exfalso; omega) | with_reducible refine iJ fun hc => ?_ | refine vcq (k := ?_) | fail))); all_goals ((try conv => whnf); try with_reducible exact trivial)
  refine ⟨toP_length z, fun i _ => rowP z i, ?_⟩
  (repeat' ((conv => whnf); (first | (with_reducible first | apply spl | apply spl') <;> intro hc <;> try (exfalso; omega) | with_reducible refine iJ fun hc => ?_ | refine vcq (k := ?_) | fail))); all_goals ((try conv => whnf); try with_reducible exact trivial)
  refine ⟨toP_length sk, fun i _ => rowP sk i, ?_⟩
  (repeat' ((conv => whnf); (first | (with_reducible first | apply spl | apply spl') <;> intro hc <;> try (exfalso; omega) | with_reducible refine iJ fun hc => ?_ | refine vcq (k := ?_) | fail))); all_goals ((try conv => whnf); try with_reducible exact trivial)
  refine ⟨toR_length rq, fun i _ => rowR rq i, ?_⟩
  (repeat' ((conv => whnf); (first | (with_reducible first | apply spl | apply spl') <;> intro hc <;> try (exfalso; omega) | with_reducible refine iJ fun hc => ?_ | refine vcq (k := ?_) | fail))); all_goals ((try conv => whnf); try with_reducible exact trivial)
theorem queueSure_lifted (os : Os) (started : os.Started) (H : Type) (enc : TypeId × Value → H) :
    ReturnsInHanded {} Try.checked os 7 .any (Rows.queueSureSpec.pre6 enc Try.prog Try.f7 Rows.queueSureRow.domain false) (Rows.queueSureSpec.post enc Try.prog Try.f7 false true false false) := by
  refine returnsInHanded_of_change (C := Try.checked) ownKnob_none started (by kernel_rfl) Try.func7
    (ChangeSpec.witness6 (enc := enc) (C := Try.checked) false ⟨#[], #[zeroQueue, zeroSl], []⟩ 8 (by kernel_rfl) (by kernel_rfl) (by kernel_rfl) (by kernel_rfl)) ?_
  intro W base args ds gs before hval hW _ _
  exact contract_of_pure (ss := [tsQueue, tsInts]) (tb := 4) rfl (by kernel_rfl) (by kernel_rfl) under4
    (fun H ds h => match ds, h with | [_, _], _ => ⟨rfl, rfl, rfl⟩) queueSure_pure W base args ds gs before hval hW
theorem queueSure_holds : Rows.QueueSureSaid :=
  OpenClaim.holds_of_wide 7 Try.f7 rfl rfl rfl rfl rfl rfl rfl ⟨rfl, rfl, rfl, rfl, rfl⟩ rfl rfl rfl rfl rfl (by kernel_rfl) Try.func7 (by kernel_rfl)
    (of_decide_eq_true (by kernel_rfl)) (by unfold Func.isWrapper; first | (rw [if_pos (by decide +kernel)]; kernel_rfl) | (rw [if_neg (by decide +kernel)]; exact ⟨rfl, rfl⟩))
    (fun os started H enc _ => queueSure_lifted os started H enc)
end Go.Proofs.Ythjcfbkgfnnkkaa
