/- The law QueueBounds returns true for every input, and leaves its arguments as they were (layer 7). No condition. -/
import Derived.Test.YthjcfbkgfnnkkaaGreatZvRPPart21

namespace Go.Proofs.YthjcfbkgfnnkkaaGreat
open Go Go.Sx Go.Proofs
set_option maxRecDepth 100000
theorem queueBounds_pure (y : TS.Vals [tsQueue, .int .i64]) (hy : TS.wfs [tsQueue, .int .i64] y) : ∃ keep, PureC Tryz.prog 5 keep (TS.args [tsQueue, .int .i64] y) (· = .prop True inferInstance) := by
  obtain ⟨⟨⟨h, t, z, hk, ck, ⟨ha, hb, _⟩, ⟨ca, cb, _⟩, _⟩, cy, ps, sk, rq, _⟩, r, _⟩ := y
  refine ⟨_, PureC.view (Bounds5 ⟨⟨h, t, toP z, hk, ck, (ha, hb), (ca, cb)⟩, cy, ps, toP sk, toR rq⟩ (toP_le z hy.1.1.2.2.1.1) (toP_le sk hy.1.2.2.2.1.1) (toR_le rq hy.1.2.2.2.2.1.1) (toR_du rq hy.1.2.2.2.2.1.2) r) ?_⟩
  (repeat' ((conv => whnf); (first | (with_reducible first | apply spl | apply spl') <;> intro hc <;> try (exfalso; omega) | with_reducible refine iJ fun hc => ?_ | refine vcq (k := ?_) | fail))); all_goals ((try conv => whnf); try with_reducible exact trivial)
  refine ⟨toP_length z, fun i _ => rowP z i, ?_⟩
  (repeat' ((conv => whnf); (first | (with_reducible first | apply spl | apply spl') <;> intro hc <;> try (exfalso; omega) | with_reducible refine iJ fun hc => ?_ | refine vcq (k := ?_) | fail))); all_goals ((try conv => whnf); try with_reducible exact trivial)
  refine ⟨toP_length sk, fun i _ => rowP sk i, ?_⟩
  (repeat' ((conv => whnf); (first | (with_reducible first | apply spl | apply spl') <;> intro hc <;> try (exfalso; omega) | with_reducible refine iJ fun hc => ?_ | refine vcq (k := ?_) | fail))); all_goals ((try conv => whnf); try with_reducible exact trivial)
  refine ⟨toR_length rq, fun i _ => rowR rq i, ?_⟩
  (repeat' ((conv => whnf); (first | (with_reducible first | apply spl | apply spl') <;> intro hc <;> try (exfalso; omega) | with_reducible refine iJ fun hc => ?_ | refine vcq (k := ?_) | fail))); all_goals ((try conv => whnf); try with_reducible exact trivial)
theorem queueBounds_lifted (os : Os) (started : os.Started) (H : Type) (enc : TypeId × Value → H) :
    ReturnsInHanded {} Tryz.checked os 5 .any (Rows.queueBoundsSpec.pre6 enc Tryz.prog Tryz.f5 Rows.queueBoundsRow.domain false) (Rows.queueBoundsSpec.post enc Tryz.prog Tryz.f5 false true false false) := by
  refine returnsInHanded_of_change (C := Tryz.checked) ownKnob_none started (by kernel_rfl) Tryz.func5
    (ChangeSpec.witness6 (enc := enc) (C := Tryz.checked) false ⟨#[], #[zeroQueue, zI], []⟩ 8 (by kernel_rfl) (by kernel_rfl) (by kernel_rfl) (by kernel_rfl)) ?_
  intro W base args ds gs before hval hW _ _
  exact contract_of_pure (ss := [tsQueue, .int .i64]) (tb := 4) rfl (by kernel_rfl) (by kernel_rfl) under4
    (fun H ds h => match ds, h with | [_, _], _ => ⟨rfl, rfl, rfl⟩) queueBounds_pure W base args ds gs before hval hW
theorem queueBounds_holds : Rows.QueueBoundsSaid :=
  OpenClaim.holds_of_wide 5 Tryz.f5 rfl rfl rfl rfl rfl rfl rfl ⟨rfl, rfl, rfl, rfl, rfl⟩ rfl rfl rfl rfl rfl (by kernel_rfl) Tryz.func5 (by kernel_rfl)
    (of_decide_eq_true (by kernel_rfl)) (by unfold Func.isWrapper; first | (rw [if_pos (by decide +kernel)]; kernel_rfl) | (rw [if_neg (by decide +kernel)]; exact ⟨rfl, rfl⟩))
    (fun os started H enc _ => queueBounds_lifted os started H enc)
end Go.Proofs.YthjcfbkgfnnkkaaGreat
