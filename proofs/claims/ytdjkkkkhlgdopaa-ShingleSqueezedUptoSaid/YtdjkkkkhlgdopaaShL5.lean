/- The law ShingleSqueezed returns true for every input whose bulk is at most 1048576, and leaves its arguments as they were (layer 9). The condition on the bulk is that of the given statement. -/
import Derived.Test.YtdjkkkkhlgdopaaPart15

namespace Go.Proofs.Ytdjkkkkhlgdopaa
open Go Go.Sx Go.Proofs
set_option maxRecDepth 100000
-- SxAid2

theorem one_le_bulk {H : Type} (d : DataW H) : 1 ≤ Rows.uptoBulk d := by
  cases d with
  | lit l => cases l <;> simp [Rows.uptoBulk]
  | nil => simp [Rows.uptoBulk]
  | ptr d => simp [Rows.uptoBulk]
  | slice elems spare => simp [Rows.uptoBulk]
  | agg parts => simp [Rows.uptoBulk]
  | iface t d => simp [Rows.uptoBulk]
  | map entries => simp [Rows.uptoBulk]
  | held h => simp [Rows.uptoBulk]

theorem length_le_bulk {H : Type} (l : List (DataW H)) : l.length ≤ Rows.uptoBulkAll l := by
  induction l with
  | nil => simp [Rows.uptoBulkAll]
  | cons x r ih => have := one_le_bulk x; simp only [Rows.uptoBulkAll, List.length_cons]; omega

theorem shingleSqueezed_pure (y : TS.Vals [tsBands, .slice tsWrite, tsPair]) (hl : (toW y.2.1).length ≤ 1048576) : ∃ keep, PureC Try.prog 9 keep (TS.args [tsBands, .slice tsWrite, tsPair] y) (· = .prop True inferInstance) := by
  obtain ⟨⟨B, T, K, C, L, _⟩, l, ⟨n, v, _⟩, _⟩ := y
  refine ⟨_, PureC.view (squeezed9 ⟨B, T, K, C, L⟩ (toW l) hl (n, v)) ?_⟩
  (repeat' ((conv => whnf); (first | ((with_reducible refine spl (fun hc => ?_) (fun hc => ?_)) <;> (try (exfalso; omega))) | ((with_reducible refine spl' (fun hc => ?_) (fun hc => ?_)) <;> (try (exfalso; omega))) | (with_reducible refine imp_intro (fun hc => ?_)) | refine vcq (k := ?_) | refine dr 1 (k := ?_) | refine dr 2 (k := ?_) | refine dr 3 (k := ?_) | refine dr 4 (k := ?_) | refine dr 5 (k := ?_) | refine dr 6 (k := ?_) | refine dr 7 (k := ?_) | refine dr 8 (k := ?_) | refine dr 9 (k := ?_) | refine dr 10 (k := ?_) | refine dr 11 (k := ?_) | refine dr 12 (k := ?_) | refine dr 1001 (k := ?_) | refine dr 1002 (k := ?_) | refine dr 1003 (k := ?_) | refine dr 1004 (k := ?_) | refine dr 1005 (k := ?_) | refine dr 1006 (k := ?_) | refine dr 1007 (k := ?_) | refine dr 1008 (k := ?_) | refine dr 1009 (k := ?_) | refine dr 1010 (k := ?_) | refine dr 1011 (k := ?_) | refine dr 1012 (k := ?_) | refine dr 1013 (k := ?_) | refine dr 1014 (k := ?_) | refine dr 1015 (k := ?_) | refine dr 1016 (k := ?_) | fail))); (all_goals (try (conv => whnf))); (all_goals (try (with_reducible exact trivial)))
  refine ⟨toW_length l, fun i _ => rowW l i, ?_⟩
  (repeat' ((conv => whnf); (first | ((with_reducible refine spl (fun hc => ?_) (fun hc => ?_)) <;> (try (exfalso; omega))) | ((with_reducible refine spl' (fun hc => ?_) (fun hc => ?_)) <;> (try (exfalso; omega))) | (with_reducible refine imp_intro (fun hc => ?_)) | refine vcq (k := ?_) | refine dr 1 (k := ?_) | refine dr 2 (k := ?_) | refine dr 3 (k := ?_) | refine dr 4 (k := ?_) | refine dr 5 (k := ?_) | refine dr 6 (k := ?_) | refine dr 7 (k := ?_) | refine dr 8 (k := ?_) | refine dr 9 (k := ?_) | refine dr 10 (k := ?_) | refine dr 11 (k := ?_) | refine dr 12 (k := ?_) | refine dr 1001 (k := ?_) | refine dr 1002 (k := ?_) | refine dr 1003 (k := ?_) | refine dr 1004 (k := ?_) | refine dr 1005 (k := ?_) | refine dr 1006 (k := ?_) | refine dr 1007 (k := ?_) | refine dr 1008 (k := ?_) | refine dr 1009 (k := ?_) | refine dr 1010 (k := ?_) | refine dr 1011 (k := ?_) | refine dr 1012 (k := ?_) | refine dr 1013 (k := ?_) | refine dr 1014 (k := ?_) | refine dr 1015 (k := ?_) | refine dr 1016 (k := ?_) | fail))); (all_goals (try (conv => whnf))); (all_goals (try (with_reducible exact trivial)))

theorem shingleSqueezed_lifted (os : Os) (started : os.Started) (H : Type) (enc : TypeId × Value → H) (F : Stop.Interp) :
    ReturnsInHanded {} Try.checked os 9 .any ((Rows.OpenSpec.upto Rows.shingleSqueezedSpec).pre6 enc Try.prog Try.f9 Rows.shingleSqueezedUptoRow.domain false) (((Rows.OpenSpec.upto Rows.shingleSqueezedSpec).at F).post enc Try.prog Try.f9 false true false false) := by
  refine returnsInHanded_of_cond (C := Try.checked) (s := Rows.OpenSpec.upto Rows.shingleSqueezedSpec) (k := Rows.uptoSmall) rfl ownKnob_none started (by kernel_rfl) Try.func9
    (OpenSpec.witness (enc := enc) (C := Try.checked) (s := Rows.OpenSpec.upto Rows.shingleSqueezedSpec) (k := Rows.uptoSmall) rfl false ⟨#[], #[zeroBands, zeroSl, zeroPair], []⟩ 8 (by kernel_rfl) (by kernel_rfl) (by kernel_rfl)
      (x := ([.agg [.lit (.int .i64 0), .lit (.int .i64 0), .lit (.int .i64 0), .lit (.int .i64 0), .lit (.int .i64 0)], .nil, .agg [.lit (.int .i64 0), .lit (.int .i64 0)]], [], [])) (by kernel_rfl) rfl (by kernel_rfl)) ?_
  intro W base args ds gs before hval hW _ hk _
  refine contract_of_pure_fit (s := Rows.shingleSqueezedSpec) (ss := [tsBands, .slice tsWrite, tsPair]) (tb := 4) rfl (by kernel_rfl) (by kernel_rfl) under4
    (fun H ds h => match ds, h with | [_, _, _], _ => ⟨rfl, rfl, rfl⟩) W base args ds gs before (fun y hy hf => shingleSqueezed_pure y ?_) hval hW
  have hb : Rows.uptoBulkAll (ds ++ gs) ≤ 1048576 := of_decide_eq_true hk
  match ds, hf, hb with
  | [], hf, _ => exact hf.elim
  | [_], hf, _ => exact hf.2.elim
  | d1 :: d2 :: ds, hf, hb =>
    rcases hf.2.1 with h0 | ⟨elems, spare, rfl, h0⟩
    · have e : y.2.1.length = (toW y.2.1).length := toW_length y.2.1
      exact Nat.le_trans (Nat.le_of_eq (e.symm.trans h0)) (by omega)
    · have h1 := length_le_bulk elems
      simp only [List.cons_append, Rows.uptoBulkAll, Rows.uptoBulk] at hb
      have e : y.2.1.length = (toW y.2.1).length := toW_length y.2.1
      exact Nat.le_trans (Nat.le_of_eq (e.symm.trans h0.symm)) (by omega)

theorem shingleSqueezedUpto_holds : Rows.ShingleSqueezedUptoSaid :=
  OpenClaim.holds_of_cond 9 Try.f9 rfl rfl rfl rfl rfl rfl rfl ⟨rfl, rfl, rfl, rfl, rfl⟩ rfl rfl rfl rfl rfl (by kernel_rfl) Try.func9 (by kernel_rfl)
    (of_decide_eq_true (by kernel_rfl)) (by unfold Func.isWrapper; first | (rw [if_pos (by decide +kernel)]; kernel_rfl) | (rw [if_neg (by decide +kernel)]; exact ⟨rfl, rfl⟩))
    (fun os started H enc _ F => shingleSqueezed_lifted os started H enc F)
end Go.Proofs.Ytdjkkkkhlgdopaa
