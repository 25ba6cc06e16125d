/- The law HostExplained returns true for every input, and leaves its arguments as they were (layer 17). No condition. -/
import Derived.Test.YtbdcjkcmpcdipaaGreatGrRXPart37
set_option linter.unusedVariables false
set_option linter.unusedSimpArgs false

namespace Go.Proofs.YtbdcjkcmpcdipaaGreat
open Go Go.Sx Go.Proofs
set_option maxRecDepth 100000
theorem hostExplained_pure (y:TS.Vals [Ho.tsHist]) (hy:TS.wfs [Ho.tsHist] y):∃keep,a0q Tryz.prog 8 keep (TS.args [Ho.tsHist] y) (·=.prop True inferInstance):=by
 obtain⟨⟨n,l,_⟩,_⟩:=y
 refine⟨_,a0q.view (Ho.explained8 ⟨n,Ho.toC l⟩ (Ho.toC_le l hy.1.2.1.1)) ?_⟩
 refine x1 ?_
 refine⟨Ho.toC_length l,fun i _=>Ho.rowC l i,?_⟩
 exact xc3
theorem hostExplained_lifted (os:Os) (started:os.Started) (H:Type) (enc:TypeId×Value→H) :
  ReturnsInHanded {} Tryz.checked os 8 .any (Rows.hostExplainedSpec.pre6 enc Tryz.prog Tryz.f8 Rows.hostExplainedRow.domain false) (Rows.hostExplainedSpec.post enc Tryz.prog Tryz.f8 false true false false):=by
 refine returnsInHanded_of_change (C:=Tryz.checked) ownKnob_none started (by kernel_rfl) Tryz.func8
  (ChangeSpec.witness6 (enc:=enc) (C:=Tryz.checked) false ⟨#[],#[Ho.zeroHist],[]⟩ 8 (by kernel_rfl) (by kernel_rfl) (by kernel_rfl) (by kernel_rfl)) ?_
 intro W base args ds gs before hval hW _ _
 exact contract_of_pure (ss:=[Ho.tsHist]) (tb:=4) rfl (by kernel_rfl) (by kernel_rfl) under4
  (fun H ds h=>match ds,h with|[_],_=>⟨rfl,rfl,rfl⟩) hostExplained_pure W base args ds gs before hval hW
theorem hostExplained_holds:Rows.HostExplainedSaid:=
 OpenClaim.holds_of_wide 8 Tryz.f8 rfl rfl rfl rfl rfl rfl rfl ⟨rfl,rfl,rfl,rfl,rfl⟩ rfl rfl rfl rfl rfl (by kernel_rfl) Tryz.func8 (by kernel_rfl)
  (of_decide_eq_true (by kernel_rfl)) (by unfold Func.isWrapper;first|(rw[if_pos (by decide +kernel)];kernel_rfl)|(rw[if_neg (by decide +kernel)];exact⟨rfl,rfl⟩))
  (fun os started H enc _=>hostExplained_lifted os started H enc)
end Go.Proofs.YtbdcjkcmpcdipaaGreat
