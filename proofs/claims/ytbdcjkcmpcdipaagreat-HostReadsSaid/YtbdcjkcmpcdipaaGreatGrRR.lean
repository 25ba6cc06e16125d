/- The law HostReads returns true for every input, and leaves its arguments as they were (layer 17). No condition. -/
import Derived.Test.YtbdcjkcmpcdipaaGreatGrRRPart32
set_option linter.unusedVariables false
set_option linter.unusedSimpArgs false

namespace Go.Proofs.YtbdcjkcmpcdipaaGreat
open Go Go.Sx Go.Proofs
set_option maxRecDepth 100000
theorem hostReads_pure (y:TS.Vals [Ho.tsHist,.int .i64]) (hy:TS.wfs [Ho.tsHist,.int .i64] y):∃keep,a0o Tryz.prog 6 keep (TS.args [Ho.tsHist,.int .i64] y) (·=.prop True inferInstance):=by
 obtain⟨⟨n,l,_⟩,t,_⟩:=y
 refine⟨_,a0o.view (Ho.reads6 ⟨n,Ho.toC l⟩ (Ho.toC_le l hy.1.2.1.1) t) ?_⟩
 refine x0 ?_
 refine⟨Ho.toC_length l,fun i _=>Ho.rowC l i,?_⟩
 exact xc2
theorem hostReads_lifted (os:Os) (started:os.Started) (H:Type) (enc:TypeId×Value→H) :
  ReturnsInHanded {} Tryz.checked os 6 .any (Rows.hostReadsSpec.pre6 enc Tryz.prog Tryz.f6 Rows.hostReadsRow.domain false) (Rows.hostReadsSpec.post enc Tryz.prog Tryz.f6 false true false false):=by
 refine returnsInHanded_of_change (C:=Tryz.checked) ownKnob_none started (by kernel_rfl) Tryz.func6
  (ChangeSpec.witness6 (enc:=enc) (C:=Tryz.checked) false ⟨#[],#[Ho.zeroHist,Ho.zI],[]⟩ 8 (by kernel_rfl) (by kernel_rfl) (by kernel_rfl) (by kernel_rfl)) ?_
 intro W base args ds gs before hval hW _ _
 exact contract_of_pure (ss:=[Ho.tsHist,.int .i64]) (tb:=4) rfl (by kernel_rfl) (by kernel_rfl) under4
  (fun H ds h=>match ds,h with|[_,_],_=>⟨rfl,rfl,rfl⟩) hostReads_pure W base args ds gs before hval hW
theorem hostReads_holds:Rows.HostReadsSaid:=
 OpenClaim.holds_of_wide 6 Tryz.f6 rfl rfl rfl rfl rfl rfl rfl ⟨rfl,rfl,rfl,rfl,rfl⟩ rfl rfl rfl rfl rfl (by kernel_rfl) Tryz.func6 (by kernel_rfl)
  (of_decide_eq_true (by kernel_rfl)) (by unfold Func.isWrapper;first|(rw[if_pos (by decide +kernel)];kernel_rfl)|(rw[if_neg (by decide +kernel)];exact⟨rfl,rfl⟩))
  (fun os started H enc _=>hostReads_lifted os started H enc)
end Go.Proofs.YtbdcjkcmpcdipaaGreat
