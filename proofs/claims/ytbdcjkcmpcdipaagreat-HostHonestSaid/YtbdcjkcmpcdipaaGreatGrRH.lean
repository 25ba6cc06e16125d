/- The law HostHonest returns true for every input, and leaves its arguments as they were (layer 17). No condition. -/
import Derived.Test.YtbdcjkcmpcdipaaGreatGrRHPart33
set_option linter.unusedVariables false
set_option linter.unusedSimpArgs false

namespace Go.Proofs.YtbdcjkcmpcdipaaGreat
open Go Go.Sx Go.Proofs
set_option maxRecDepth 100000
theorem hostHonest_pure (y:TS.Vals [Ho.tsHist,Ho.tsHonest]) (hy:TS.wfs [Ho.tsHist,Ho.tsHonest] y):∃keep,a0o Tryz.prog 4 keep (TS.args [Ho.tsHist,Ho.tsHonest] y) (·=.prop True inferInstance):=by
 obtain⟨⟨n,l,_⟩,⟨o,ims,_⟩,_⟩:=y
 refine⟨_,a0o.view (Ho.honest4 ⟨n,Ho.toC l⟩ (Ho.toC_le l hy.1.2.1.1) o (Nat.le_trans hy.2.1.1.1 (by decide)) (Ho.toIE ims) (Ho.toIE_le ims hy.2.1.2.1.1) (Ho.toIE_all ims fun x hx=>(hy.2.1.2.1.2 x hx).1)) ?_⟩
 refine x0 ?_
 refine⟨Ho.toC_length l,fun i _=>Ho.rowC l i,?_⟩
 refine x0 ?_
 refine⟨Ho.toIE_length ims,fun i _=>Ho.rowIE ims i,?_⟩
 exact xc2
theorem hostHonest_lifted (os:Os) (started:os.Started) (H:Type) (enc:TypeId×Value→H) :
  ReturnsInHanded {} Tryz.checked os 4 .any (Rows.hostHonestSpec.pre6 enc Tryz.prog Tryz.f4 Rows.hostHonestRow.domain false) (Rows.hostHonestSpec.post enc Tryz.prog Tryz.f4 false true false false):=by
 refine returnsInHanded_of_change (C:=Tryz.checked) ownKnob_none started (by kernel_rfl) Tryz.func4
  (ChangeSpec.witness6 (enc:=enc) (C:=Tryz.checked) false ⟨#[],#[Ho.zeroHist,Ho.zeroHonest],[]⟩ 8 (by kernel_rfl) (by kernel_rfl) (by kernel_rfl) (by kernel_rfl)) ?_
 intro W base args ds gs before hval hW _ _
 exact contract_of_pure (ss:=[Ho.tsHist,Ho.tsHonest]) (tb:=4) rfl (by kernel_rfl) (by kernel_rfl) under4
  (fun H ds h=>match ds,h with|[_,_],_=>⟨rfl,rfl,rfl⟩) hostHonest_pure W base args ds gs before hval hW
theorem hostHonest_holds:Rows.HostHonestSaid:=
 OpenClaim.holds_of_wide 4 Tryz.f4 rfl rfl rfl rfl rfl rfl rfl ⟨rfl,rfl,rfl,rfl,rfl⟩ rfl rfl rfl rfl rfl (by kernel_rfl) Tryz.func4 (by kernel_rfl)
  (of_decide_eq_true (by kernel_rfl)) (by unfold Func.isWrapper;first|(rw[if_pos (by decide +kernel)];kernel_rfl)|(rw[if_neg (by decide +kernel)];exact⟨rfl,rfl⟩))
  (fun os started H enc _=>hostHonest_lifted os started H enc)
end Go.Proofs.YtbdcjkcmpcdipaaGreat
