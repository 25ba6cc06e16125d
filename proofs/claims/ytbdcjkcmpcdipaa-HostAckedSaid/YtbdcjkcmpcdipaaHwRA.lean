/- The law HostAcked returns true for every input, and leaves its arguments as they were (layer 17). No condition. -/
import Derived.Test.YtbdcjkcmpcdipaaHwRAPart31

namespace Go.Proofs.Ytbdcjkcmpcdipaa
open Go Go.Sx Go.Proofs
set_option maxRecDepth 100000
theorem hostAcked_pure (y:TS.Vals [Ho.tsHist,.int .i64]) (hy:TS.wfs [Ho.tsHist,.int .i64] y):∃keep,a0o Try.prog 6 keep (TS.args [Ho.tsHist,.int .i64] y) (·=.prop True inferInstance):=by
 obtain⟨⟨n,l,_⟩,t,_⟩:=y
 refine⟨_,a0o.view (Ho.acked6 ⟨n,Ho.toC l⟩ (Ho.toC_le l hy.1.2.1.1) t) ?_⟩
 (repeat' ((conv=>whnf);first|(with_reducible first|apply spl|apply spl'|refine iJ ?_)<;>intro hc<;>try(exfalso;omega)|refine vcq ?_|fail));all_goals(try conv=>whnf);try exact trivial
 refine⟨Ho.toC_length l,fun i _=>Ho.rowC l i,?_⟩
 (repeat' ((conv=>whnf);first|(with_reducible first|apply spl|apply spl'|refine iJ ?_)<;>intro hc<;>try(exfalso;omega)|refine vcq ?_|fail));all_goals(try conv=>whnf);try exact trivial
theorem hostAcked_lifted (os:Os) (started:os.Started) (H:Type) (enc:TypeId×Value→H) :
  ReturnsInHanded {} Try.checked os 6 .any (Rows.hostAckedSpec.pre6 enc Try.prog Try.f6 Rows.hostAckedRow.domain false) (Rows.hostAckedSpec.post enc Try.prog Try.f6 false true false false):=by
 refine returnsInHanded_of_change (C:=Try.checked) ownKnob_none started (by kernel_rfl) Try.func6
  (ChangeSpec.witness6 (enc:=enc) (C:=Try.checked) false ⟨#[],#[Ho.zeroHist,Ho.zI],[]⟩ 8 (by kernel_rfl) (by kernel_rfl) (by kernel_rfl) (by kernel_rfl)) ?_
 intro W base args ds gs before hval hW _ _
 exact contract_of_pure (ss:=[Ho.tsHist,.int .i64]) (tb:=4) rfl (by kernel_rfl) (by kernel_rfl) under4
  (fun H ds h=>match ds,h with|[_,_],_=>⟨rfl,rfl,rfl⟩) hostAcked_pure W base args ds gs before hval hW
theorem hostAcked_holds:Rows.HostAckedSaid:=
 OpenClaim.holds_of_wide 6 Try.f6 rfl rfl rfl rfl rfl rfl rfl ⟨rfl,rfl,rfl,rfl,rfl⟩ rfl rfl rfl rfl rfl (by kernel_rfl) Try.func6 (by kernel_rfl)
  (of_decide_eq_true (by kernel_rfl)) (by unfold Func.isWrapper;first|(rw[if_pos (by decide +kernel)];kernel_rfl)|(rw[if_neg (by decide +kernel)];exact⟨rfl,rfl⟩))
  (fun os started H enc _=>hostAcked_lifted os started H enc)
end Go.Proofs.Ytbdcjkcmpcdipaa
