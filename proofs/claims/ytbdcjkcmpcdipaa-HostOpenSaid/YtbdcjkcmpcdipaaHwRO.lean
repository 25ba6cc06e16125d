/- The law HostOpen returns true for every input, and leaves its arguments as they were (layer 17). No condition. -/
import Derived.Test.YtbdcjkcmpcdipaaHwROPart31

namespace Go.Proofs.Ytbdcjkcmpcdipaa
open Go Go.Sx Go.Proofs
set_option maxRecDepth 100000
theorem hostOpen_pure (y:TS.Vals [Ho.tsHist,Ho.tsCmd,.int .i64]) (hy:TS.wfs [Ho.tsHist,Ho.tsCmd,.int .i64] y):∃keep,a0o Try.prog 4 keep (TS.args [Ho.tsHist,Ho.tsCmd,.int .i64] y) (·=.prop True inferInstance):=by
 obtain⟨⟨n,l,_⟩,⟨k,b,v,f,e,_⟩,t,_⟩:=y
 refine⟨_,a0o.view (Ho.open4 ⟨n,Ho.toC l⟩ (Ho.toC_le l hy.1.2.1.1) ⟨k,b,v,f,e⟩ t) ?_⟩
 (repeat' ((conv=>whnf);first|(with_reducible first|apply spl|apply spl'|refine iJ ?_)<;>intro hc<;>try(exfalso;omega)|refine vcq ?_|fail));all_goals(try conv=>whnf);try exact trivial
 refine⟨Ho.toC_length l,fun i _=>Ho.rowC l i,?_⟩
 (repeat' ((conv=>whnf);first|(with_reducible first|apply spl|apply spl'|refine iJ ?_)<;>intro hc<;>try(exfalso;omega)|refine vcq ?_|fail));all_goals(try conv=>whnf);try exact trivial
theorem hostOpen_lifted (os:Os) (started:os.Started) (H:Type) (enc:TypeId×Value→H) :
  ReturnsInHanded {} Try.checked os 4 .any (Rows.hostOpenSpec.pre6 enc Try.prog Try.f4 Rows.hostOpenRow.domain false) (Rows.hostOpenSpec.post enc Try.prog Try.f4 false true false false):=by
 refine returnsInHanded_of_change (C:=Try.checked) ownKnob_none started (by kernel_rfl) Try.func4
  (ChangeSpec.witness6 (enc:=enc) (C:=Try.checked) false ⟨#[],#[Ho.zeroHist,Ho.zeroCmd,Ho.zI],[]⟩ 8 (by kernel_rfl) (by kernel_rfl) (by kernel_rfl) (by kernel_rfl)) ?_
 intro W base args ds gs before hval hW _ _
 exact contract_of_pure (ss:=[Ho.tsHist,Ho.tsCmd,.int .i64]) (tb:=4) rfl (by kernel_rfl) (by kernel_rfl) under4
  (fun H ds h=>match ds,h with|[_,_,_],_=>⟨rfl,rfl,rfl⟩) hostOpen_pure W base args ds gs before hval hW
theorem hostOpen_holds:Rows.HostOpenSaid:=
 OpenClaim.holds_of_wide 4 Try.f4 rfl rfl rfl rfl rfl rfl rfl ⟨rfl,rfl,rfl,rfl,rfl⟩ rfl rfl rfl rfl rfl (by kernel_rfl) Try.func4 (by kernel_rfl)
  (of_decide_eq_true (by kernel_rfl)) (by unfold Func.isWrapper;first|(rw[if_pos (by decide +kernel)];kernel_rfl)|(rw[if_neg (by decide +kernel)];exact⟨rfl,rfl⟩))
  (fun os started H enc _=>hostOpen_lifted os started H enc)
end Go.Proofs.Ytbdcjkcmpcdipaa
