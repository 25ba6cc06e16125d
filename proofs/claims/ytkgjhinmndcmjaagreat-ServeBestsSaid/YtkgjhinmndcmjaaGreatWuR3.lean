/- The law ServeBests returns true for every input, and leaves its arguments as they were (layer 15). No condition. -/
import Derived.Test.YtkgjhinmndcmjaaGreatWuR3Part27

namespace Go.Proofs.YtkgjhinmndcmjaaGreat
open Go Go.Sx Go.Proofs
set_option maxRecDepth 100000
theorem serveBests_pure (y:TS.Vals [tsServing,tsMoment]) (hy:TS.wfs [tsServing,tsMoment] y):∃keep,a0h Tryz.prog 3 keep (TS.args [tsServing,tsMoment] y) (·=.prop True inferInstance):=by
 obtain⟨⟨⟨n,ol,_⟩,⟨h,t,z,hk,ck,⟨ha,hb,_⟩,⟨ca,cb,_⟩,_⟩,sk,cy,sec,_⟩,⟨l,x,_⟩,_⟩:=y
 refine⟨_,a0h.view (ServeBests3 ⟨⟨n,toP ol⟩,⟨h,t,toP z,hk,ck,(ha,hb),(ca,cb)⟩,toP sk,cy,sec⟩ (toP_le z hy.1.2.1.2.2.1.1) (toP_le ol hy.1.1.2.1.1) (toP_le sk hy.1.2.2.1.1) (ints_le sec hy.1.2.2.2.2.1.1) l (ints_le l hy.2.1.1.1) x) ?_⟩
 (repeat' ((conv=>whnf);first|(with_reducible first|apply spl|apply spl'|refine iJ ?_)<;>intro hc<;>try(exfalso;omega)|refine vcq ?_|fail));all_goals(try conv=>whnf);try exact trivial
 refine⟨toP_length ol,fun i _=>rowO ol i,?_⟩
 (repeat' ((conv=>whnf);first|(with_reducible first|apply spl|apply spl'|refine iJ ?_)<;>intro hc<;>try(exfalso;omega)|refine vcq ?_|fail));all_goals(try conv=>whnf);try exact trivial
 refine⟨toP_length z,fun i _=>rowP z i,?_⟩
 (repeat' ((conv=>whnf);first|(with_reducible first|apply spl|apply spl'|refine iJ ?_)<;>intro hc<;>try(exfalso;omega)|refine vcq ?_|fail));all_goals(try conv=>whnf);try exact trivial
 refine⟨toP_length sk,fun i _=>rowP sk i,?_⟩
 (repeat' ((conv=>whnf);first|(with_reducible first|apply spl|apply spl'|refine iJ ?_)<;>intro hc<;>try(exfalso;omega)|refine vcq ?_|fail));all_goals(try conv=>whnf);try exact trivial
theorem serveBests_lifted (os:Os) (started:os.Started) (H:Type) (enc:TypeId×Value→H) :
  ReturnsInHanded {} Tryz.checked os 3 .any (Rows.serveBestsSpec.pre6 enc Tryz.prog Tryz.f3 Rows.serveBestsRow.domain false) (Rows.serveBestsSpec.post enc Tryz.prog Tryz.f3 false true false false):=by
 refine returnsInHanded_of_change (C:=Tryz.checked) ownKnob_none started (by kernel_rfl) Tryz.func3
  (ChangeSpec.witness6 (enc:=enc) (C:=Tryz.checked) false ⟨#[],#[zeroServing,zeroMoment],[]⟩ 8 (by kernel_rfl) (by kernel_rfl) (by kernel_rfl) (by kernel_rfl)) ?_
 intro W base args ds gs before hval hW _ _
 exact contract_of_pure (ss:=[tsServing,tsMoment]) (tb:=4) rfl (by kernel_rfl) (by kernel_rfl) under4
  (fun H ds h=>match ds,h with|[_,_],_=>⟨rfl,rfl,rfl⟩) serveBests_pure W base args ds gs before hval hW
theorem serveBests_holds:Rows.ServeBestsSaid:=
 OpenClaim.holds_of_wide 3 Tryz.f3 rfl rfl rfl rfl rfl rfl rfl ⟨rfl,rfl,rfl,rfl,rfl⟩ rfl rfl rfl rfl rfl (by kernel_rfl) Tryz.func3 (by kernel_rfl)
  (of_decide_eq_true (by kernel_rfl)) (by unfold Func.isWrapper;first|(rw[if_pos (by decide +kernel)];kernel_rfl)|(rw[if_neg (by decide +kernel)];exact⟨rfl,rfl⟩))
  (fun os started H enc _=>serveBests_lifted os started H enc)
end Go.Proofs.YtkgjhinmndcmjaaGreat
