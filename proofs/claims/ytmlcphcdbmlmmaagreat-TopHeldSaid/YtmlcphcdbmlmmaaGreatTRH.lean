/- The law TopHeld returns true for every input, and leaves its arguments as they were (top, layer 11). No condition. -/
import Derived.Test.YtmlcphcdbmlmmaaGreatTRHPart23
set_option linter.unusedVariables false
set_option linter.unusedSimpArgs false

namespace Go.Proofs.YtmlcphcdbmlmmaaGreat
open Go Go.Sx Go.Proofs
set_option maxRecDepth 100000
theorem topHeld_pure (y:TS.Vals [Tp.tsTrial,Tp.tsHeld]) (hy:TS.wfs [Tp.tsTrial,Tp.tsHeld] y):∃keep,PureC Tryz.prog 3 keep (TS.args [Tp.tsTrial,Tp.tsHeld] y) (·=.prop True inferInstance):=by
 obtain⟨⟨⟨h,t,z,hk,ck,⟨ha,hb,_⟩,⟨ca,cb,_⟩,_⟩,sp,P,ms,fl,mg,sc,mo,nd,_⟩,⟨l,a,b,_⟩,_⟩:=y
 refine⟨_,PureC.view (Tp.topHeld3 ⟨⟨h,t,Tp.toP z,hk,ck,(ha,hb),(ca,cb)⟩,sp,P,ms,fl,mg,sc,mo,nd⟩ (Tp.toP_le z hy.1.1.2.2.1.1) (Tp.ints_le P hy.1.2.2.1.1) (fun i hi=>Tp.ints_le _ (hy.1.2.2.1.2 _ (Tp.getD_mem hi)).1) l (Tp.ints_le l hy.2.1.1.1) a b) ?_⟩
 (repeat' ((conv=>whnf);first|(with_reducible first|apply spl|apply spl'|refine iJ ?_)<;>intro hc<;>try(exfalso;omega)|refine vcq ?_|fail));all_goals(try conv=>whnf);try exact trivial
 refine⟨Tp.toP_length z,fun i _=>Tp.rowP z i,?_⟩
 (repeat' ((conv=>whnf);first|(with_reducible first|apply spl|apply spl'|refine iJ ?_)<;>intro hc<;>try(exfalso;omega)|refine vcq ?_|fail));all_goals(try conv=>whnf);try exact trivial
theorem topHeld_lifted (os:Os) (started:os.Started) (H:Type) (enc:TypeId×Value→H) :
  ReturnsInHanded {} Tryz.checked os 3 .any (Rows.topHeldSpec.pre6 enc Tryz.prog Tryz.f3 Rows.topHeldRow.domain false) (Rows.topHeldSpec.post enc Tryz.prog Tryz.f3 false true false false):=by
 refine returnsInHanded_of_change (C:=Tryz.checked) ownKnob_none started (by kernel_rfl) Tryz.func3
  (ChangeSpec.witness6 (enc:=enc) (C:=Tryz.checked) false ⟨#[],#[Tp.zeroTrial,Tp.zeroHeld],[]⟩ 8 (by kernel_rfl) (by kernel_rfl) (by kernel_rfl) (by kernel_rfl)) ?_
 intro W base args ds gs before hval hW _ _
 exact contract_of_pure (ss:=[Tp.tsTrial,Tp.tsHeld]) (tb:=4) rfl (by kernel_rfl) (by kernel_rfl) under4
  (fun H ds h=>match ds,h with|[_,_],_=>⟨rfl,rfl,rfl⟩) topHeld_pure W base args ds gs before hval hW
theorem topHeld_holds:Rows.TopHeldSaid:=
 OpenClaim.holds_of_wide 3 Tryz.f3 rfl rfl rfl rfl rfl rfl rfl ⟨rfl,rfl,rfl,rfl,rfl⟩ rfl rfl rfl rfl rfl (by kernel_rfl) Tryz.func3 (by kernel_rfl)
  (of_decide_eq_true (by kernel_rfl)) (by unfold Func.isWrapper;first|(rw[if_pos (by decide +kernel)];kernel_rfl)|(rw[if_neg (by decide +kernel)];exact⟨rfl,rfl⟩))
  (fun os started H enc _=>topHeld_lifted os started H enc)
end Go.Proofs.YtmlcphcdbmlmmaaGreat
