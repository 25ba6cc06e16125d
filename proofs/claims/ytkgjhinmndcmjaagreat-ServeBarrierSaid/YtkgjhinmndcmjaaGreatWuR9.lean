/- The law ServeBarrier returns true for every input, and leaves its arguments as they were (layer 15). No condition. -/
import Derived.Test.YtkgjhinmndcmjaaGreatPart39
import Derived.Test.YtkgjhinmndcmjaaGreatPart42
import Derived.Test.YtkgjhinmndcmjaaGreatPart0
import Derived.Test.YtkgjhinmndcmjaaGreatPart11
set_option linter.unusedVariables false
set_option linter.unusedSimpArgs false

namespace Go.Proofs.YtkgjhinmndcmjaaGreat
open Go Go.Sx Go.Proofs
set_option maxRecDepth 100000
theorem serveBarrier_pure (y:TS.Vals [tsServing,tsMoment]) (hy:TS.wfs [tsServing,tsMoment] y):∃keep,a0g Tryz.prog 9 keep (TS.args [tsServing,tsMoment] y) (·=.prop True inferInstance):=by
 obtain⟨⟨⟨n,ol,_⟩,⟨h,t,z,hk,ck,⟨ha,hb,_⟩,⟨ca,cb,_⟩,_⟩,sk,cy,sec,_⟩,⟨l,x,_⟩,_⟩:=y
 refine⟨_,a0g.view (ServeBarrier9 ⟨⟨n,toP ol⟩,⟨h,t,toP z,hk,ck,(ha,hb),(ca,cb)⟩,toP sk,cy,sec⟩ (toP_le z hy.1.2.1.2.2.1.1) (toP_le ol hy.1.1.2.1.1) (toP_le sk hy.1.2.2.1.1) (ints_le sec hy.1.2.2.2.2.1.1) l (ints_le l hy.2.1.1.1) x) ?_⟩
 refine x1 ?_
 refine⟨toP_length ol,fun i _=>rowO ol i,?_⟩
 refine x1 ?_
 refine⟨toP_length z,fun i _=>rowP z i,?_⟩
 refine x1 ?_
 refine⟨toP_length sk,fun i _=>rowP sk i,?_⟩
 exact xc0
theorem serveBarrier_lifted (os:Os) (started:os.Started) (H:Type) (enc:TypeId×Value→H) :
  ReturnsInHanded {} Tryz.checked os 9 .any (Rows.serveBarrierSpec.pre6 enc Tryz.prog Tryz.f9 Rows.serveBarrierRow.domain false) (Rows.serveBarrierSpec.post enc Tryz.prog Tryz.f9 false true false false):=by
 refine returnsInHanded_of_change (C:=Tryz.checked) ownKnob_none started (by kernel_rfl) Tryz.func9
  (ChangeSpec.witness6 (enc:=enc) (C:=Tryz.checked) false ⟨#[],#[zeroServing,zeroMoment],[]⟩ 8 (by kernel_rfl) (by kernel_rfl) (by kernel_rfl) (by kernel_rfl)) ?_
 intro W base args ds gs before hval hW _ _
 exact contract_of_pure (ss:=[tsServing,tsMoment]) (tb:=4) rfl (by kernel_rfl) (by kernel_rfl) under4
  (fun H ds h=>match ds,h with|[_,_],_=>⟨rfl,rfl,rfl⟩) serveBarrier_pure W base args ds gs before hval hW
theorem serveBarrier_holds:Rows.ServeBarrierSaid:=
 OpenClaim.holds_of_wide 9 Tryz.f9 rfl rfl rfl rfl rfl rfl rfl ⟨rfl,rfl,rfl,rfl,rfl⟩ rfl rfl rfl rfl rfl (by kernel_rfl) Tryz.func9 (by kernel_rfl)
  (of_decide_eq_true (by kernel_rfl)) (by unfold Func.isWrapper;first|(rw[if_pos (by decide +kernel)];kernel_rfl)|(rw[if_neg (by decide +kernel)];exact⟨rfl,rfl⟩))
  (fun os started H enc _=>serveBarrier_lifted os started H enc)
end Go.Proofs.YtkgjhinmndcmjaaGreat
