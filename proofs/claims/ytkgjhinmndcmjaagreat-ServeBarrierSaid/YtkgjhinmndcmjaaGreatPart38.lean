/- Own work: texts of the proof of a law (WuG). No condition. -/
import Derived.Test.YtkgjhinmndcmjaaGreatPart37
import Derived.Test.YtkgjhinmndcmjaaGreatPart0
import Derived.Test.YtkgjhinmndcmjaaGreatPart11
set_option linter.unusedVariables false
set_option linter.unusedSimpArgs false
namespace Go.Proofs
open Go Go.Sx
set_option maxRecDepth 100000
set_option maxHeartbeats 40000000
open Ca (Wt epW IsCrs okR okP)
theorem best13 (s:Sv) (hz:s.d.Z.length≤1000000) (hl:s.x.l.length≤1000000) (hsk:s.sk.length≤1000000) (hsec:s.sec.length≤1000000):a0g Tryz.prog 13 true [.agg s.c]
  (fun v=>(s.err=0∧v=.tup [.sl 1 s.best.1.length (a0e natC 0 s.best.1),.int .i64 s.best.2,.int .i64 0])∨s.err≠0∧v=.tup [.lit (.slice none 0 0),.int .i64 0,.int .i64 s.err]):=by
 have ho:=open45 s hz hl hsk hsec
 rw[Sv.ov_eq] at ho
 unfold Sv.c at ho ⊢
 refine a0a Tryz.E_ok Tryz.func13 rfl (by kernel_rfl) ?_
 refine x11 ?_
 refine a0b ho rfl ?_
 rintro _ (⟨he,rfl⟩|⟨he,rfl⟩)
 ·have hs:=Sv.err_ok he
  have hn:=hs.few
  have hnx:=next13 s hs s.W.length [] ([],0,false) true (by simp) (Ca.Pre.nil _)
  have hfa:=s.foldB_all
  unfold Ca.allCrs at hfa
  rw[hfa] at hnx
  unfold crsH bstH bstP Sv.oc at hnx
  unfold Sv.oc
  refine x11 (fun hc=>?_)
  refine a0r Tryz.E_ok Tryz.func46 rfl (by kernel_rfl) ?_
  refine x11 ?_
  refine callee_nil 3 1 (a0e natC 0 []) ?_
  refine x11 ?_
  refine⟨?_,?_⟩
  ·exact xc32
  ·refine a0c [9,6,7,8,5,1,2,3,4] hnx rfl ?_ ?_
   ·refine x11 ?_
    refine⟨by simp,?_⟩
    exact xc32
   ·rintro _ _ ⟨rfl,rfl⟩
    refine x11 ?_
    refine⟨_,.inl ⟨he,rfl⟩,?_⟩
    exact xc32
 ·refine x11 (fun hc=>?_)
  refine⟨_,.inr ⟨he,rfl⟩,?_⟩
  exact xc32
end Go.Proofs
