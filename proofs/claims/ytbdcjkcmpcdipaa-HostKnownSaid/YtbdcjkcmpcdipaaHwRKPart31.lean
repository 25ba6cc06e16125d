/- Own work: texts of the proof of a law (HwU). No condition. -/
import Derived.Test.YtbdcjkcmpcdipaaPart30
namespace Go.Proofs
open Go Go.Sx
set_option maxRecDepth 100000
set_option maxHeartbeats 40000000
namespace Ho
theorem upto_near {h:Hist} (g:h.Ok) (hn:h.Near) (time:Int):(h.upto time).Near∧(h.upto time).Ok∧(h.upto time).l.length≤h.l.length:=by
 have hle:(h.upto time).l.length≤h.l.length:=by unfold Hist.upto;rw[List.length_map];exact List.length_filter_le ..
 obtain⟨a,b⟩:=hn.2 g
 exact⟨⟨Nat.le_trans hle hn.1,fun _=>⟨a,by omega⟩⟩,g.upto time,hle⟩
theorem prop_congr {p q:Prop} {d:Decidable p} {e:Decidable q} (h:p↔q):V.prop p d=V.prop q e:=by
 have x:p=q:=propext h
 subst x
 exact congrArg (V.prop p) (Subsingleton.elim _ _)
theorem known3 (h:Hist) (hl:h.l.length≤9223372036854775807) (time:Int):a0o Try.prog 3 false [h.w,.int .i64 time] (·=.prop True inferInstance):=by
 refine a0b Try.E_ok Try.func3 rfl (by kernel_rfl) ?_
 (repeat' ((conv=>whnf);first|(with_reducible first|apply spl|apply spl'|refine iJ ?_)<;>intro hc<;>try(exfalso;omega)|refine vcq ?_|fail));all_goals(try conv=>whnf);try exact trivial
 refine a0d (valid7 h hl) rfl ?_
 rintro _ rfl
 (repeat' ((conv=>whnf);first|(with_reducible first|apply spl|apply spl'|refine iJ ?_)<;>intro hc<;>try(exfalso;omega)|refine vcq ?_|fail));all_goals((try conv=>whnf);try exact trivial);(repeat' ((first|(refine a0d (works8) rfl ?_;rintro _ rfl)|(refine a0f (works8) rfl ?_)|(refine a0l (fun _=>works8) rfl ?_));(repeat' ((conv=>whnf);first|(with_reducible first|apply spl|apply spl'|refine iJ ?_)<;>intro hc<;>try(exfalso;omega)|refine vcq ?_|fail));all_goals((try conv=>whnf);try exact trivial)))
 ·refine⟨_,rfl,?_⟩
  exact⟨Iff.rfl,trivial⟩
 ·obtain⟨hv,ht⟩:(h.Near∧h.Ok)∧0≤time∧time≤999:=by
   refine⟨Classical.byContradiction fun q=>hc (.inl (.inl q)),?_⟩
   omega
  clear hc
  obtain⟨hn,g⟩:=hv
  have hk:=g.known g.lie_spec ht.1
  have hlie:a0o Try.prog 10 false [h.w] (·=.tup [.int .i64 h.lie,.int .i64 0]):=(lie10v h hn).mono fun v e=>by rw[e,if_pos (Hist.chk_of g),Hist.chk_of g]
  have hleg:a0o Try.prog 9 false [h.w] (·=.tup [.prop h.Legal (Classical.propDecidable _),.int .i64 0]):=(legal9 h hn).mono fun v e=>by
   rw[e,Hist.chk_of g]
   exact congrArg (fun x=>V.tup [x,.int .i64 0]) (prop_congr ⟨fun q=>q.2,fun q=>⟨g,q⟩⟩)
  have hunt:a0o Try.prog 11 true [h.w,.int .i64 time] (·=.tup [(h.upto time).w,.int .i64 0]):=(Until11 h (by have:=hn.1;omega) time).mono fun v e=>e.1 g ht
  obtain⟨un,ug,ul⟩:=upto_near g hn time
  have hchk:a0o Try.prog 12 false [(h.upto time).w] (·=.int .i64 0):=(rcheck (h.upto time) (by have:=hn.1;omega)).mono fun v e=>by rw[e,Hist.chk_of ug]
  have hleg2:a0o Try.prog 9 false [(h.upto time).w] (·=.tup [.prop (h.upto time).Legal (Classical.propDecidable _),.int .i64 0]):=(legal9 (h.upto time) un).mono fun v e=>by
   rw[e,Hist.chk_of ug]
   exact congrArg (fun x=>V.tup [x,.int .i64 0]) (prop_congr ⟨fun q=>q.2,fun q=>⟨ug,q⟩⟩)
  have h40:=hn.1
  generalize h.lie=n at *
  generalize h.upto time=u at *
  have hnr:-1≤n∧n<h.l.length:=by
   by_cases q:h.Legal
   ·have:=hk.1.1 q;omega
   ·obtain⟨a,b,_⟩:=hk.2.2 q;omega
  refine a0d hleg rfl ?_
  rintro _ rfl
  (repeat' ((conv=>whnf);first|(with_reducible first|apply spl|apply spl'|refine iJ ?_)<;>intro hc<;>try(exfalso;omega)|refine vcq ?_|fail));all_goals(try conv=>whnf);try exact trivial
  refine a0d hlie rfl ?_
  rintro _ rfl
  (repeat' ((conv=>whnf);first|(with_reducible first|apply spl|apply spl'|refine iJ ?_)<;>intro hc<;>try(exfalso;omega)|refine vcq ?_|fail));all_goals(try conv=>whnf);try exact trivial
  refine a0d hunt rfl ?_
  rintro _ rfl
  (repeat' ((conv=>whnf);first|(with_reducible first|apply spl|apply spl'|refine iJ ?_)<;>intro hc<;>try(exfalso;omega)|refine vcq ?_|fail));all_goals(try conv=>whnf);try exact trivial
  ·clear hc
   refine a0d hchk rfl ?_
   rintro _ rfl
   (repeat' ((conv=>whnf);first|(with_reducible first|apply spl|apply spl'|refine iJ ?_)<;>intro hc<;>try(exfalso;omega)|refine vcq ?_|fail));all_goals(try conv=>whnf);try exact trivial
   refine a0d hleg2 rfl ?_
   rintro _ rfl
   (repeat' ((conv=>whnf);first|(with_reducible first|apply spl|apply spl'|refine iJ ?_)<;>intro hc<;>try(exfalso;omega)|refine vcq ?_|fail));all_goals(try conv=>whnf);try exact trivial
   ·refine a0d works8 rfl ?_
    rintro _ rfl
    (repeat' ((conv=>whnf);first|(with_reducible first|apply spl|apply spl'|refine iJ ?_)<;>intro hc<;>try(exfalso;omega)|refine vcq ?_|fail));all_goals(try conv=>whnf);try exact trivial
    refine⟨_,rfl,?_⟩
    exact⟨Iff.rfl,trivial⟩
   ·exact absurd (hk.2.1 (by assumption)) hc
   ·obtain⟨n1,n2,n3,n4,n5⟩:=hk.2.2 hc
    clear hk hc hnr
    have e0:h.l.getD n.toNat c0=h.at' n.toNat:=rfl
    (repeat' ((conv=>whnf);first|(with_reducible first|apply spl|apply spl'|refine iJ ?_)<;>intro hc<;>try(exfalso;omega)|refine vcq ?_|fail));all_goals(try conv=>whnf);try exact trivial
    ·refine a0d works8 rfl ?_
     rintro _ rfl
     (repeat' ((conv=>whnf);first|(with_reducible first|apply spl|apply spl'|refine iJ ?_)<;>intro hc<;>try(exfalso;omega)|refine vcq ?_|fail));all_goals(try conv=>whnf);try exact trivial
     refine⟨_,rfl,?_⟩
     exact⟨Iff.rfl,trivial⟩
    ·exfalso
     rw[e0] at hc
     refine hc ⟨⟨n3,?_⟩,?_⟩
     ·rcases Int.lt_or_le time (h.at' n.toNat).t with q|q
      ·exact .inr (n4 q)
      ·exact .inl q
     ·rcases Int.lt_or_le time (h.at' n.toNat).t with q|q
      ·exact .inl q
      ·exact .inr (n5 q)
  ·exfalso
   rcases hc with q|q
   ·omega
   ·exact q hk.1
end Ho
end Go.Proofs
