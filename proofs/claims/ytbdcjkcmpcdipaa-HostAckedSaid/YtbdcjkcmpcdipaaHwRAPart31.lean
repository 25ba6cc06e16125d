/- Own work: texts of the proof of a law (HwU, HwV). No condition. -/
import Derived.Test.YtbdcjkcmpcdipaaPart30
namespace Go.Proofs
open Go Go.Sx
set_option maxRecDepth 100000
set_option maxHeartbeats 40000000
namespace Ho
end Ho
namespace Ho
theorem ackF_step (h:Hist) (b i:Nat):ackF h b (i+1)=if(h.at' i).k=9 then(-1,(ackF h b i).2) else if(h.at' i).Puts∧(h.at' i).b=b then((i:Int),decide ((h.at' i).k=2)) else if(h.at' i).k=4 then((ackF h b i).1,true) else ackF h b i:=rfl
theorem acked6 (h:Hist) (hl:h.l.length≤9223372036854775807) (b:Int):a0o Try.prog 6 false [h.w,.int .i64 b] (·=.prop True inferInstance):=by
 refine a0b Try.E_ok Try.func6 rfl (by kernel_rfl) ?_
 (repeat' ((conv=>whnf);first|(with_reducible first|apply spl|apply spl'|refine iJ ?_)<;>intro hc<;>try(exfalso;omega)|refine vcq ?_|refine dr 19 ?_|refine dr 6 ?_));all_goals(try conv=>whnf);try exact trivial
 refine a0d (valid7 h hl) rfl ?_
 rintro _ rfl
 (repeat' ((conv=>whnf);first|(with_reducible first|apply spl|apply spl'|refine iJ ?_)<;>intro hc<;>try(exfalso;omega)|refine vcq ?_|refine dr 19 ?_|refine dr 6 ?_));all_goals((try conv=>whnf);try exact trivial);(repeat' ((first|(refine a0d (works8) rfl ?_;rintro _ rfl)|(refine a0f (works8) rfl ?_)|(refine a0l (fun _=>works8) rfl ?_));(repeat' ((conv=>whnf);first|(with_reducible first|apply spl|apply spl'|refine iJ ?_)<;>intro hc<;>try(exfalso;omega)|refine vcq ?_|refine dr 19 ?_|refine dr 6 ?_));all_goals((try conv=>whnf);try exact trivial)))
 ·refine⟨_,rfl,?_⟩
  exact⟨Iff.rfl,trivial⟩
 ·obtain⟨hv,hb⟩:(h.Near∧h.Ok)∧0≤b∧b≤h.n-1:=by
   refine⟨Classical.byContradiction fun q=>hc (.inl (.inl q)),?_⟩
   omega
  clear hc
  obtain⟨hn,g⟩:=hv
  have h40:=hn.1
  have hnn:=g.nn
  obtain⟨bn,rfl⟩:∃bn:Nat,b=bn:=⟨b.toNat,by omega⟩
  have hbn:bn<h.nn:=by omega
  have e0:h.errB (bn:Int)=0:=Hist.errB_ok g hb
  have hfal:a0o Try.prog 19 true [h.w,.int .i64 bn] (·=.tup [.sl 1 (lstOf (h.fl bn)).length (a0u intC 0 (lstOf (h.fl bn))),.int .i64 (if lstOf (h.fl bn)=[] then 3 else 0)]):=(falls19 h hn bn).mono fun v e=>by
   rw[e]
   unfold Hist.ifB Hist.errR
   rw[if_pos e0,if_pos e0,Int.toNat_natCast]
  have hll:(lstOf (h.fl bn)).length≤101:=by
   unfold lstOf
   refine Nat.le_trans (List.length_filter_le ..) ?_
   simp
  refine⟨Nat,fun i=>i≤h.l.length∧∀j,j<i→(h.at' j).t≠-1∧(0<j→¬(h.at' j).f<(h.at' (j-1)).t),fun i=>h.l.length-i,fun i=>[(7,.int .i64 (i:Nat)),(5,.int .i64 (ackF h bn i).1),(6,.prop ((ackF h bn i).2=true) inferInstance)],fun _=>[],fun _=>[],0,⟨⟨by omega,fun j hj=>by omega⟩,some [some 0],?_⟩,?_⟩
  ·(repeat' ((conv=>whnf);first|(with_reducible first|apply spl|apply spl'|refine iJ ?_)<;>intro hc<;>try(exfalso;omega)|refine vcq ?_|refine dr 19 ?_|refine dr 6 ?_));all_goals(try conv=>whnf);try exact trivial
   refine⟨fun q=>absurd (show false=true from q) (by decide),?_⟩
   (repeat' ((conv=>whnf);first|(with_reducible first|apply spl|apply spl'|refine iJ ?_)<;>intro hc<;>try(exfalso;omega)|refine vcq ?_|refine dr 19 ?_|refine dr 6 ?_));all_goals(try conv=>whnf);try exact trivial
  ·rintro i ⟨hi,hI⟩
   have hi0:((i:Nat):Int).toNat=i:=by omega
   have hi1:((i:Nat)-1:Int).toNat=i-1:=by omega
   have c0':h.l.getD ((i:Nat):Int).toNat c0=h.at' i:=by rw[hi0];rfl
   have c1':h.l.getD ((i:Nat)-1:Int).toNat c0=h.at' (i-1):=by rw[hi1];rfl
   have hnext:i<h.l.length→¬((h.at' i).t=-1∨0<((i:Nat):Int)∧(h.at' i).f<(h.at' (i-1)).t)→∀j,j<i+1→(h.at' j).t≠-1∧(0<j→¬(h.at' j).f<(h.at' (j-1)).t):=fun hil hs j hj=>by
    rcases Nat.lt_or_eq_of_le (show j≤i by omega) with q|rfl
    ·exact hI j q
    ·exact⟨fun q=>hs (.inl q),fun q1 q2=>hs (.inr ⟨by omega,q2⟩)⟩
   (repeat' ((conv=>whnf);first|(with_reducible first|apply spl|apply spl'|refine iJ ?_)<;>intro hc<;>try(exfalso;omega)|refine vcq ?_|refine dr 19 ?_|refine dr 6 ?_));all_goals((try conv=>whnf);try exact trivial);(repeat' ((first|(refine a0d (works8) rfl ?_;rintro _ rfl)|(refine a0f (works8) rfl ?_)|(refine a0l (fun _=>works8) rfl ?_)|(refine a0d (rputs (h.at' i)) rfl ?_;rintro _ rfl)|(refine a0f (rputs (h.at' i)) rfl ?_)|(refine a0l (fun _=>rputs (h.at' i)) rfl ?_));(repeat' ((conv=>whnf);first|(with_reducible first|apply spl|apply spl'|refine iJ ?_)<;>intro hc<;>try(exfalso;omega)|refine vcq ?_|refine dr 19 ?_|refine dr 6 ?_));all_goals((try conv=>whnf);try exact trivial)))
   all_goals try simp only[c0',c1'] at *
   ·refine⟨_,rfl,?_⟩
    exact⟨Iff.rfl,trivial⟩
   ·have hs:¬((h.at' i).t=-1∨0<((i:Nat):Int)∧(h.at' i).f<(h.at' (i-1)).t):=by assumption
    have hstep:=ackF_step h bn i
    rw[if_pos hc] at hstep
    refine⟨i+1,⟨⟨by omega,hnext (by omega) hs⟩,by omega⟩,some [some 0],?_⟩
    try dsimp only
    rw[hstep]
    (repeat' ((conv=>whnf);first|(with_reducible first|apply spl|apply spl'|refine iJ ?_)<;>intro hc<;>try(exfalso;omega)|refine vcq ?_|refine dr 19 ?_|refine dr 6 ?_));all_goals(try conv=>whnf);try exact trivial
   ·have hs:¬((h.at' i).t=-1∨0<((i:Nat):Int)∧(h.at' i).f<(h.at' (i-1)).t):=by assumption
    have hstep:=ackF_step h bn i
    have n9:¬(h.at' i).k=9:=by assumption
    rw[if_neg n9,if_pos hc] at hstep
    refine⟨i+1,⟨⟨by omega,hnext (by omega) hs⟩,by omega⟩,some [some 0],?_⟩
    try dsimp only
    rw[hstep]
    (repeat' ((conv=>whnf);first|(with_reducible first|apply spl|apply spl'|refine iJ ?_)<;>intro hc<;>try(exfalso;omega)|refine vcq ?_|refine dr 19 ?_|refine dr 6 ?_));all_goals(try conv=>whnf);try exact trivial
    refine⟨by rw[decide_eq_true_iff];exact Iff.rfl,?_⟩
    (repeat' ((conv=>whnf);first|(with_reducible first|apply spl|apply spl'|refine iJ ?_)<;>intro hc<;>try(exfalso;omega)|refine vcq ?_|refine dr 19 ?_|refine dr 6 ?_));all_goals(try conv=>whnf);try exact trivial
   ·have hs:¬((h.at' i).t=-1∨0<((i:Nat):Int)∧(h.at' i).f<(h.at' (i-1)).t):=by assumption
    have hstep:=ackF_step h bn i
    have n9:¬(h.at' i).k=9:=by assumption
    have np:¬((h.at' i).Puts∧(h.at' i).b=bn):=by assumption
    rw[if_neg n9,if_neg np,if_pos hc] at hstep
    refine⟨i+1,⟨⟨by omega,hnext (by omega) hs⟩,by omega⟩,some [some 0],?_⟩
    try dsimp only
    rw[hstep]
    (repeat' ((conv=>whnf);first|(with_reducible first|apply spl|apply spl'|refine iJ ?_)<;>intro hc<;>try(exfalso;omega)|refine vcq ?_|refine dr 19 ?_|refine dr 6 ?_));all_goals(try conv=>whnf);try exact trivial
   ·have hs:¬((h.at' i).t=-1∨0<((i:Nat):Int)∧(h.at' i).f<(h.at' (i-1)).t):=by assumption
    have hstep:=ackF_step h bn i
    have n9:¬(h.at' i).k=9:=by assumption
    have np:¬((h.at' i).Puts∧(h.at' i).b=bn):=by assumption
    rw[if_neg n9,if_neg np,if_neg hc] at hstep
    refine⟨i+1,⟨⟨by omega,hnext (by omega) hs⟩,by omega⟩,some [some 0],?_⟩
    try dsimp only
    rw[hstep]
    (repeat' ((conv=>whnf);first|(with_reducible first|apply spl|apply spl'|refine iJ ?_)<;>intro hc<;>try(exfalso;omega)|refine vcq ?_|refine dr 19 ?_|refine dr 6 ?_));all_goals(try conv=>whnf);try exact trivial
   ·obtain rfl:i=h.l.length:=by omega
    have hseq:Seq h:=hI
    have hak:=fun q1 q2 v hv=>g.acked hseq hbn q1 q2 (v:=v) hv
    have hlt:=ackF_lt h bn h.l.length
    have hmem:=fun v=>mem_lstOf (P:=h.fl bn) (v:=v)
    have hrg:=fun v=>g.fl_range hbn (v:=v)
    generalize ackF h bn h.l.length=A at *
    obtain⟨A1,A2⟩:=A
    dsimp only at hak hlt ⊢
    refine a0d hfal rfl ?_
    rintro _ rfl
    have hne:lstOf (h.fl bn)≠[]→∃v,h.fl bn v:=fun q=>by
     obtain⟨v,hv⟩:=List.exists_mem_of_ne_nil _ q
     exact⟨v,((hmem v).1 hv).2⟩
    (repeat' ((conv=>whnf);first|(with_reducible first|apply spl|apply spl'|refine iJ ?_)<;>intro hc<;>try(exfalso;omega)|refine vcq ?_|refine dr 19 ?_|refine dr 6 ?_));all_goals(try conv=>whnf);try exact trivial
    ·refine a0d works8 rfl ?_
     rintro _ rfl
     (repeat' ((conv=>whnf);first|(with_reducible first|apply spl|apply spl'|refine iJ ?_)<;>intro hc<;>try(exfalso;omega)|refine vcq ?_|refine dr 19 ?_|refine dr 6 ?_));all_goals(try conv=>whnf);try exact trivial
     refine⟨_,rfl,?_⟩
     exact⟨Iff.rfl,trivial⟩
    ·have hD0:lstOf (h.fl bn)≠[]:=fun q=>by
      have:¬(if lstOf (h.fl bn)=[] then 3 else 0:Int)≠0:=by assumption
      rw[if_pos q] at this
      omega
     obtain⟨v,hv⟩:=hne hD0
     have hD:lstOf (h.fl bn)=[(h.at' A1.toNat).v]:=(eq_lstOf (by simp) (fun w=>by
      rw[List.mem_singleton]
      refine⟨fun e=>?_,fun q=>hak hc.1 hc.2 w q⟩
      rw[e,←hak hc.1 hc.2 v hv]
      exact hv) hrg).symm
     have e1:h.l.getD A1.toNat c0=h.at' A1.toNat:=rfl
     rw[e1]
     refine callee_view (same17 (lstOf (h.fl bn)) [(h.at' A1.toNat).v] (by omega) (by show 1≤137438953472;omega)) ?_
     (repeat' ((conv=>whnf);first|(with_reducible first|apply spl|apply spl'|refine iJ ?_)<;>intro hc<;>try(exfalso;omega)|refine vcq ?_|refine dr 19 ?_|refine dr 6 ?_));all_goals(try conv=>whnf);try exact trivial
     refine⟨fun i hi=>?_,.inl rfl,?_⟩
     ·obtain rfl:i=0:=by omega
      rfl
     (repeat' ((conv=>whnf);first|(with_reducible first|apply spl|apply spl'|refine iJ ?_)<;>intro hc<;>try(exfalso;omega)|refine vcq ?_|refine dr 19 ?_|refine dr 6 ?_));all_goals(try conv=>whnf);try exact trivial
     rintro _ rfl
     (repeat' ((conv=>whnf);first|(with_reducible first|apply spl|apply spl'|refine iJ ?_)<;>intro hc<;>try(exfalso;omega)|refine vcq ?_|refine dr 19 ?_|refine dr 6 ?_));all_goals(try conv=>whnf);try exact trivial
     ·refine a0d works8 rfl ?_
      rintro _ rfl
      (repeat' ((conv=>whnf);first|(with_reducible first|apply spl|apply spl'|refine iJ ?_)<;>intro hc<;>try(exfalso;omega)|refine vcq ?_|refine dr 19 ?_|refine dr 6 ?_));all_goals(try conv=>whnf);try exact trivial
      refine⟨_,rfl,?_⟩
      exact⟨Iff.rfl,trivial⟩
     ·exact absurd hD (by assumption)
    ·refine a0d works8 rfl ?_
     rintro _ rfl
     (repeat' ((conv=>whnf);first|(with_reducible first|apply spl|apply spl'|refine iJ ?_)<;>intro hc<;>try(exfalso;omega)|refine vcq ?_|refine dr 19 ?_|refine dr 6 ?_));all_goals(try conv=>whnf);try exact trivial
     refine⟨_,rfl,?_⟩
     exact⟨Iff.rfl,trivial⟩
    ·exfalso
     have hD0:lstOf (h.fl bn)≠[]:=fun q=>by
      have:¬(if lstOf (h.fl bn)=[] then 3 else 0:Int)≠0:=by assumption
      rw[if_pos q] at this
      omega
     have:=List.length_pos_iff.2 hD0
     omega
end Ho
end Go.Proofs
