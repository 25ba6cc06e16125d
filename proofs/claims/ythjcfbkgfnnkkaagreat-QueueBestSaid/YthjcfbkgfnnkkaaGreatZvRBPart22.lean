/- Own work: texts of the proof of a law (ZvJ). No condition. -/
import Derived.Test.YthjcfbkgfnnkkaaGreatZvRBPart21
namespace Go.Proofs
open Go Go.Sx
set_option maxRecDepth 100000
set_option maxHeartbeats 40000000
theorem First_any (q : Qu) (hq : q.Ok) : ∃ (fr : Nat) (fe : Int), PureC Tryz.prog 19 false [.agg q.c] (· = .tup [.int .i64 fr, .int .i64 fe]) ∧ ((fe = 3 ∧ q.rq.length = 0) ∨ (fe = 0 ∧ fr < q.rq.length ∧ ∀ o ∈ q.all q.pas, q.one fr ≤ q.one (o.getD 0 0))) := by
  rcases Nat.eq_zero_or_pos q.rq.length with hn | hn
  · exact ⟨0, 3, First19z q hq hn, .inl ⟨rfl, hn⟩⟩
  · obtain ⟨h1, h2, h3⟩ := Qu.fst_min (q := q) hn
    have hF := First19 q hq hn
    refine ⟨q.fst.1.toNat, 0, ?_, .inr ⟨rfl, h2, h3⟩⟩
    rw [Int.toNat_of_nonneg h1]
    exact hF
theorem Best4 (q : Qu) (hz : q.d.Z.length ≤ 9223372036854775807) (hsk : q.sk.length ≤ 9223372036854775807) (hrq : q.rq.length ≤ 9223372036854775807) (l : List Int) (hl : l.length ≤ 9223372036854775807) :
    PureC Tryz.prog 4 false [.agg q.c, .sl 1 l.length (rowOf intC 0 l)] (· = .prop True inferInstance) := by
  refine pureC_of_exec Tryz.E_ok Tryz.func4 rfl (by kernel_rfl) ?_
  (repeat' ((conv => whnf); (first | (with_reducible first | apply spl | apply spl') <;> intro hc <;> try (exfalso; omega) | with_reducible refine iJ fun hc => ?_ | refine vcq (k := ?_) | refine dr 32 (k := ?_) | refine dr 10 (k := ?_)))); all_goals ((try conv => whnf); try with_reducible exact trivial); (repeat' ((first | (refine callee_fo (ready8 q hz hsk hrq) rfl ?_; rintro _ rfl) | (refine pcall_intro (ready8 q hz hsk hrq) rfl ?_) | (refine pcall_soft (fun _ => ready8 q hz hsk hrq) rfl ?_) | (refine callee_fo (works10) rfl ?_; rintro _ rfl) | (refine pcall_intro (works10) rfl ?_) | (refine pcall_soft (fun _ => works10) rfl ?_)); (repeat' ((conv => whnf); (first | (with_reducible first | apply spl | apply spl') <;> intro hc <;> try (exfalso; omega) | with_reducible refine iJ fun hc => ?_ | refine vcq (k := ?_) | refine dr 32 (k := ?_) | refine dr 10 (k := ?_)))); all_goals ((try conv => whnf); try with_reducible exact trivial)))
  · refine ⟨_, rfl, ?_⟩
    (repeat' ((conv => whnf); (first | (with_reducible first | apply spl | apply spl') <;> intro hc <;> try (exfalso; omega) | with_reducible refine iJ fun hc => ?_ | refine vcq (k := ?_) | refine dr 32 (k := ?_) | refine dr 10 (k := ?_)))); all_goals ((try conv => whnf); try with_reducible exact trivial)
  · obtain ⟨hs, _⟩ := Qu.ready (q := q) (Classical.not_not.1 fun g => hc (.inl g))
    have hq := hs.ok
    have hrn := hs.rql
    have hl20 : l.length ≤ 20 := by omega
    clear hc
    obtain ⟨hbm, hb2, hb3⟩ := q.best_ok q.pas
    have hO := Order18 q hq
    rw [hb2] at hO hb3
    dsimp only at hO hb3
    have hoo := q.all_ord hbm
    have hoa := (mem_allQ.1 hbm).2
    clear hbm hb2
    generalize (q.best q.pas).1 = own at *
    have hol := hoo.len
    have holn : own.length = q.rq.length := hol
    obtain ⟨fr, fe, hF, hfe⟩ := First_any q hq
    refine callee_fo hO rfl ?_
    rintro _ rfl
    (repeat' ((conv => whnf); (first | (with_reducible first | apply spl | apply spl') <;> intro hc <;> try (exfalso; omega) | with_reducible refine iJ fun hc => ?_ | refine vcq (k := ?_) | refine dr 32 (k := ?_) | refine dr 10 (k := ?_)))); all_goals ((try conv => whnf); try with_reducible exact trivial)
    refine callee_fo hF rfl ?_
    rintro _ rfl
    (repeat' ((conv => whnf); (first | (with_reducible first | apply spl | apply spl') <;> intro hc <;> try (exfalso; omega) | with_reducible refine iJ fun hc => ?_ | refine vcq (k := ?_) | refine dr 32 (k := ?_) | refine dr 10 (k := ?_)))); all_goals ((try conv => whnf); try with_reducible exact trivial); (repeat' ((first | (refine callee_fo (IsOrderN q (by omega) own hoo) rfl ?_; rintro _ rfl) | (refine pcall_intro (IsOrderN q (by omega) own hoo) rfl ?_) | (refine pcall_soft (fun _ => IsOrderN q (by omega) own hoo) rfl ?_) | (refine callee_fo (IsAllowedN q hq own hoo hoa) rfl ?_; rintro _ rfl) | (refine pcall_intro (IsAllowedN q hq own hoo hoa) rfl ?_) | (refine pcall_soft (fun _ => IsAllowedN q hq own hoo hoa) rfl ?_) | (refine callee_fo (IsRequest22 q (by omega) _) rfl ?_; rintro _ rfl) | (refine pcall_intro (IsRequest22 q (by omega) _) rfl ?_) | (refine pcall_soft (fun _ => IsRequest22 q (by omega) _) rfl ?_)); (repeat' ((conv => whnf); (first | (with_reducible first | apply spl | apply spl') <;> intro hc <;> try (exfalso; omega) | with_reducible refine iJ fun hc => ?_ | refine vcq (k := ?_) | refine dr 32 (k := ?_) | refine dr 10 (k := ?_)))); all_goals ((try conv => whnf); try with_reducible exact trivial)))
    clear hc
    refine callee_fo (Ends11 q hq own hoo) rfl ?_
    rintro _ rfl
    (repeat' ((conv => whnf); (first | (with_reducible first | apply spl | apply spl') <;> intro hc <;> try (exfalso; omega) | with_reducible refine iJ fun hc => ?_ | refine vcq (k := ?_) | refine dr 32 (k := ?_) | refine dr 10 (k := ?_)))); all_goals ((try conv => whnf); try with_reducible exact trivial)
    have hlc : q.lateC own = q.lateTo own q.rq.length := rfl
    have hec : q.endC own = q.mxE own q.rq.length := (Qu.mxE_all hq hoo).symm
    have hlb := q.lateTo_bnd own
    refine ⟨Nat, fun i => i ≤ own.length, fun i => own.length - i, fun i => [(15, .int .i64 (i : Nat)), (13, .int .i64 (q.lateTo own i)), (14, .int .i64 (q.mxE own i))], fun _ => [], fun _ => [], 0, ⟨by omega, none, ?_⟩, ?_⟩
    · (repeat' ((conv => whnf); (first | (with_reducible first | apply spl | apply spl') <;> intro hc <;> try (exfalso; omega) | with_reducible refine iJ fun hc => ?_ | refine vcq (k := ?_) | refine dr 32 (k := ?_) | refine dr 10 (k := ?_)))); all_goals ((try conv => whnf); try with_reducible exact trivial)
    · intro i hi
      have hi : i ≤ own.length := hi
      have hti : (i : Int).toNat = i := Int.toNat_natCast i
      have hlbi := hlb i
      have hse : q.mxE own (i + 1) = max (q.mxE own i) (q.endOf true own i) := rfl
      (repeat' ((conv => whnf); (first | (with_reducible first | apply spl | apply spl') <;> intro hc <;> try (exfalso; omega) | with_reducible refine iJ fun hc => ?_ | refine vcq (k := ?_) | refine dr 10 (k := ?_)))); all_goals ((try conv => whnf); try with_reducible exact trivial)
      · rw [hti] at hc
        have hsl : q.lateTo own (i + 1) = q.lateTo own i + 1 := by
          show q.lateTo own i + (if q.isLate own i then 1 else 0) = _
          rw [if_pos (c := q.isLate own i) hc]
        refine ⟨i + 1, ⟨by omega, by dsimp only; omega⟩, none, ?_⟩
        dsimp only
        rw [hsl, hse, hti]
        (repeat' ((conv => whnf); (first | (with_reducible first | apply spl | apply spl') <;> intro hc <;> try (exfalso; omega) | with_reducible refine iJ fun hc => ?_ | refine vcq (k := ?_) | refine dr 32 (k := ?_) | refine dr 10 (k := ?_)))); all_goals ((try conv => whnf); try with_reducible exact trivial)
      · rw [hti] at hc
        have hsl : q.lateTo own (i + 1) = q.lateTo own i := by
          show q.lateTo own i + (if q.isLate own i then 1 else 0) = _
          rw [if_neg (c := q.isLate own i) hc]
          omega
        refine ⟨i + 1, ⟨by omega, by dsimp only; omega⟩, none, ?_⟩
        dsimp only
        rw [hsl, hse, hti]
        (repeat' ((conv => whnf); (first | (with_reducible first | apply spl | apply spl') <;> intro hc <;> try (exfalso; omega) | with_reducible refine iJ fun hc => ?_ | refine vcq (k := ?_) | refine dr 32 (k := ?_) | refine dr 10 (k := ?_)))); all_goals ((try conv => whnf); try with_reducible exact trivial)
      · exfalso
        have he : i = q.rq.length := by omega
        rw [he, ← hlc, ← hec] at hc
        rcases hc with g | g
        · exact g rfl
        · exact g rfl
      · clear hc hlc hec hlbi hse hlb hO hoa
        by_cases hoI : IsOrdI q.rq.length l
        · have hll : l.length = (l.map Int.toNat).length := by simp
          have ho := hoI.ord
          rw [hoI.row, hll]
          clear hi
          generalize l.map Int.toNat = o at *
          have holo := ho.len
          refine callee_fo (IsOrderN q (by omega) o ho) rfl ?_
          rintro _ rfl
          (repeat' ((conv => whnf); (first | (with_reducible first | apply spl | apply spl') <;> intro hc <;> try (exfalso; omega) | with_reducible refine iJ fun hc => ?_ | refine vcq (k := ?_) | refine dr 32 (k := ?_) | refine dr 10 (k := ?_)))); all_goals ((try conv => whnf); try with_reducible exact trivial); (repeat' ((first | (refine callee_fo (IsAllowed24 q hq o ho) rfl ?_; rintro _ rfl) | (refine pcall_intro (IsAllowed24 q hq o ho) rfl ?_) | (refine pcall_soft (fun _ => IsAllowed24 q hq o ho) rfl ?_) | (refine callee_fo (works10) rfl ?_; rintro _ rfl) | (refine pcall_intro (works10) rfl ?_) | (refine pcall_soft (fun _ => works10) rfl ?_)); (repeat' ((conv => whnf); (first | (with_reducible first | apply spl | apply spl') <;> intro hc <;> try (exfalso; omega) | with_reducible refine iJ fun hc => ?_ | refine vcq (k := ?_) | refine dr 32 (k := ?_) | refine dr 10 (k := ?_)))); all_goals ((try conv => whnf); try with_reducible exact trivial)))
          · refine ⟨_, rfl, ?_⟩
            (repeat' ((conv => whnf); (first | (with_reducible first | apply spl | apply spl') <;> intro hc <;> try (exfalso; omega) | with_reducible refine iJ fun hc => ?_ | refine vcq (k := ?_) | refine dr 32 (k := ?_) | refine dr 10 (k := ?_)))); all_goals ((try conv => whnf); try with_reducible exact trivial)
          · have hal : AllR q.pas.toNat q.od o := Classical.not_not.1 fun g => hc (.inl g)
            have hmem : o ∈ q.all q.pas := mem_allQ.2 ⟨ho, (allP_iff ho).2 hal⟩
            have hpos : 0 < q.rq.length := by omega
            have hfr : fr < q.rq.length ∧ q.one fr ≤ q.one (o.getD 0 0) := by
              rcases hfe with ⟨_, g⟩ | ⟨_, g1, g2⟩
              · omega
              · exact ⟨g1, g2 o hmem⟩
            have hleB := hb3 o hmem
            unfold Qu.leB at hleB
            dsimp only at hleB
            clear hc hfe hb3
            have hfm : fr ∈ o := by obtain ⟨k, h1, h2⟩ := ho.mem hfr.1; rw [← h2, getD_get h1]; exact List.getElem_mem h1
            have hk := List.idxOf_lt_length_of_mem hfm
            have hso := swp_ord ho hk
            have hEs := Ends11 q hq (swp o (o.idxOf fr)) hso
            rw [swp_len] at hEs
            have hE1 := q.one_eq (by omega) ho
            have hE2 := q.one_eq (by rw [swp_len]; omega) hso
            have hs0 : (swp o (o.idxOf fr)).getD 0 0 = fr := by
              rw [swp_get (by omega), show tau (o.idxOf fr) 0 = o.idxOf fr from if_pos rfl, getD_get hk, List.getElem_idxOf]
            rw [hs0] at hE2
            have h00 : o.getD 0 0 < q.rq.length := by rw [getD_get (by omega)]; exact ho.lt _ (List.getElem_mem _)
            refine callee_fo (Worst23 q hq o ho) rfl ?_
            rintro _ rfl
            (repeat' ((conv => whnf); (first | (with_reducible first | apply spl | apply spl') <;> intro hc <;> try (exfalso; omega) | with_reducible refine iJ fun hc => ?_ | refine vcq (k := ?_) | refine dr 32 (k := ?_) | refine dr 10 (k := ?_)))); all_goals ((try conv => whnf); try with_reducible exact trivial)
            refine callee_fo (Ends11 q hq o ho) rfl ?_
            rintro _ rfl
            (repeat' ((conv => whnf); (first | (with_reducible first | apply spl | apply spl') <;> intro hc <;> try (exfalso; omega) | with_reducible refine iJ fun hc => ?_ | refine vcq (k := ?_) | refine dr 32 (k := ?_) | refine dr 10 (k := ?_)))); all_goals ((try conv => whnf); try with_reducible exact trivial); (repeat' ((first | (refine callee_fo (swapped24 o (by omega) fr hfm) rfl ?_; rintro _ rfl) | (refine pcall_intro (swapped24 o (by omega) fr hfm) rfl ?_) | (refine pcall_soft (fun _ => swapped24 o (by omega) fr hfm) rfl ?_) | (refine callee_fo (hEs) rfl ?_; rintro _ rfl) | (refine pcall_intro (hEs) rfl ?_) | (refine pcall_soft (fun _ => hEs) rfl ?_)); (repeat' ((conv => whnf); (first | (with_reducible first | apply spl | apply spl') <;> intro hc <;> try (exfalso; omega) | with_reducible refine iJ fun hc => ?_ | refine vcq (k := ?_) | refine dr 32 (k := ?_) | refine dr 10 (k := ?_)))); all_goals ((try conv => whnf); try with_reducible exact trivial)))
            rw [show Int.toNat 0 = 0 from rfl]
            (repeat' ((conv => whnf); (first | (with_reducible first | apply spl | apply spl') <;> intro hc <;> try (exfalso; omega) | with_reducible refine iJ fun hc => ?_ | refine vcq (k := ?_) | refine dr 32 (k := ?_) | refine dr 10 (k := ?_)))); all_goals ((try conv => whnf); try with_reducible exact trivial); (repeat' ((first | (refine callee_fo (works10) rfl ?_; rintro _ rfl) | (refine pcall_intro (works10) rfl ?_) | (refine pcall_soft (fun _ => works10) rfl ?_)); (repeat' ((conv => whnf); (first | (with_reducible first | apply spl | apply spl') <;> intro hc <;> try (exfalso; omega) | with_reducible refine iJ fun hc => ?_ | refine vcq (k := ?_) | refine dr 32 (k := ?_) | refine dr 10 (k := ?_)))); all_goals ((try conv => whnf); try with_reducible exact trivial)))
            rw [Int.toNat_natCast, Int.toNat_natCast, hE1, hE2]
            refine ⟨_, rfl, ?_⟩
            (repeat' ((conv => whnf); (first | (with_reducible first | apply spl | apply spl') <;> intro hc <;> try (exfalso; omega) | with_reducible refine iJ fun hc => ?_ | refine vcq (k := ?_) | refine dr 32 (k := ?_) | refine dr 10 (k := ?_)))); all_goals ((try conv => whnf); try with_reducible exact trivial)
            exact ⟨⟨fun _ => trivial, fun _ => ⟨⟨by omega, hfr.2⟩, trivial⟩⟩, trivial⟩
        · refine callee_fo (IsOrderF q (by omega) l (by omega) hoI) rfl ?_
          rintro _ rfl
          (repeat' ((conv => whnf); (first | (with_reducible first | apply spl | apply spl') <;> intro hc <;> try (exfalso; omega) | with_reducible refine iJ fun hc => ?_ | refine vcq (k := ?_) | refine dr 32 (k := ?_) | refine dr 10 (k := ?_)))); all_goals ((try conv => whnf); try with_reducible exact trivial); (repeat' ((first | (refine callee_fo (works10) rfl ?_; rintro _ rfl) | (refine pcall_intro (works10) rfl ?_) | (refine pcall_soft (fun _ => works10) rfl ?_)); (repeat' ((conv => whnf); (first | (with_reducible first | apply spl | apply spl') <;> intro hc <;> try (exfalso; omega) | with_reducible refine iJ fun hc => ?_ | refine vcq (k := ?_) | refine dr 32 (k := ?_) | refine dr 10 (k := ?_)))); all_goals ((try conv => whnf); try with_reducible exact trivial)))
          refine ⟨_, rfl, ?_⟩
          (repeat' ((conv => whnf); (first | (with_reducible first | apply spl | apply spl') <;> intro hc <;> try (exfalso; omega) | with_reducible refine iJ fun hc => ?_ | refine vcq (k := ?_) | refine dr 32 (k := ?_) | refine dr 10 (k := ?_)))); all_goals ((try conv => whnf); try with_reducible exact trivial)
end Go.Proofs
