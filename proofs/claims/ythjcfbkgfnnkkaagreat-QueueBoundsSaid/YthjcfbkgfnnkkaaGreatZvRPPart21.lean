/- Own work: texts of the proof of a law (ZuD9, ZvA, ZvB, SzPn, ZvC, ZvD, ZvE, ZuC6, ZuC7, ZvK, ZvM, ZvN, ZvL2, ZvP). No condition. -/
import Derived.Test.YthjcfbkgfnnkkaaGreatPart20
namespace Go.Proofs
open Go Go.Sx
set_option maxRecDepth 100000
set_option maxHeartbeats 40000000
theorem Cyl13 (q : Qu) (hq : q.Ok) (n : Int) (h0 : 0 ≤ n) (h1 : n < q.d.cnt) : PureC Tryz.prog 71 false [.agg q.c, .int .i64 n] (· = .int .i64 (q.cy n)) := by
  have h := Cylinder13 q hq n.toNat (by omega)
  rwa [Int.toNat_of_nonneg h0] at h
theorem Run14q (q : Qu) (hq : q.Ok) (r : Nat) (hr : r < q.rq.length) : PureC Tryz.prog 72 false [q.d.v, .int .i64 (q.rq.getD r Rq.none).fr, .int .i64 (q.rq.getD r Rq.none).ct] (· = .tup [.agg [.int .i64 (q.rn false r), .int .i64 (q.rn true r)], .int .i64 0]) := by
  have hr1 := Qu.rq_at hq hr
  unfold Qu.RqOk at hr1
  have h := Run14 q.d hq.d (q.rq.getD r Rq.none).fr.toNat (q.rq.getD r Rq.none).ct.toNat (by omega) (by omega)
  rw [Int.toNat_of_nonneg (by omega), Int.toNat_of_nonneg (by omega)] at h
  exact h
theorem place_facts {q : Qu} (hq : q.Ok) {o : List Nat} (ho : ∀ x ∈ o, x < q.rq.length) (hol : o.length ≤ 6) {i : Nat} (hi : i < o.length) :
    o.getD i 0 < q.rq.length ∧ (0 ≤ (q.rq.getD (o.getD i 0) Rq.none).fr ∧ (q.rq.getD (o.getD i 0) Rq.none).fr < q.d.cnt) ∧
    (1 ≤ (q.rq.getD (o.getD i 0) Rq.none).ct ∧ 0 ≤ (q.rq.getD (o.getD i 0) Rq.none).fr + (q.rq.getD (o.getD i 0) Rq.none).ct - 1 ∧ (q.rq.getD (o.getD i 0) Rq.none).fr + (q.rq.getD (o.getD i 0) Rq.none).ct - 1 < q.d.cnt) ∧
    q.cy (q.rq.getD (o.getD i 0) Rq.none).fr < q.d.S.length ∧ ((q.stQ true o i).1 < q.d.S.length) ∧
    (∀ hi, 0 ≤ (q.stQ hi o i).2 ∧ (q.stQ hi o i).2 ≤ 180000000) ∧ (∀ hi, 0 ≤ q.rn hi (o.getD i 0) ∧ q.rn hi (o.getD i 0) ≤ 24000000) := by
  have hr : o.getD i 0 < q.rq.length := by rw [getD_get hi]; exact ho _ (List.getElem_mem hi)
  have hr1 := Qu.rq_at hq hr
  unfold Qu.RqOk at hr1
  have hb := fun h => Qu.stQ_bnd hq h ho i (by omega)
  refine ⟨hr, by omega, by omega, Qu.cy_lt (by omega) (by omega), (hb true).1, fun h => ⟨(hb h).2.1, by have := (hb h).2.2; omega⟩, fun h => Qu.rn_bndB hq hr h⟩
end Go.Proofs

namespace Go.Proofs
open Go Go.Sx
set_option maxRecDepth 100000
set_option maxHeartbeats 40000000
def Qu.eR (q : Qu) (o : List Nat) (k : Nat) : List V := [.int .i64 (q.stQ false o (k + 1)).2, .int .i64 (q.stQ true o (k + 1)).2]
theorem ends51 (q : Qu) (hq : q.Ok) (o : List Nat) (ho : ∀ x ∈ o, x < q.rq.length) (hol : o.length ≤ 6) : PureC Tryz.prog 51 false [.agg q.c, .sl 1 o.length (rowOf natC 0 o)] (· = .sl 2 o.length (q.eR o)) := by
  have hqd := hq.d
  have hcy := hq.cyl
  have hcn := q.d.cnt_le hqd
  refine pureC_of_exec Tryz.E_ok Tryz.func51 rfl (by kernel_rfl) ?_
  (repeat' ((conv => whnf); (first | (with_reducible first | apply spl | apply spl') <;> intro hc <;> try (exfalso; omega) | with_reducible refine iJ fun hc => ?_ | refine vcq (k := ?_) | refine dr 25 (k := ?_) | refine dr 8 (k := ?_) | refine dr 9 (k := ?_)))); all_goals ((try conv => whnf); try with_reducible exact trivial)
  refine ⟨Nat, fun i => i ≤ o.length, fun i => o.length - i, fun i => [(8, .int .i64 (i : Nat)), (7, .int .i64 (q.stQ true o i).1), (5, .osl 2 i)], fun i => [(1, .cells 24 [.int .i64 (q.stQ false o i).2, .int .i64 (q.stQ true o i).2])], fun i => [.row 24 2 i (q.eR o) true], 0, ⟨by omega, some [some 0, some 1, none], ?_⟩, ?_⟩
  · (repeat' ((conv => whnf); (first | (with_reducible first | apply spl | apply spl') <;> intro hc <;> try (exfalso; omega) | with_reducible refine iJ fun hc => ?_ | refine vcq (k := ?_) | refine dr 25 (k := ?_) | refine dr 8 (k := ?_) | refine dr 9 (k := ?_)))); all_goals ((try conv => whnf); try with_reducible exact trivial)
    refine ⟨show q.cyl = ((q.cyl.toNat : Nat) : Int) by omega, ?_⟩
    (repeat' ((conv => whnf); (first | (with_reducible first | apply spl | apply spl') <;> intro hc <;> try (exfalso; omega) | with_reducible refine iJ fun hc => ?_ | refine vcq (k := ?_) | refine dr 25 (k := ?_) | refine dr 8 (k := ?_) | refine dr 9 (k := ?_)))); all_goals ((try conv => whnf); try with_reducible exact trivial)
  · intro i hi
    have hi : i ≤ o.length := hi
    have hti : (i : Int).toNat = i := Int.toNat_natCast i
    have hfa := fun h => place_facts hq ho hol (i := i) h
    (repeat' ((conv => whnf); (first | (with_reducible first | apply spl | apply spl') <;> intro hc <;> try (exfalso; omega) | with_reducible refine iJ fun hc => ?_ | refine vcq (k := ?_) | refine dr 9 (k := ?_) | refine dr 8 (k := ?_) | refine dr 25 (k := ?_)))); all_goals ((try conv => whnf); try with_reducible exact trivial)
    · have hil : i < o.length := by omega
      obtain ⟨f1, f2, f3, f4, f5, f6, f7⟩ := hfa hil
      have e1 : q.stQ false o (i + 1) = (q.cy ((q.rq.getD (o.getD i 0) Rq.none).fr + (q.rq.getD (o.getD i 0) Rq.none).ct - 1), q.srv (o.getD i 0) (q.stQ false o i).2 (q.sek (q.stQ true o i).1 (q.cy (q.rq.getD (o.getD i 0) Rq.none).fr)).1 (q.rn false (o.getD i 0))) := by rw [q.stQ_cyl]; rfl
      have e2 : q.stQ true o (i + 1) = (q.cy ((q.rq.getD (o.getD i 0) Rq.none).fr + (q.rq.getD (o.getD i 0) Rq.none).ct - 1), q.srv (o.getD i 0) (q.stQ true o i).2 (q.sek (q.stQ true o i).1 (q.cy (q.rq.getD (o.getD i 0) Rq.none).fr)).2 (q.rn true (o.getD i 0))) := rfl
      have hk := q.sek_bnd hq (q.stQ true o i).1 (q.cy (q.rq.getD (o.getD i 0) Rq.none).fr)
      have htr : ((o.getD i 0 : Nat) : Int).toNat = o.getD i 0 := Int.toNat_natCast _
      rw [hti]
      (repeat' ((conv => whnf); (first | (with_reducible first | apply spl | apply spl') <;> intro hc <;> try (exfalso; omega) | with_reducible refine iJ fun hc => ?_ | refine vcq (k := ?_) | refine dr 9 (k := ?_) | refine dr 8 (k := ?_) | refine dr 25 (k := ?_)))); all_goals ((try conv => whnf); try with_reducible exact trivial)
      rw [htr]
      (repeat' ((conv => whnf); (first | (with_reducible first | apply spl | apply spl') <;> intro hc <;> try (exfalso; omega) | with_reducible refine iJ fun hc => ?_ | refine vcq (k := ?_) | refine dr 9 (k := ?_) | refine dr 8 (k := ?_) | refine dr 25 (k := ?_)))); all_goals ((try conv => whnf); try with_reducible exact trivial); (repeat' ((first | (refine callee_fo (Cyl13 q hq _ (by omega) (by omega)) rfl ?_; rintro _ rfl) | (refine pcall_intro (Cyl13 q hq _ (by omega) (by omega)) rfl ?_) | (refine pcall_soft (fun _ => Cyl13 q hq _ (by omega) (by omega)) rfl ?_) | (refine callee_fo (SeekOf12 q hq _ _ f5 f4) rfl ?_; rintro _ rfl) | (refine pcall_intro (SeekOf12 q hq _ _ f5 f4) rfl ?_) | (refine pcall_soft (fun _ => SeekOf12 q hq _ _ f5 f4) rfl ?_) | (refine callee_fo (Run14q q hq _ f1) rfl ?_; rintro _ rfl) | (refine pcall_intro (Run14q q hq _ f1) rfl ?_) | (refine pcall_soft (fun _ => Run14q q hq _ f1) rfl ?_)); (repeat' ((conv => whnf); (first | (with_reducible first | apply spl | apply spl') <;> intro hc <;> try (exfalso; omega) | with_reducible refine iJ fun hc => ?_ | refine vcq (k := ?_) | refine dr 9 (k := ?_) | refine dr 8 (k := ?_) | refine dr 25 (k := ?_)))); all_goals ((try conv => whnf); try with_reducible exact trivial)))
      rw [hti]
      refine pcall_intro (Serve15 q hq _ f1 _ _ _ (by have := f6 false; omega) (by omega) (by have := f7 false; omega)) rfl ?_
      (repeat' ((conv => whnf); (first | (with_reducible first | apply spl | apply spl') <;> intro hc <;> try (exfalso; omega) | with_reducible refine iJ fun hc => ?_ | refine vcq (k := ?_) | refine dr 9 (k := ?_) | refine dr 8 (k := ?_) | refine dr 25 (k := ?_)))); all_goals ((try conv => whnf); try with_reducible exact trivial)
      rw [hti]
      refine pcall_intro (Serve15 q hq _ f1 _ _ _ (by have := f6 true; omega) (by omega) (by have := f7 true; omega)) rfl ?_
      (repeat' ((conv => whnf); (first | (with_reducible first | apply spl | apply spl') <;> intro hc <;> try (exfalso; omega) | with_reducible refine iJ fun hc => ?_ | refine vcq (k := ?_) | refine dr 9 (k := ?_) | refine dr 8 (k := ?_) | refine dr 25 (k := ?_)))); all_goals ((try conv => whnf); try with_reducible exact trivial); (repeat' ((first | (refine callee_fo (Cyl13 q hq _ (by omega) (by omega)) rfl ?_; rintro _ rfl) | (refine pcall_intro (Cyl13 q hq _ (by omega) (by omega)) rfl ?_) | (refine pcall_soft (fun _ => Cyl13 q hq _ (by omega) (by omega)) rfl ?_)); (repeat' ((conv => whnf); (first | (with_reducible first | apply spl | apply spl') <;> intro hc <;> try (exfalso; omega) | with_reducible refine iJ fun hc => ?_ | refine vcq (k := ?_) | refine dr 9 (k := ?_) | refine dr 8 (k := ?_) | refine dr 25 (k := ?_)))); all_goals ((try conv => whnf); try with_reducible exact trivial)))
      refine ⟨i + 1, ⟨by omega, by dsimp only; omega⟩, some [some 0, some 1, some 7], ?_⟩
      have ea : q.eR o i = [.int .i64 (q.stQ false o (i + 1)).2, .int .i64 (q.stQ true o (i + 1)).2] := rfl
      rw [e1, e2] at ea
      dsimp only
      rw [e1, e2]
      (repeat' ((conv => whnf); (first | (with_reducible first | apply spl | apply spl') <;> intro hc <;> try (exfalso; omega) | with_reducible refine iJ fun hc => ?_ | refine vcq (k := ?_) | refine dr 25 (k := ?_) | refine dr 8 (k := ?_) | refine dr 9 (k := ?_)))); all_goals ((try conv => whnf); try with_reducible exact trivial)
      refine ⟨appF_last ea.symm, ?_⟩
      (repeat' ((conv => whnf); (first | (with_reducible first | apply spl | apply spl') <;> intro hc <;> try (exfalso; omega) | with_reducible refine iJ fun hc => ?_ | refine vcq (k := ?_) | refine dr 25 (k := ?_) | refine dr 8 (k := ?_) | refine dr 9 (k := ?_)))); all_goals ((try conv => whnf); try with_reducible exact trivial)
    · obtain rfl : i = o.length := by omega
      refine ⟨_, rfl, ?_⟩
      (repeat' ((conv => whnf); (first | (with_reducible first | apply spl | apply spl') <;> intro hc <;> try (exfalso; omega) | with_reducible refine iJ fun hc => ?_ | refine vcq (k := ?_) | refine dr 25 (k := ?_) | refine dr 8 (k := ?_) | refine dr 9 (k := ?_)))); all_goals ((try conv => whnf); try with_reducible exact trivial)
end Go.Proofs

namespace Go.Proofs
open Go Go.Sx
set_option maxRecDepth 100000
set_option maxHeartbeats 40000000
theorem idxOf_first {o : List Nat} {r i : Nat} (hi : i < o.length) (h : r ∉ o.take i) (e : o.getD i 0 = r) : o.idxOf r = i := by
  have hm : r ∈ o := by rw [← e, getD_get hi]; exact List.getElem_mem hi
  have h1 := List.idxOf_lt_length_of_mem hm
  rcases Nat.lt_trichotomy (o.idxOf r) i with g | g | g
  · exfalso
    refine h ((mem_take (by omega)).2 ⟨o.idxOf r, g, ?_⟩)
    rw [getD_get h1, List.getElem_idxOf]
  · exact g
  · exfalso
    have := List.not_of_lt_findIdx (p := (· == r)) (xs := o) (i := i) g
    rw [getD_get hi] at e
    simp [e] at this
theorem place76 (o : List Nat) (ho : o.length ≤ 1000) (r : Nat) (hr : r ∈ o) : PureC Tryz.prog 76 false [.sl 1 o.length (rowOf natC 0 o), .int .i64 r] (· = .int .i64 (o.idxOf r : Nat)) := by
  refine pureC_of_exec Tryz.E_ok Tryz.func76 rfl (by kernel_rfl) ?_
  (repeat' ((conv => whnf); (first | (with_reducible first | apply spl | apply spl') <;> intro hc <;> try (exfalso; omega) | with_reducible refine iJ fun hc => ?_ | refine vcq (k := ?_) | refine dr 10 (k := ?_)))); all_goals ((try conv => whnf); try with_reducible exact trivial)
  refine ⟨Nat, fun i => i ≤ o.length ∧ r ∉ o.take i, fun i => o.length - i, fun i => [(5, .int .i64 (i : Nat))], fun _ => [], fun _ => [], 0, ⟨⟨by omega, by simp⟩, none, ?_⟩, ?_⟩
  · (repeat' ((conv => whnf); (first | (with_reducible first | apply spl | apply spl') <;> intro hc <;> try (exfalso; omega) | with_reducible refine iJ fun hc => ?_ | refine vcq (k := ?_) | refine dr 10 (k := ?_)))); all_goals ((try conv => whnf); try with_reducible exact trivial)
  · rintro i ⟨hi, hm⟩
    have hti : (i : Int).toNat = i := Int.toNat_natCast i
    (repeat' ((conv => whnf); (first | (with_reducible first | apply spl | apply spl') <;> intro hc <;> try (exfalso; omega) | with_reducible refine iJ fun hc => ?_ | refine vcq (k := ?_) | refine dr 10 (k := ?_)))); all_goals ((try conv => whnf); try with_reducible exact trivial)
    · rw [hti] at hc
      have hil : i < o.length := by omega
      have e := idxOf_first hil hm (by omega)
      refine ⟨_, rfl, ?_⟩
      rw [e]
      (repeat' ((conv => whnf); (first | (with_reducible first | apply spl | apply spl') <;> intro hc <;> try (exfalso; omega) | with_reducible refine iJ fun hc => ?_ | refine vcq (k := ?_) | refine dr 10 (k := ?_)))); all_goals ((try conv => whnf); try with_reducible exact trivial)
    · rw [hti] at hc
      have hil : i < o.length := by omega
      refine ⟨i + 1, ⟨⟨by omega, ?_⟩, by dsimp only; omega⟩, none, ?_⟩
      · rw [List.take_succ_eq_append_getElem hil, ← getD_get hil, List.mem_append, List.mem_singleton]
        rintro (g | g)
        · exact hm g
        · omega
      · (repeat' ((conv => whnf); (first | (with_reducible first | apply spl | apply spl') <;> intro hc <;> try (exfalso; omega) | with_reducible refine iJ fun hc => ?_ | refine vcq (k := ?_) | refine dr 10 (k := ?_)))); all_goals ((try conv => whnf); try with_reducible exact trivial)
    · obtain rfl : i = o.length := by omega
      rw [List.take_length] at hm
      exact absurd hr hm
theorem Worst23 (q : Qu) (hq : q.Ok) (o : List Nat) (ho : IsOrd q.rq.length o) : PureC Tryz.prog 23 false [.agg q.c, .sl 1 o.length (rowOf natC 0 o)] (· = .tup [.int .i64 (q.lateC o), .int .i64 (q.endC o)]) := by
  have hn := hq.rql
  have hlen := ho.len
  rw [← Qu.late_eq ho]
  refine pureC_of_exec Tryz.E_ok Tryz.func23 rfl (by kernel_rfl) ?_
  (repeat' ((conv => whnf); (first | (with_reducible first | apply spl | apply spl') <;> intro hc <;> try (exfalso; omega) | with_reducible refine iJ fun hc => ?_ | refine vcq (k := ?_) | refine dr 10 (k := ?_)))); all_goals ((try conv => whnf); try with_reducible exact trivial)
  refine callee_fo (ends51 q hq o ho.lt (by omega)) rfl ?_
  rintro _ rfl
  (repeat' ((conv => whnf); (first | (with_reducible first | apply spl | apply spl') <;> intro hc <;> try (exfalso; omega) | with_reducible refine iJ fun hc => ?_ | refine vcq (k := ?_) | refine dr 10 (k := ?_)))); all_goals ((try conv => whnf); try with_reducible exact trivial)
  refine ⟨Nat, fun i => i ≤ o.length, fun i => o.length - i, fun i => [(7, .int .i64 (i : Nat)), (4, .int .i64 (q.lateAt o i)), (5, .int .i64 (q.stQ true o i).2)], fun _ => [], fun _ => [], 0, ⟨by omega, none, ?_⟩, ?_⟩
  · (repeat' ((conv => whnf); (first | (with_reducible first | apply spl | apply spl') <;> intro hc <;> try (exfalso; omega) | with_reducible refine iJ fun hc => ?_ | refine vcq (k := ?_) | refine dr 10 (k := ?_)))); all_goals ((try conv => whnf); try with_reducible exact trivial)
  · intro i hi
    have hi : i ≤ o.length := hi
    have hti : (i : Int).toNat = i := Int.toNat_natCast i
    have hbn := q.lateAt_bnd o i
    (repeat' ((conv => whnf); (first | (with_reducible first | apply spl | apply spl') <;> intro hc <;> try (exfalso; omega) | with_reducible refine iJ fun hc => ?_ | refine vcq (k := ?_) | refine dr 10 (k := ?_)))); all_goals ((try conv => whnf); try with_reducible exact trivial)
    · have hil : i < o.length := by omega
      have hr : o.getD i 0 < q.rq.length := by rw [getD_get hil]; exact ho.lt _ (List.getElem_mem hil)
      have hE := Qu.endOf_at (q := q) true ho hil
      rw [hti]
      (repeat' ((conv => whnf); (first | (with_reducible first | apply spl | apply spl') <;> intro hc <;> try (exfalso; omega) | with_reducible refine iJ fun hc => ?_ | refine vcq (k := ?_) | refine dr 10 (k := ?_)))); all_goals ((try conv => whnf); try with_reducible exact trivial)
      · rw [hti, Int.toNat_natCast, ← hE] at hc
        have e : q.lateAt o (i + 1) = q.lateAt o i + 1 := by
          show q.lateAt o i + (if q.isLate o (o.getD i 0) then 1 else 0) = _
          rw [if_pos (c := q.isLate o (o.getD i 0)) hc]
        refine ⟨i + 1, ⟨by omega, by dsimp only; omega⟩, none, ?_⟩
        dsimp only
        rw [e, hti]
        (repeat' ((conv => whnf); (first | (with_reducible first | apply spl | apply spl') <;> intro hc <;> try (exfalso; omega) | with_reducible refine iJ fun hc => ?_ | refine vcq (k := ?_) | refine dr 10 (k := ?_)))); all_goals ((try conv => whnf); try with_reducible exact trivial)
      · rw [hti, Int.toNat_natCast, ← hE] at hc
        have e : q.lateAt o (i + 1) = q.lateAt o i := by
          show q.lateAt o i + (if q.isLate o (o.getD i 0) then 1 else 0) = _
          rw [if_neg (c := q.isLate o (o.getD i 0)) hc]
          omega
        refine ⟨i + 1, ⟨by omega, by dsimp only; omega⟩, none, ?_⟩
        dsimp only
        rw [e, hti]
        (repeat' ((conv => whnf); (first | (with_reducible first | apply spl | apply spl') <;> intro hc <;> try (exfalso; omega) | with_reducible refine iJ fun hc => ?_ | refine vcq (k := ?_) | refine dr 10 (k := ?_)))); all_goals ((try conv => whnf); try with_reducible exact trivial)
    · obtain rfl : i = o.length := by omega
      refine ⟨_, rfl, ?_⟩
      (repeat' ((conv => whnf); (first | (with_reducible first | apply spl | apply spl') <;> intro hc <;> try (exfalso; omega) | with_reducible refine iJ fun hc => ?_ | refine vcq (k := ?_) | refine dr 10 (k := ?_)))); all_goals ((try conv => whnf); try with_reducible exact trivial)
end Go.Proofs

namespace Go.Sx
open Go
variable {P : Program}
theorem PureC.new {g : FuncId} {keep : Bool} {args : List V} {R : V → Prop} (h : PureC P g keep args R) : NewC P g args (fun r H => R r ∧ H = []) := by
  refine ⟨h.1, fun I w vals hI hd => (h.2 I w vals hI hd).mono ?_⟩
  rintro e w' ⟨ret, v, rfl, hr, hden, hp⟩
  obtain ⟨s1, s2, s3⟩ := (sat_nil hI).pres hp
  refine ⟨grow I w w', [], [], ret, v, rfl, ⟨hr, rfl⟩, s1, Den.mono ⟨fun e b he _ => by simp at he, fun b hb => ?_, fun b _ => rfl⟩ _ _ hden, s3⟩
  rcases hb with hb | hb
  · exact .inl hb.2
  · exact .inr hb
theorem pfrz_intro {g : FuncId} {keep : Bool} {args args' : List V} {H : List O} {v : V} {ps : List Prop} {ids : List Nat} {F : List Nat → V → List O → Prop} {G1 G2 : Prop} (h : PureC P g keep args' (· = v)) (hfo : foL args' = true)
    (hf : frzL (frzV 8 H) args = some (ps, ids, args')) (hp : ∀ p ∈ ps, p) (hk : F ids v []) :
    G1 ∨ G2 ∨ ∃ ps ids args' R, frzL (frzV 8 H) args = some (ps, ids, args') ∧ (∀ p ∈ ps, p) ∧ NNew P g args' R ∧ ∀ v obs, R v obs → F ids v obs := by
  refine .inr (.inr ⟨ps, ids, args', fun r H => r = v ∧ H = [], hf, hp, ?_, ?_⟩)
  · unfold NNew
    exact ⟨hfo, h.new⟩
  · rintro _ _ ⟨rfl, rfl⟩
    exact hk
end Go.Sx

namespace Go.Proofs
open Go Go.Sx
set_option maxRecDepth 100000
set_option maxHeartbeats 40000000
theorem appF_zero {f g : Nat → List V} {k : Nat} : appF 0 f g k = g k := by
  unfold appF
  simp
theorem rowOf_app {α : Type} {c : α → List V} {d : α} {l l' : List α} : ∀ i, i < l.length + l'.length → appF l.length (rowOf c d l) (rowOf c d l') i = rowOf c d (l ++ l') i := by
  intro i hi
  unfold appF rowOf
  by_cases h : i < l.length
  · simp [h, List.getD_eq_getElem?_getD, List.getElem?_append_left h]
  · simp [h, List.getD_eq_getElem?_getD, List.getElem?_append_right (Nat.le_of_not_lt h)]
def ordC (o : List Nat) : List V := [.sl 1 o.length (rowOf natC 0 o)]
def ordsF (n m : Nat) (b : List Nat) (k : Nat) : List (List Nat) := if k ∈ b then [] else ordsQ n m (b ++ [k])
def ordsP (n m : Nat) (b : List Nat) (i : Nat) : List (List Nat) := (List.range i).flatMap (ordsF n m b)
theorem ordsP_zero (n m : Nat) (b : List Nat) : ordsP n m b 0 = [] := rfl
theorem ordsP_succ (n m : Nat) (b : List Nat) (i : Nat) : ordsP n m b (i + 1) = ordsP n m b i ++ ordsF n m b i := by
  unfold ordsP
  rw [List.range_succ, List.flatMap_append, List.flatMap_singleton]
theorem ordsP_all (n m : Nat) (b : List Nat) : ordsP n m b n = ordsQ n (m + 1) b := rfl
theorem ordsP_in {n m : Nat} {b : List Nat} {i : Nat} (h : i ∈ b) : ordsP n m b (i + 1) = ordsP n m b i := by
  rw [ordsP_succ, ordsF, if_pos h, List.append_nil]
theorem ordsP_no {n m : Nat} {b : List Nat} {i : Nat} (h : i ∉ b) : ordsP n m b (i + 1) = ordsP n m b i ++ ordsQ n m (b ++ [i]) := by
  rw [ordsP_succ, ordsF, if_neg h]
theorem ordsQ_len (n : Nat) (hn : n ≤ 6) : ∀ (m : Nat) (b : List Nat), (ordsQ n m b).length ≤ 6 ^ m
  | 0, b => by simp [ordsQ]
  | m + 1, b => by
    have h : ∀ i, (ordsP n m b i).length ≤ i * 6 ^ m := fun i => by
      induction i with
      | zero => simp [ordsP]
      | succ i ih =>
        rw [ordsP_succ, List.length_append]
        have h2 : (ordsF n m b i).length ≤ 6 ^ m := by
          unfold ordsF
          split
          · simp
          · exact ordsQ_len n hn m _
        rw [Nat.add_mul]
        omega
    have h1 := h n
    rw [ordsP_all] at h1
    have h2 : n * 6 ^ m ≤ 6 * 6 ^ m := Nat.mul_le_mul_right _ hn
    rw [Nat.pow_succ, Nat.mul_comm (6 ^ m) 6]
    omega
theorem ordsP_len (n : Nat) (hn : n ≤ 6) (m : Nat) (hm : m ≤ 5) (b : List Nat) (i : Nat) (hi : i ≤ n) : (ordsP n m b i).length ≤ 50000 := by
  have h : ∀ i, (ordsP n m b i).length ≤ i * 6 ^ m := fun i => by
    induction i with
    | zero => simp [ordsP]
    | succ i ih =>
      rw [ordsP_succ, List.length_append]
      have h2 : (ordsF n m b i).length ≤ 6 ^ m := by
        unfold ordsF
        split
        · simp
        · exact ordsQ_len n hn m _
      rw [Nat.add_mul]
      omega
  have h1 := h i
  have h2 : i * 6 ^ m ≤ 6 * 6 ^ m := Nat.mul_le_mul_right _ (by omega)
  have h3 : 6 ^ m ≤ 6 ^ 5 := Nat.pow_le_pow_right (by omega) hm
  omega
theorem orders77 (q : Qu) (hq : q.Ok) : ∀ (m : Nat) (b : List Nat), b.length + m = q.rq.length →
    PureC Tryz.prog 77 true [.agg q.c, .sl 1 b.length (rowOf natC 0 b)] (· = .sl 1 (ordsQ q.rq.length m b).length (rowOf ordC [] (ordsQ q.rq.length m b)))
  | 0, b, hl => by
    have hn := hq.rql
    refine pureC_of_exec Tryz.E_ok Tryz.func77 rfl (by kernel_rfl) ?_
    (repeat' ((conv => whnf); (first | (with_reducible first | apply spl | apply spl') <;> intro hc <;> try (exfalso; omega) | with_reducible refine iJ fun hc => ?_ | refine vcq (k := ?_) | refine dr 50704062006 (k := ?_)))); all_goals ((try conv => whnf); try with_reducible exact trivial)
    refine ⟨_, rfl, ?_⟩
    (repeat' ((conv => whnf); (first | (with_reducible first | apply spl | apply spl') <;> intro hc <;> try (exfalso; omega) | with_reducible refine iJ fun hc => ?_ | refine vcq (k := ?_) | refine dr 50704062006 (k := ?_)))); all_goals ((try conv => whnf); try with_reducible exact trivial)
    exact ⟨fun i hi => by obtain rfl : i = 0 := by omega
                          rfl, .inl rfl, trivial⟩
  | m + 1, b, hl => by
    have ih := orders77 q hq m
    have hn := hq.rql
    refine pureC_of_exec Tryz.E_ok Tryz.func77 rfl (by kernel_rfl) ?_
    (repeat' ((conv => whnf); (first | (with_reducible first | apply spl | apply spl') <;> intro hc <;> try (exfalso; omega) | with_reducible refine iJ fun hc => ?_ | refine vcq (k := ?_) | refine dr 50704062006 (k := ?_)))); all_goals ((try conv => whnf); try with_reducible exact trivial)
    refine ⟨Nat, fun i => i ≤ q.rq.length, fun i => q.rq.length - i, fun i => [(6, .int .i64 (i : Nat)), (5, .osl 1 (ordsP q.rq.length m b i).length)], fun _ => [], fun i => [.row 31 1 (ordsP q.rq.length m b i).length (rowOf ordC [] (ordsP q.rq.length m b i)) true], 0, ⟨by omega, some [some 0, none], ?_⟩, ?_⟩
    · (repeat' ((conv => whnf); (first | (with_reducible first | apply spl | apply spl') <;> intro hc <;> try (exfalso; omega) | with_reducible refine iJ fun hc => ?_ | refine vcq (k := ?_) | refine dr 50704062006 (k := ?_)))); all_goals ((try conv => whnf); try with_reducible exact trivial)
    · intro i hi
      have hi : i ≤ q.rq.length := hi
      have hti : (i : Int).toNat = i := Int.toNat_natCast i
      have hpl := ordsP_len q.rq.length hn m (by omega) b i hi
      (repeat' ((conv => whnf); (first | (with_reducible first | apply spl | apply spl') <;> intro hc <;> try (exfalso; omega) | with_reducible refine iJ fun hc => ?_ | refine vcq (k := ?_) | refine dr 50704062006 (k := ?_)))); all_goals ((try conv => whnf); try with_reducible exact trivial)
      · refine ⟨Nat, fun j => j ≤ b.length, fun j => b.length - j, fun j => [(8, .int .i64 (j : Nat)), (7, .prop (i ∈ b.take j) inferInstance)], fun _ => [], fun _ => [], 0, ⟨by omega, none, ?_⟩, ?_⟩
        · (repeat' ((conv => whnf); (first | (with_reducible first | apply spl | apply spl') <;> intro hc <;> try (exfalso; omega) | with_reducible refine iJ fun hc => ?_ | refine vcq (k := ?_) | refine dr 50704062006 (k := ?_)))); all_goals ((try conv => whnf); try with_reducible exact trivial)
          refine ⟨by simp, ?_⟩
          (repeat' ((conv => whnf); (first | (with_reducible first | apply spl | apply spl') <;> intro hc <;> try (exfalso; omega) | with_reducible refine iJ fun hc => ?_ | refine vcq (k := ?_) | refine dr 50704062006 (k := ?_)))); all_goals ((try conv => whnf); try with_reducible exact trivial)
        · intro j hj
          have hj : j ≤ b.length := hj
          have htj : (j : Int).toNat = j := Int.toNat_natCast j
          have hv : j < b.length → (i ∈ b.take (j + 1) ↔ i ∈ b.take j ∨ (b.getD j 0 : Int) = i) := fun h => by
            rw [List.take_succ_eq_append_getElem h, ← getD_get h, List.mem_append, List.mem_singleton]
            exact or_congr_right ⟨fun g => by omega, fun g => by omega⟩
          (repeat' ((conv => whnf); (first | (with_reducible first | apply spl | apply spl') <;> intro hc <;> try (exfalso; omega) | with_reducible refine iJ fun hc => ?_ | refine vcq (k := ?_) | refine dr 50704062006 (k := ?_)))); all_goals ((try conv => whnf); try with_reducible exact trivial)
          · have hv := hv (by omega)
            refine ⟨j + 1, ⟨by omega, by dsimp only; omega⟩, none, ?_⟩
            (repeat' ((conv => whnf); (first | (with_reducible first | apply spl | apply spl') <;> intro hc <;> try (exfalso; omega) | with_reducible refine iJ fun hc => ?_ | refine vcq (k := ?_) | refine dr 50704062006 (k := ?_)))); all_goals ((try conv => whnf); try with_reducible exact trivial)
            rw [htj]
            refine ⟨hv.symm, ?_⟩
            (repeat' ((conv => whnf); (first | (with_reducible first | apply spl | apply spl') <;> intro hc <;> try (exfalso; omega) | with_reducible refine iJ fun hc => ?_ | refine vcq (k := ?_) | refine dr 50704062006 (k := ?_)))); all_goals ((try conv => whnf); try with_reducible exact trivial)
          · obtain rfl : j = b.length := by omega
            rw [List.take_length] at hc
            have hp := ordsP_no (n := q.rq.length) (m := m) hc
            have hpl2 := ordsP_len q.rq.length hn m (by omega) b (i + 1) (by omega)
            rw [hp, List.length_append] at hpl2
            refine pfrz_intro (PureC.view (ih (b ++ [i]) (by rw [List.length_append, List.length_singleton]; omega)) ?_) rfl rfl ?_ ?_
            · (repeat' ((conv => whnf); (first | (with_reducible first | apply spl | apply spl') <;> intro hc <;> try (exfalso; omega) | with_reducible refine iJ fun hc => ?_ | refine vcq (k := ?_) | refine dr 50704062006 (k := ?_)))); all_goals ((try conv => whnf); try with_reducible exact trivial)
              refine ⟨by simp, ?_, ?_⟩
              · intro k hk
                exact rowOf_snoc (n := 0 + b.length) (Nat.zero_add _) (fun k hk => appF_zero) k hk
              · (repeat' ((conv => whnf); (first | (with_reducible first | apply spl | apply spl') <;> intro hc <;> try (exfalso; omega) | with_reducible refine iJ fun hc => ?_ | refine vcq (k := ?_) | refine dr 50704062006 (k := ?_)))); all_goals ((try conv => whnf); try with_reducible exact trivial)
            · intro p hp
              simp [app_eq] at hp
              exact hp
            · (repeat' ((conv => whnf); (first | (with_reducible first | apply spl | apply spl') <;> intro hc <;> try (exfalso; omega) | with_reducible refine iJ fun hc => ?_ | refine vcq (k := ?_) | refine dr 50704062006 (k := ?_)))); all_goals ((try conv => whnf); try with_reducible exact trivial)
              refine ⟨i + 1, ⟨by omega, by dsimp only; omega⟩, some [some 0, some 6], ?_⟩
              dsimp only
              rw [hp]
              have hle : (ordsP q.rq.length m b i ++ ordsQ q.rq.length m (b ++ [i])).length = (ordsP q.rq.length m b i).length + (ordsQ q.rq.length m (b ++ [i])).length := List.length_append
              (repeat' ((conv => whnf); (first | (with_reducible first | apply spl | apply spl') <;> intro hc <;> try (exfalso; omega) | with_reducible refine iJ fun hc => ?_ | refine vcq (k := ?_) | refine dr 50704062006 (k := ?_)))); all_goals ((try conv => whnf); try with_reducible exact trivial)
              refine ⟨fun k hk => rowOf_app (c := ordC) (d := ([] : List Nat)) (l := ordsP q.rq.length m b i) (l' := ordsQ q.rq.length m (b ++ [i])) k hk, ?_⟩
              (repeat' ((conv => whnf); (first | (with_reducible first | apply spl | apply spl') <;> intro hc <;> try (exfalso; omega) | with_reducible refine iJ fun hc => ?_ | refine vcq (k := ?_) | refine dr 50704062006 (k := ?_)))); all_goals ((try conv => whnf); try with_reducible exact trivial)
          · obtain rfl : j = b.length := by omega
            rw [List.take_length] at hc
            have hp := ordsP_in (n := q.rq.length) (m := m) (Classical.not_not.1 hc)
            refine ⟨i + 1, ⟨by omega, by dsimp only; omega⟩, some [some 0, some 1], ?_⟩
            dsimp only
            rw [hp]
            (repeat' ((conv => whnf); (first | (with_reducible first | apply spl | apply spl') <;> intro hc <;> try (exfalso; omega) | with_reducible refine iJ fun hc => ?_ | refine vcq (k := ?_) | refine dr 50704062006 (k := ?_)))); all_goals ((try conv => whnf); try with_reducible exact trivial)
      · obtain rfl : i = q.rq.length := by omega
        refine ⟨_, rfl, ?_⟩
        (repeat' ((conv => whnf); (first | (with_reducible first | apply spl | apply spl') <;> intro hc <;> try (exfalso; omega) | with_reducible refine iJ fun hc => ?_ | refine vcq (k := ?_) | refine dr 50704062006 (k := ?_)))); all_goals ((try conv => whnf); try with_reducible exact trivial)
        all_goals exact ⟨rfl, .inl rfl, trivial⟩
end Go.Proofs

namespace Go.Proofs
open Go Go.Sx
set_option maxRecDepth 100000
set_option maxHeartbeats 40000000
def Qu.ord (q : Qu) : List (List Nat) := ordsQ q.rq.length q.rq.length []
theorem Qu.ord_get {q : Qu} {i : Nat} (h : i < q.ord.length) : IsOrd q.rq.length (q.ord.getD i []) := by
  rw [List.getD_eq_getElem?_getD, List.getElem?_eq_getElem h]
  exact ords_ord (List.getElem_mem h) List.nodup_nil (by simp) (by simp)
open Classical in
noncomputable def Qu.alT (q : Qu) (i : Nat) : List (List Nat) := (q.ord.take i).filter fun o => decide (AllP q.rq.length q.pas.toNat q.od o)
theorem Qu.alT_zero (q : Qu) : q.alT 0 = [] := by simp [Qu.alT]
theorem Qu.alT_all (q : Qu) : q.alT q.ord.length = q.all q.pas := by
  classical
  unfold Qu.alT Qu.all
  rw [List.take_length, allQ_eq]
  unfold Qu.ord Qu.n
  congr 1
theorem Qu.alT_len (q : Qu) (i : Nat) : (q.alT i).length ≤ q.ord.length := by
  unfold Qu.alT
  refine Nat.le_trans (List.length_filter_le _ _) ?_
  rw [List.length_take]
  omega
theorem Qu.alT_yes {q : Qu} {i : Nat} (hi : i < q.ord.length) (h : AllP q.rq.length q.pas.toNat q.od (q.ord.getD i [])) : q.alT (i + 1) = q.alT i ++ [q.ord.getD i []] := by
  rw [List.getD_eq_getElem?_getD, List.getElem?_eq_getElem hi] at h ⊢
  unfold Qu.alT
  rw [List.take_succ_eq_append_getElem hi, List.filter_append]
  simp only [Option.getD_some] at h ⊢
  simp [h]
theorem Qu.alT_no {q : Qu} {i : Nat} (hi : i < q.ord.length) (h : ¬ AllP q.rq.length q.pas.toNat q.od (q.ord.getD i [])) : q.alT (i + 1) = q.alT i := by
  rw [List.getD_eq_getElem?_getD, List.getElem?_eq_getElem hi] at h
  unfold Qu.alT
  rw [List.take_succ_eq_append_getElem hi, List.filter_append]
  simp only [Option.getD_some] at h ⊢
  simp [h]
theorem Qu.ord_len (q : Qu) (hq : q.Ok) : q.ord.length ≤ 50000 := by
  have h := ordsQ_len q.rq.length hq.rql q.rq.length []
  have h2 : 6 ^ q.rq.length ≤ 6 ^ 6 := Nat.pow_le_pow_right (by omega) hq.rql
  unfold Qu.ord
  omega
theorem allowed57 (q : Qu) (hq : q.Ok) : PureC Tryz.prog 57 true [.agg q.c] (· = .sl 1 (q.all q.pas).length (rowOf ordC [] (q.all q.pas))) := by
  have hol := q.ord_len hq
  have hO := orders77 q hq q.rq.length [] (by simp)
  have hO : PureC Tryz.prog 77 true [.agg q.c, .sl 1 0 (rowOf natC 0 [])] (· = .sl 1 q.ord.length (rowOf ordC [] q.ord)) := hO
  refine pureC_of_exec Tryz.E_ok Tryz.func57 rfl (by kernel_rfl) ?_
  (repeat' ((conv => whnf); (first | (with_reducible first | apply spl | apply spl') <;> intro hc <;> try (exfalso; omega) | with_reducible refine iJ fun hc => ?_ | refine vcq (k := ?_) | refine dr 6 (k := ?_)))); all_goals ((try conv => whnf); try with_reducible exact trivial)
  refine callee_fo (PureC.view hO ?_) rfl ?_
  · (repeat' ((conv => whnf); (first | (with_reducible first | apply spl | apply spl') <;> intro hc <;> try (exfalso; omega) | with_reducible refine iJ fun hc => ?_ | refine vcq (k := ?_) | refine dr 6 (k := ?_)))); all_goals ((try conv => whnf); try with_reducible exact trivial)
  · rintro _ rfl
    (repeat' ((conv => whnf); (first | (with_reducible first | apply spl | apply spl') <;> intro hc <;> try (exfalso; omega) | with_reducible refine iJ fun hc => ?_ | refine vcq (k := ?_) | refine dr 6 (k := ?_)))); all_goals ((try conv => whnf); try with_reducible exact trivial)
    refine ⟨Nat, fun i => i ≤ q.ord.length, fun i => q.ord.length - i, fun i => [(5, .int .i64 (i : Nat)), (3, .osl 1 (q.alT i).length)], fun _ => [], fun i => [.row 31 1 (q.alT i).length (rowOf ordC [] (q.alT i)) true], 0, ⟨by omega, some [some 0, none], ?_⟩, ?_⟩
    · (repeat' ((conv => whnf); (first | (with_reducible first | apply spl | apply spl') <;> intro hc <;> try (exfalso; omega) | with_reducible refine iJ fun hc => ?_ | refine vcq (k := ?_) | refine dr 6 (k := ?_)))); all_goals ((try conv => whnf); try with_reducible exact trivial)
    · intro i hi
      have hi : i ≤ q.ord.length := hi
      have hti : (i : Int).toNat = i := Int.toNat_natCast i
      have hal := q.alT_len i
      (repeat' ((conv => whnf); (first | (with_reducible first | apply spl | apply spl') <;> intro hc <;> try (exfalso; omega) | with_reducible refine iJ fun hc => ?_ | refine vcq (k := ?_) | refine dr 6 (k := ?_)))); all_goals ((try conv => whnf); try with_reducible exact trivial)
      · have hil : i < q.ord.length := by omega
        have ho := Qu.ord_get hil
        rw [hti]
        refine pcall_intro (IsAllowed24 q hq _ ho) rfl ?_
        (repeat' ((conv => whnf); (first | (with_reducible first | apply spl | apply spl') <;> intro hc <;> try (exfalso; omega) | with_reducible refine iJ fun hc => ?_ | refine vcq (k := ?_) | refine dr 6 (k := ?_)))); all_goals ((try conv => whnf); try with_reducible exact trivial)
        · have hy := Qu.alT_yes hil ((allP_iff ho).2 hc)
          have hle : (q.alT i ++ [q.ord.getD i []]).length = (q.alT i).length + 1 := by rw [List.length_append]; rfl
          refine ⟨i + 1, ⟨by omega, by dsimp only; omega⟩, some [some 0, some 3], ?_⟩
          dsimp only
          rw [hy, hti]
          (repeat' ((conv => whnf); (first | (with_reducible first | apply spl | apply spl') <;> intro hc <;> try (exfalso; omega) | with_reducible refine iJ fun hc => ?_ | refine vcq (k := ?_) | refine dr 6 (k := ?_)))); all_goals ((try conv => whnf); try with_reducible exact trivial)
          refine ⟨fun k hk => rowOf_snoc (c := ordC) (d := ([] : List Nat)) (l := q.alT i) rfl (fun _ _ => rfl) k hk, ?_⟩
          (repeat' ((conv => whnf); (first | (with_reducible first | apply spl | apply spl') <;> intro hc <;> try (exfalso; omega) | with_reducible refine iJ fun hc => ?_ | refine vcq (k := ?_) | refine dr 6 (k := ?_)))); all_goals ((try conv => whnf); try with_reducible exact trivial)
        · have hy := Qu.alT_no hil (fun g => hc ((allP_iff ho).1 g))
          refine ⟨i + 1, ⟨by omega, by dsimp only; omega⟩, some [some 0, some 1], ?_⟩
          dsimp only
          rw [hy]
          (repeat' ((conv => whnf); (first | (with_reducible first | apply spl | apply spl') <;> intro hc <;> try (exfalso; omega) | with_reducible refine iJ fun hc => ?_ | refine vcq (k := ?_) | refine dr 6 (k := ?_)))); all_goals ((try conv => whnf); try with_reducible exact trivial)
      · obtain rfl : i = q.ord.length := by omega
        rw [q.alT_all]
        refine ⟨_, rfl, ?_⟩
        (repeat' ((conv => whnf); (first | (with_reducible first | apply spl | apply spl') <;> intro hc <;> try (exfalso; omega) | with_reducible refine iJ fun hc => ?_ | refine vcq (k := ?_) | refine dr 6 (k := ?_)))); all_goals ((try conv => whnf); try with_reducible exact trivial)
end Go.Proofs

namespace Go.Proofs
open Go Go.Sx
set_option maxRecDepth 100000
set_option maxHeartbeats 40000000
theorem Qu.all_len (q : Qu) (hq : q.Ok) : (q.all q.pas).length ≤ 50000 := by
  have h := q.alT_len q.ord.length
  rw [q.alT_all] at h
  exact Nat.le_trans h (q.ord_len hq)
theorem Qu.all_get {q : Qu} {p : Int} {i : Nat} (h : i < (q.all p).length) : IsOrd q.rq.length ((q.all p).getD i []) := by
  rw [List.getD_eq_getElem?_getD, List.getElem?_eq_getElem h]
  exact (mem_allQ.1 (List.getElem_mem h)).1
theorem Qu.all_pos (q : Qu) (p : Int) : 0 < (q.all p).length := List.length_pos_iff.2 (q.all_ne p)
noncomputable def Qu.bT (q : Qu) (i : Nat) : List Nat × Int × Int := q.foldB ((q.all q.pas).getD 0 [], q.lateC ((q.all q.pas).getD 0 []), q.endC ((q.all q.pas).getD 0 [])) ((q.all q.pas).take i)
theorem Qu.bT_zero (q : Qu) : q.bT 0 = ((q.all q.pas).getD 0 [], q.lateC ((q.all q.pas).getD 0 []), q.endC ((q.all q.pas).getD 0 [])) := by
  unfold Qu.bT
  rw [List.take_zero]
  rfl
theorem Qu.bT_succ {q : Qu} {i : Nat} (h : i < (q.all q.pas).length) : q.bT (i + 1) = q.stepB (q.bT i) ((q.all q.pas).getD i []) := by
  have e : (q.all q.pas).take (i + 1) = (q.all q.pas).take i ++ [(q.all q.pas).getD i []] := by
    rw [List.take_succ_eq_append_getElem h, List.getD_eq_getElem?_getD, List.getElem?_eq_getElem h]
    rfl
  unfold Qu.bT Qu.foldB
  rw [e, List.foldl_append]
  rfl
theorem Qu.bT_all (q : Qu) : q.bT (q.all q.pas).length = q.best q.pas := by
  obtain ⟨o, L, h⟩ := List.exists_cons_of_ne_nil (q.all_ne q.pas)
  rw [Qu.best_head h]
  unfold Qu.bT
  rw [List.take_length, h]
  rfl
theorem best56 (q : Qu) (hq : q.Ok) : PureC Tryz.prog 56 true [.agg q.c] (· = .tup [.sl 1 (q.best q.pas).1.length (rowOf natC 0 (q.best q.pas).1), .int .i64 (q.best q.pas).2.1, .int .i64 (q.best q.pas).2.2]) := by
  have hall := q.all_len hq
  have hpos := q.all_pos q.pas
  have h0 := q.bT_zero
  have hget := fun i h => Qu.all_get (q := q) (p := q.pas) (i := i) h
  have hs := fun i h => Qu.bT_succ (q := q) (i := i) h
  rw [← q.bT_all]
  have hW := fun i h => Worst23 q hq _ (hget i h)
  refine pureC_of_exec Tryz.E_ok Tryz.func56 rfl (by kernel_rfl) ?_
  (repeat' ((conv => whnf); (first | (with_reducible first | apply spl | apply spl') <;> intro hc <;> try (exfalso; omega) | with_reducible refine iJ fun hc => ?_ | refine vcq (k := ?_) | refine dr 17 (k := ?_) | refine dr 11 (k := ?_)))); all_goals ((try conv => whnf); try with_reducible exact trivial)
  refine callee_fo (allowed57 q hq) rfl ?_
  rintro _ rfl
  generalize q.all q.pas = L at *
  (repeat' ((conv => whnf); (first | (with_reducible first | apply spl | apply spl') <;> intro hc <;> try (exfalso; omega) | with_reducible refine iJ fun hc => ?_ | refine vcq (k := ?_) | refine dr 17 (k := ?_) | refine dr 11 (k := ?_)))); all_goals ((try conv => whnf); try with_reducible exact trivial)
  refine callee_fo (hW 0 hpos) rfl ?_
  rintro _ rfl
  (repeat' ((conv => whnf); (first | (with_reducible first | apply spl | apply spl') <;> intro hc <;> try (exfalso; omega) | with_reducible refine iJ fun hc => ?_ | refine vcq (k := ?_) | refine dr 17 (k := ?_) | refine dr 11 (k := ?_)))); all_goals ((try conv => whnf); try with_reducible exact trivial)
  refine ⟨Nat, fun i => i ≤ L.length, fun i => L.length - i, fun i => [(6, .int .i64 (i : Nat)), (2, .sl 1 (q.bT i).1.length (rowOf natC 0 (q.bT i).1)), (3, .int .i64 (q.bT i).2.1), (4, .int .i64 (q.bT i).2.2)], fun _ => [], fun _ => [], 0, ⟨by omega, none, ?_⟩, ?_⟩
  · dsimp only
    rw [h0]
    (repeat' ((conv => whnf); (first | (with_reducible first | apply spl | apply spl') <;> intro hc <;> try (exfalso; omega) | with_reducible refine iJ fun hc => ?_ | refine vcq (k := ?_) | refine dr 17 (k := ?_) | refine dr 11 (k := ?_)))); all_goals ((try conv => whnf); try with_reducible exact trivial)
  · intro i hi
    have hi : i ≤ L.length := hi
    have hti : (i : Int).toNat = i := Int.toNat_natCast i
    (repeat' ((conv => whnf); (first | (with_reducible first | apply spl | apply spl') <;> intro hc <;> try (exfalso; omega) | with_reducible refine iJ fun hc => ?_ | refine vcq (k := ?_) | refine dr 11 (k := ?_)))); all_goals ((try conv => whnf); try with_reducible exact trivial)
    · have hil : i < L.length := by omega
      have hst := hs i hil
      rw [hti]
      refine pcall_intro (hW i hil) rfl ?_
      (repeat' ((conv => whnf); (first | (with_reducible first | apply spl | apply spl') <;> intro hc <;> try (exfalso; omega) | with_reducible refine iJ fun hc => ?_ | refine vcq (k := ?_) | refine dr 11 (k := ?_)))); all_goals ((try conv => whnf); try with_reducible exact trivial)
      · unfold Qu.stepB at hst
        rw [if_pos hc] at hst
        refine ⟨i + 1, ⟨by omega, by dsimp only; omega⟩, none, ?_⟩
        dsimp only
        rw [hst, hti]
        (repeat' ((conv => whnf); (first | (with_reducible first | apply spl | apply spl') <;> intro hc <;> try (exfalso; omega) | with_reducible refine iJ fun hc => ?_ | refine vcq (k := ?_) | refine dr 17 (k := ?_) | refine dr 11 (k := ?_)))); all_goals ((try conv => whnf); try with_reducible exact trivial)
      · unfold Qu.stepB at hst
        rw [if_neg hc] at hst
        refine ⟨i + 1, ⟨by omega, by dsimp only; omega⟩, none, ?_⟩
        dsimp only
        rw [hst]
        (repeat' ((conv => whnf); (first | (with_reducible first | apply spl | apply spl') <;> intro hc <;> try (exfalso; omega) | with_reducible refine iJ fun hc => ?_ | refine vcq (k := ?_) | refine dr 17 (k := ?_) | refine dr 11 (k := ?_)))); all_goals ((try conv => whnf); try with_reducible exact trivial)
    · obtain rfl : i = L.length := by omega
      refine ⟨_, rfl, ?_⟩
      (repeat' ((conv => whnf); (first | (with_reducible first | apply spl | apply spl') <;> intro hc <;> try (exfalso; omega) | with_reducible refine iJ fun hc => ?_ | refine vcq (k := ?_) | refine dr 17 (k := ?_) | refine dr 11 (k := ?_)))); all_goals ((try conv => whnf); try with_reducible exact trivial)
theorem bound54 (q : Qu) (hq : q.Ok) (r : Nat) (hr : r < q.rq.length) : PureC Tryz.prog 54 false [.agg q.c, .int .i64 r] (· = .int .i64 (q.bound q.pas r)) := by
  have hrn := hq.rql
  have hall := q.all_len hq
  have hget := fun i h => Qu.all_get (q := q) (p := q.pas) (i := i) h
  have hE := fun i h => ends51 q hq _ (hget i h).lt (by have := (hget i h).len; omega)
  have hP := fun i h => place76 ((q.all q.pas).getD i []) (by have := (hget i h).len; omega) r (by obtain ⟨k, h1, h2⟩ := (hget i h).mem hr; rw [← h2, getD_get h1]; exact List.getElem_mem h1)
  have hv : ∀ i, i < (q.all q.pas).length → ((q.all q.pas).getD i []).idxOf r < ((q.all q.pas).getD i []).length ∧ (q.stQ true ((q.all q.pas).getD i []) (((q.all q.pas).getD i []).idxOf r + 1)).2 = q.endOf true ((q.all q.pas).getD i []) r := fun i h => by
    have hm : r ∈ (q.all q.pas).getD i [] := by obtain ⟨k, h1, h2⟩ := (hget i h).mem hr; rw [← h2, getD_get h1]; exact List.getElem_mem h1
    refine ⟨List.idxOf_lt_length_of_mem hm, ?_⟩
    unfold Qu.endOf
    rw [if_pos hm]
  have hs : ∀ i, i < (q.all q.pas).length → q.maxE r 0 ((q.all q.pas).take (i + 1)) = max (q.maxE r 0 ((q.all q.pas).take i)) (q.endOf true ((q.all q.pas).getD i []) r) := fun i h => by
    have e : (q.all q.pas).take (i + 1) = (q.all q.pas).take i ++ [(q.all q.pas).getD i []] := by
      rw [List.take_succ_eq_append_getElem h, List.getD_eq_getElem?_getD, List.getElem?_eq_getElem h]
      rfl
    unfold Qu.maxE
    rw [e, List.foldl_append]
    rfl
  have hz : q.bound q.pas r = q.maxE r 0 ((q.all q.pas).take (q.all q.pas).length) := by rw [List.take_length]; rfl
  rw [hz]
  refine pureC_of_exec Tryz.E_ok Tryz.func54 rfl (by kernel_rfl) ?_
  (repeat' ((conv => whnf); (first | (with_reducible first | apply spl | apply spl') <;> intro hc <;> try (exfalso; omega) | with_reducible refine iJ fun hc => ?_ | refine vcq (k := ?_) | refine dr 17 (k := ?_) | refine dr 11 (k := ?_)))); all_goals ((try conv => whnf); try with_reducible exact trivial)
  refine callee_fo (allowed57 q hq) rfl ?_
  rintro _ rfl
  clear hz
  generalize q.all q.pas = L at *
  (repeat' ((conv => whnf); (first | (with_reducible first | apply spl | apply spl') <;> intro hc <;> try (exfalso; omega) | with_reducible refine iJ fun hc => ?_ | refine vcq (k := ?_) | refine dr 17 (k := ?_) | refine dr 11 (k := ?_)))); all_goals ((try conv => whnf); try with_reducible exact trivial)
  refine ⟨Nat, fun i => i ≤ L.length, fun i => L.length - i, fun i => [(7, .int .i64 (i : Nat)), (6, .int .i64 (q.maxE r 0 (L.take i)))], fun _ => [], fun _ => [], 0, ⟨by omega, none, ?_⟩, ?_⟩
  · (repeat' ((conv => whnf); (first | (with_reducible first | apply spl | apply spl') <;> intro hc <;> try (exfalso; omega) | with_reducible refine iJ fun hc => ?_ | refine vcq (k := ?_) | refine dr 17 (k := ?_) | refine dr 11 (k := ?_)))); all_goals ((try conv => whnf); try with_reducible exact trivial)
    all_goals done
  · intro i hi
    have hi : i ≤ L.length := hi
    have hti : (i : Int).toNat = i := Int.toNat_natCast i
    (repeat' ((conv => whnf); (first | (with_reducible first | apply spl | apply spl') <;> intro hc <;> try (exfalso; omega) | with_reducible refine iJ fun hc => ?_ | refine vcq (k := ?_) | refine dr 17 (k := ?_)))); all_goals ((try conv => whnf); try with_reducible exact trivial)
    · have hil : i < L.length := by omega
      have hsi := hs i hil
      obtain ⟨hv1, hv2⟩ := hv i hil
      have hti2 : ((List.idxOf r (L.getD i []) : Nat) : Int).toNat = List.idxOf r (L.getD i []) := Int.toNat_natCast _
      rw [hti]
      refine pcall_intro (hE i hil) rfl ?_
      (repeat' ((conv => whnf); (first | (with_reducible first | apply spl | apply spl') <;> intro hc <;> try (exfalso; omega) | with_reducible refine iJ fun hc => ?_ | refine vcq (k := ?_) | refine dr 17 (k := ?_)))); all_goals ((try conv => whnf); try with_reducible exact trivial)
      rw [hti]
      refine pcall_intro (hP i hil) rfl ?_
      (repeat' ((conv => whnf); (first | (with_reducible first | apply spl | apply spl') <;> intro hc <;> try (exfalso; omega) | with_reducible refine iJ fun hc => ?_ | refine vcq (k := ?_) | refine dr 17 (k := ?_)))); all_goals ((try conv => whnf); try with_reducible exact trivial)
      refine ⟨i + 1, ⟨by omega, by dsimp only; omega⟩, none, ?_⟩
      dsimp only
      rw [hsi, ← hv2]
      (repeat' ((conv => whnf); (first | (with_reducible first | apply spl | apply spl') <;> intro hc <;> try (exfalso; omega) | with_reducible refine iJ fun hc => ?_ | refine vcq (k := ?_) | refine dr 17 (k := ?_) | refine dr 11 (k := ?_)))); all_goals ((try conv => whnf); try with_reducible exact trivial)
      all_goals done
    · obtain rfl : i = L.length := by omega
      refine ⟨_, rfl, ?_⟩
      (repeat' ((conv => whnf); (first | (with_reducible first | apply spl | apply spl') <;> intro hc <;> try (exfalso; omega) | with_reducible refine iJ fun hc => ?_ | refine vcq (k := ?_) | refine dr 17 (k := ?_) | refine dr 11 (k := ?_)))); all_goals ((try conv => whnf); try with_reducible exact trivial)
end Go.Proofs

namespace Go.Proofs
open Go Go.Sx
set_option maxRecDepth 100000
set_option maxHeartbeats 4000000
def Qu.stepS (q : Qu) (s : Nat → Int) (o : List Nat) : Nat → Int := fun r => if r < q.rq.length ∧ q.isLate o r then s r + 1 else s r
def Qu.cntL (q : Qu) (s : Nat → Int) (L : List (List Nat)) : Nat → Int := L.foldl q.stepS s
theorem Qu.stepS_bnd (q : Qu) (s : Nat → Int) (o : List Nat) (r : Nat) : s r ≤ q.stepS s o r ∧ q.stepS s o r ≤ s r + 1 := by
  unfold Qu.stepS
  split <;> omega
theorem Qu.cntL_bnd (q : Qu) (r : Nat) : ∀ (L : List (List Nat)) (s : Nat → Int), s r ≤ q.cntL s L r ∧ q.cntL s L r ≤ s r + L.length
  | [], s => by show s r ≤ s r ∧ s r ≤ s r + (0 : Nat); omega
  | o :: L, s => by
    have h := Qu.cntL_bnd q r L (q.stepS s o)
    have g := q.stepS_bnd s o r
    show s r ≤ q.cntL (q.stepS s o) L r ∧ q.cntL (q.stepS s o) L r ≤ _
    rw [List.length_cons]
    omega
theorem Qu.cntL_zero (q : Qu) (r : Nat) (hr : r < q.rq.length) : ∀ (L : List (List Nat)) (s : Nat → Int), q.cntL s L r = s r ↔ ∀ o ∈ L, ¬ q.isLate o r
  | [], s => ⟨fun _ o ho => absurd ho List.not_mem_nil, fun _ => rfl⟩
  | o :: L, s => by
    have h := Qu.cntL_zero q r hr L (q.stepS s o)
    have g := q.cntL_bnd r L (q.stepS s o)
    show q.cntL (q.stepS s o) L r = s r ↔ _
    by_cases hl : q.isLate o r
    · have e : q.stepS s o r = s r + 1 := by unfold Qu.stepS; rw [if_pos ⟨hr, hl⟩]
      refine ⟨fun h' => by omega, fun h' => absurd hl (h' o List.mem_cons_self)⟩
    · have e : q.stepS s o r = s r := by unfold Qu.stepS; rw [if_neg fun g' => hl g'.2]
      rw [e] at h
      rw [h]
      refine ⟨fun h' o' ho' => ?_, fun h' o' ho' => h' o' (List.mem_cons_of_mem _ ho')⟩
      rcases List.mem_cons.1 ho' with rfl | g'
      · exact hl
      · exact h' o' g'
theorem dfsP_mono (n p : Nat) (od : Nat → Prop) (m : Nat) (b : List Nat) (i : Nat) : ∀ j, i ≤ j → (dfsP n p od m b i).length ≤ (dfsP n p od m b j).length
  | 0, h => by rw [show i = 0 by omega]; exact Nat.le_refl _
  | j + 1, h => by
    rcases Nat.lt_or_eq_of_le h with g | rfl
    · have := dfsP_mono n p od m b i j (by omega)
      rw [dfsP_succ, List.length_append]
      omega
    · exact Nat.le_refl _
theorem dfsP_room {n p : Nat} {od : Nat → Prop} {m : Nat} {b : List Nat} {i : Nat} (hi : i < n) (h0 : i ∉ b) (h : FitsQ n p od b i) : (dfsP n p od m b i).length + (dfsQ n p od m (b ++ [i])).length ≤ (dfsQ n p od (m + 1) b).length := by
  have h1 := dfsP_mono n p od m b (i + 1) n (by omega)
  rw [dfsP_fit h0 h, List.length_append, dfsP_all] at h1
  exact h1
theorem dfsQ_len (n p : Nat) (od : Nat → Prop) (hn : n ≤ 6) : ∀ (m : Nat) (b : List Nat), (dfsQ n p od m b).length ≤ 6 ^ m
  | 0, b => by simp [dfsQ]
  | m + 1, b => by
    have h : ∀ i, (dfsP n p od m b i).length ≤ i * 6 ^ m := fun i => by
      induction i with
      | zero => simp [dfsP]
      | succ i ih =>
        rw [dfsP_succ, List.length_append]
        have h2 : (dfsF n p od m b i).length ≤ 6 ^ m := by
          unfold dfsF
          split
          · simp
          · split
            · exact dfsQ_len n p od hn m _
            · simp
        rw [Nat.add_mul]
        omega
    have h1 := h n
    rw [dfsP_all] at h1
    have h2 : n * 6 ^ m ≤ 6 * 6 ^ m := Nat.mul_le_mul_right _ hn
    rw [Nat.pow_succ, Nat.mul_comm (6 ^ m) 6]
    omega
noncomputable def surH (q : Qu) (s : Nat → Int) (a b c : Nat) : List O := [.loop [.any, .any, .any, .any, .any, .ptr a 0, .ptr b 0, .any, .any, .any, .any, .any, .any, .any, .any, .any, .any, .any, .any, .any, .any, .any, .any, .any, .any, .any, .any, .any, .any, .any, .any, .any, .any, .any, .any, .any, .any, .any, .any, .any, .any, .any, .any, .any, .any, .any, .any, .any, .any, .any, .any, .any, .any, .any, .any, .any, .any] [25] (rfA Tryz.f27) (rfB Tryz.f27) .ready, .cells 68 q.c, .cells 31 [.osl c q.rq.length], .row 3 1 q.rq.length (fun r => [.int .i64 (s r)]) false]
theorem round22 (q : Qu) (hq : q.Ok) (o : List Nat) (ho : IsOrd q.rq.length o) (s : Nat → Int) (hs : ∀ r, 0 ≤ s r ∧ s r + (1 : Nat) ≤ 1000000) : YCall Tryz.prog 0 [crs q o] (surH q s 1 2 3) (fun v H' => v = .kb true ∧ H' = surH q (q.stepS s o) 1 2 3) := by
  have hn := hq.rql
  refine YCall.ent (K := fun v H' => v = .kb true ∧ ∃ x, H' = surH q (q.stepS s o) 1 2 3 ++ [.cells 80 x]) (ycall_exec Tryz.E_ok rfl rfl rfl ?_) ?_
  · (repeat' ((conv => whnf); (first | (with_reducible first | apply spl | apply spl') <;> intro hc <;> try (exfalso; omega) | with_reducible refine iJ fun hc => ?_ | refine vcq (k := ?_) | refine dr 2014 (k := ?_) | refine dr 40603052005 (k := ?_)))); all_goals ((try conv => whnf); try with_reducible exact trivial)
    refine ⟨Nat, fun i => i ≤ q.rq.length, fun i => q.rq.length - i, fun i => [(28, .int .i64 (i : Nat)), (8, .any)], fun i => [(3, .row 3 1 q.rq.length (fun r => [.int .i64 (if r < i then q.stepS s o r else s r)]) false)], fun _ => [], 0, ⟨by omega, some [some 0, some 1, some 2, some 3, some 4], ?_⟩, ?_⟩
    · (repeat' ((conv => whnf); (first | (with_reducible first | apply spl | apply spl') <;> intro hc <;> try (exfalso; omega) | with_reducible refine iJ fun hc => ?_ | refine vcq (k := ?_) | refine dr 2014 (k := ?_) | refine dr 40603052005 (k := ?_)))); all_goals ((try conv => whnf); try with_reducible exact trivial)
    · intro i hi
      have hi : i ≤ q.rq.length := hi
      have hti : (i : Int).toNat = i := Int.toNat_natCast i
      (repeat' ((conv => whnf); (first | (with_reducible first | apply spl | apply spl') <;> intro hc <;> try (exfalso; omega) | with_reducible refine iJ fun hc => ?_ | refine vcq (k := ?_) | refine dr 2014 (k := ?_) | refine dr 40603052005 (k := ?_)))); all_goals ((try conv => whnf); try with_reducible exact trivial)
      · have hil : i < q.rq.length := by omega
        have hsi := hs i
        refine callee_fo (isLate47 q hq o i hil) rfl ?_
        rintro _ rfl
        (repeat' ((conv => whnf); (first | (with_reducible first | apply spl | apply spl') <;> intro hc <;> try (exfalso; omega) | with_reducible refine iJ fun hc => ?_ | refine vcq (k := ?_) | refine dr 2014 (k := ?_) | refine dr 40603052005 (k := ?_)))); all_goals ((try conv => whnf); try with_reducible exact trivial)
        · have e : q.stepS s o i = s i + 1 := by unfold Qu.stepS; rw [if_pos ⟨hil, hc⟩]
          rw [hti, if_neg (Nat.lt_irrefl i)]
          (repeat' ((conv => whnf); (first | (with_reducible first | apply spl | apply spl') <;> intro hc <;> try (exfalso; omega) | with_reducible refine iJ fun hc => ?_ | refine vcq (k := ?_) | refine dr 2014 (k := ?_) | refine dr 40603052005 (k := ?_)))); all_goals ((try conv => whnf); try with_reducible exact trivial)
          refine ⟨i + 1, ⟨by omega, by dsimp only; omega⟩, some [some 0, some 1, some 2, some 3, some 4], ?_⟩
          (repeat' ((conv => whnf); (first | (with_reducible first | apply spl | apply spl') <;> intro hc <;> try (exfalso; omega) | with_reducible refine iJ fun hc => ?_ | refine vcq (k := ?_) | refine dr 2014 (k := ?_) | refine dr 40603052005 (k := ?_)))); all_goals ((try conv => whnf); try with_reducible exact trivial)
          refine ⟨fun r _ => ?_, ?_⟩
          · dsimp only
            rw [hti]
            by_cases h : r = i
            · subst h
              rw [spliceP_pos rfl, e, if_pos (Nat.lt_succ_self r)]
              rfl
            · rw [spliceP_neg h]
              by_cases h2 : r < i
              · rw [if_pos h2, if_pos (by omega)]
              · rw [if_neg h2, if_neg (by omega)]
          · (repeat' ((conv => whnf); (first | (with_reducible first | apply spl | apply spl') <;> intro hc <;> try (exfalso; omega) | with_reducible refine iJ fun hc => ?_ | refine vcq (k := ?_) | refine dr 2014 (k := ?_) | refine dr 40603052005 (k := ?_)))); all_goals ((try conv => whnf); try with_reducible exact trivial)
        · have e : q.stepS s o i = s i := by unfold Qu.stepS; rw [if_neg fun g => hc g.2]
          refine ⟨i + 1, ⟨by omega, by dsimp only; omega⟩, some [some 0, some 1, some 2, some 3, some 4], ?_⟩
          (repeat' ((conv => whnf); (first | (with_reducible first | apply spl | apply spl') <;> intro hc <;> try (exfalso; omega) | with_reducible refine iJ fun hc => ?_ | refine vcq (k := ?_) | refine dr 2014 (k := ?_) | refine dr 40603052005 (k := ?_)))); all_goals ((try conv => whnf); try with_reducible exact trivial)
          refine ⟨fun r _ => ?_, ?_⟩
          · dsimp only
            by_cases h : r = i
            · subst h
              rw [if_neg (Nat.lt_irrefl r), if_pos (by omega), e]
            · by_cases h2 : r < i
              · rw [if_pos h2, if_pos (by omega)]
              · rw [if_neg h2, if_neg (by omega)]
          · (repeat' ((conv => whnf); (first | (with_reducible first | apply spl | apply spl') <;> intro hc <;> try (exfalso; omega) | with_reducible refine iJ fun hc => ?_ | refine vcq (k := ?_) | refine dr 2014 (k := ?_) | refine dr 40603052005 (k := ?_)))); all_goals ((try conv => whnf); try with_reducible exact trivial)
      · obtain rfl : i = q.rq.length := by omega
        have hf : (fun r => [V.int .i64 (if r < q.rq.length then q.stepS s o r else s r)]) = fun r => [V.int .i64 (q.stepS s o r)] := funext fun r => by
          by_cases h : r < q.rq.length
          · rw [if_pos h]
          · rw [if_neg h]; unfold Qu.stepS; rw [if_neg fun g => h g.1]
        rw [hf]
        exact ⟨_, rfl⟩
  · rintro v H' ⟨rfl, x, rfl⟩
    refine ⟨_, _, ⟨rfl, rfl⟩, some [some 0, some 1, some 2, some 3], ?_⟩
    (repeat' ((conv => whnf); (first | (with_reducible first | apply spl | apply spl') <;> intro hc <;> try (exfalso; omega) | with_reducible refine iJ fun hc => ?_ | refine vcq (k := ?_) | refine dr 2014 (k := ?_) | refine dr 40603052005 (k := ?_)))); all_goals ((try conv => whnf); try with_reducible exact trivial)
theorem next22 (q : Qu) (hq : q.Ok) : ∀ (m : Nat) (b : List Nat) (s : Nat → Int), b.length + m = q.rq.length → b.Nodup → (∀ x ∈ b, x < q.rq.length) →
    (∀ r, 0 ≤ s r ∧ s r + (((dfsQ q.rq.length q.pas.toNat q.od m b)).length : Nat) ≤ 1000000) →
    Sx.Callee Tryz.prog 75 [.osl 0 b.length, .ptr 1 0, .ptr 2 0, .ptr 3 0] (nxtH q b false ++ surH q s 5 6 7) (fun v H' => v = .kb true ∧ H' = nxtH q b false ++ surH q (q.cntL s (dfsQ q.rq.length q.pas.toNat q.od m b)) 5 6 7)
  | 0, b, s, hl, hnd, hlt, hb => by
    have hn := hq.rql
    have ho : IsOrd q.rq.length b := ⟨by omega, hnd, hlt⟩
    refine callee_ent Tryz.E_ok Tryz.func75 rfl (by kernel_rfl) ?_
    (repeat' ((conv => whnf); (first | (with_reducible first | apply spl | apply spl') <;> intro hc <;> try (exfalso; omega) | with_reducible refine iJ fun hc => ?_ | refine vcq (k := ?_) | refine dr 40603052005 (k := ?_)))); all_goals ((try conv => whnf); try with_reducible exact trivial)
    refine callee_view (ends32 q hq true b ho) ?_
    (repeat' ((conv => whnf); (first | (with_reducible first | apply spl | apply spl') <;> intro hc <;> try (exfalso; omega) | with_reducible refine iJ fun hc => ?_ | refine vcq (k := ?_) | refine dr 2014 (k := ?_) | refine dr 40603052005 (k := ?_)))); all_goals ((try conv => whnf); try with_reducible exact trivial)
    rintro _ rfl
    (repeat' ((conv => whnf); (first | (with_reducible first | apply spl | apply spl') <;> intro hc <;> try (exfalso; omega) | with_reducible refine iJ fun hc => ?_ | refine vcq (k := ?_) | refine dr 2014 (k := ?_) | refine dr 40603052005 (k := ?_)))); all_goals ((try conv => whnf); try with_reducible exact trivial)
    refine ycall_frz rfl (by simp [app_eq]) ?_
    refine ycall_frame [4, 5, 6, 7] (round22 q hq b ho s hb) rfl rfl ?_ ?_
    · (repeat' ((conv => whnf); (first | (with_reducible first | apply spl | apply spl') <;> intro hc <;> try (exfalso; omega) | with_reducible refine iJ fun hc => ?_ | refine vcq (k := ?_) | refine dr 2014 (k := ?_) | refine dr 40603052005 (k := ?_)))); all_goals ((try conv => whnf); try with_reducible exact trivial)
    · rintro _ _ ⟨rfl, rfl⟩
      (repeat' ((conv => whnf); (first | (with_reducible first | apply spl | apply spl') <;> intro hc <;> try (exfalso; omega) | with_reducible refine iJ fun hc => ?_ | refine vcq (k := ?_) | refine dr 2014 (k := ?_) | refine dr 40603052005 (k := ?_)))); all_goals ((try conv => whnf); try with_reducible exact trivial)
      refine ⟨_, _, ⟨rfl, rfl⟩, some [some 0, some 1, some 2, some 3, some 4, some 5, some 6, some 7], ?_⟩
      (repeat' ((conv => whnf); (first | (with_reducible first | apply spl | apply spl') <;> intro hc <;> try (exfalso; omega) | with_reducible refine iJ fun hc => ?_ | refine vcq (k := ?_) | refine dr 2014 (k := ?_) | refine dr 40603052005 (k := ?_)))); all_goals ((try conv => whnf); try with_reducible exact trivial)
  | m + 1, b, s, hl, hnd, hlt, hb => by
    have ih := next22 q hq m
    have hn := hq.rql
    refine callee_ent Tryz.E_ok Tryz.func75 rfl (by kernel_rfl) ?_
    (repeat' ((conv => whnf); (first | (with_reducible first | apply spl | apply spl') <;> intro hc <;> try (exfalso; omega) | with_reducible refine iJ fun hc => ?_ | refine vcq (k := ?_) | refine dr 2014 (k := ?_) | refine dr 40603052005 (k := ?_)))); all_goals ((try conv => whnf); try with_reducible exact trivial)
    refine ⟨Nat × (Nat → Int), fun p => p.1 ≤ q.rq.length ∧ p.2 = q.cntL s (dfsP q.rq.length q.pas.toNat q.od m b p.1), fun p => q.rq.length - p.1, fun p => [(29, .int .i64 (p.1 : Nat))], fun p => [(7, .row 3 1 q.rq.length (fun r => [.int .i64 (p.2 r)]) false)], fun _ => [], (0, s), ⟨⟨by dsimp only; omega, rfl⟩, none, ?_⟩, ?_⟩
    · (repeat' ((conv => whnf); (first | (with_reducible first | apply spl | apply spl') <;> intro hc <;> try (exfalso; omega) | with_reducible refine iJ fun hc => ?_ | refine vcq (k := ?_) | refine dr 2014 (k := ?_) | refine dr 40603052005 (k := ?_)))); all_goals ((try conv => whnf); try with_reducible exact trivial)
      rfl
    · rintro ⟨i, t⟩ ⟨hi, ht⟩
      dsimp only at hi ht
      have hti : (i : Int).toNat = i := Int.toNat_natCast i
      (repeat' ((conv => whnf); (first | (with_reducible first | apply spl | apply spl') <;> intro hc <;> try (exfalso; omega) | with_reducible refine iJ fun hc => ?_ | refine vcq (k := ?_) | refine dr 2014 (k := ?_) | refine dr 40603052005 (k := ?_)))); all_goals ((try conv => whnf); try with_reducible exact trivial)
      · refine ⟨Nat, fun j => j ≤ b.length ∧ i ∉ b.take j, fun j => b.length - j, fun j => [(34, .int .i64 (j : Nat))], fun _ => [], fun _ => [], 0, ⟨⟨by omega, by simp⟩, none, ?_⟩, ?_⟩
        · (repeat' ((conv => whnf); (first | (with_reducible first | apply spl | apply spl') <;> intro hc <;> try (exfalso; omega) | with_reducible refine iJ fun hc => ?_ | refine vcq (k := ?_) | refine dr 2014 (k := ?_) | refine dr 40603052005 (k := ?_)))); all_goals ((try conv => whnf); try with_reducible exact trivial)
        · rintro j ⟨hj, hjm⟩
          have htj : (j : Int).toNat = j := Int.toNat_natCast j
          (repeat' ((conv => whnf); (first | (with_reducible first | apply spl | apply spl') <;> intro hc <;> try (exfalso; omega) | with_reducible refine iJ fun hc => ?_ | refine vcq (k := ?_) | refine dr 2014 (k := ?_)))); all_goals ((try conv => whnf); try with_reducible exact trivial)
          · rw [htj] at hc
            have hjb : j < b.length := by omega
            have hin : i ∈ b := by
              rw [show i = b.getD j 0 by omega, getD_get hjb]
              exact List.getElem_mem hjb
            have hil : i < q.rq.length := hlt i hin
            refine ⟨(i + 1, t), ⟨⟨by dsimp only; omega, by dsimp only; rw [dfsP_in hin]; exact ht⟩, by dsimp only; omega⟩, none, ?_⟩
            (repeat' ((conv => whnf); (first | (with_reducible first | apply spl | apply spl') <;> intro hc <;> try (exfalso; omega) | with_reducible refine iJ fun hc => ?_ | refine vcq (k := ?_) | refine dr 2014 (k := ?_) | refine dr 40603052005 (k := ?_)))); all_goals ((try conv => whnf); try with_reducible exact trivial)
          · rw [htj] at hc
            have hjb : j < b.length := by omega
            refine ⟨j + 1, ⟨⟨by omega, ?_⟩, by dsimp only; omega⟩, none, ?_⟩
            · rw [List.take_succ_eq_append_getElem hjb, ← getD_get hjb, List.mem_append, List.mem_singleton]
              rintro (g | g)
              · exact hjm g
              · omega
            · (repeat' ((conv => whnf); (first | (with_reducible first | apply spl | apply spl') <;> intro hc <;> try (exfalso; omega) | with_reducible refine iJ fun hc => ?_ | refine vcq (k := ?_) | refine dr 2014 (k := ?_) | refine dr 40603052005 (k := ?_)))); all_goals ((try conv => whnf); try with_reducible exact trivial)
          · obtain rfl : j = b.length := by omega
            rw [List.take_length] at hjm
            have hil : i < q.rq.length := by omega
            by_cases hf : FitsQ q.rq.length q.pas.toNat q.od b i
            · refine pcall_view (fitsT q hq b (by omega) i hil hf) ?_ ?_
              · (repeat' ((conv => whnf); (first | (with_reducible first | apply spl | apply spl') <;> intro hc <;> try (exfalso; omega) | with_reducible refine iJ fun hc => ?_ | refine vcq (k := ?_) | refine dr 2014 (k := ?_) | refine dr 40603052005 (k := ?_)))); all_goals ((try conv => whnf); try with_reducible exact trivial)
              · (repeat' ((conv => whnf); (first | (with_reducible first | apply spl | apply spl') <;> intro hc <;> try (exfalso; omega) | with_reducible refine iJ fun hc => ?_ | refine vcq (k := ?_) | refine dr 2014 (k := ?_)))); all_goals ((try conv => whnf); try with_reducible exact trivial)
                have ⟨k1, k2, k3⟩ := snoc_ok hl hnd hlt hil hjm
                have hlen : (b ++ [i]).length = b.length + 1 := by simp
                have hb2 : ∀ r, 0 ≤ t r ∧ t r + ((dfsQ q.rq.length q.pas.toNat q.od m (b ++ [i])).length : Nat) ≤ 1000000 := fun r => by
                  have h1 := hb r
                  have h2 := q.cntL_bnd r (dfsP q.rq.length q.pas.toNat q.od m b i) s
                  have h3 := dfsP_room (m := m) hil hjm hf
                  rw [ht]
                  omega
                refine callee_frame [9, 1, 2, 3, 4, 5, 6, 7] (ih (b ++ [i]) t k1 k2 k3 hb2) rfl ?_ ?_
                · (repeat' ((conv => whnf); (first | (with_reducible first | apply spl | apply spl') <;> intro hc <;> try (exfalso; omega) | with_reducible refine iJ fun hc => ?_ | refine vcq (k := ?_) | refine dr 2014 (k := ?_) | refine dr 40603052005 (k := ?_)))); all_goals ((try conv => whnf); try with_reducible exact trivial)
                  refine ⟨rowOf_snoc rfl (fun _ _ => rfl), ?_⟩
                  (repeat' ((conv => whnf); (first | (with_reducible first | apply spl | apply spl') <;> intro hc <;> try (exfalso; omega) | with_reducible refine iJ fun hc => ?_ | refine vcq (k := ?_) | refine dr 2014 (k := ?_) | refine dr 40603052005 (k := ?_)))); all_goals ((try conv => whnf); try with_reducible exact trivial)
                · rintro _ _ ⟨rfl, rfl⟩
                  (repeat' ((conv => whnf); (first | (with_reducible first | apply spl | apply spl') <;> intro hc <;> try (exfalso; omega) | with_reducible refine iJ fun hc => ?_ | refine vcq (k := ?_) | refine dr 2014 (k := ?_) | refine dr 40603052005 (k := ?_)))); all_goals ((try conv => whnf); try with_reducible exact trivial)
                  refine ⟨(i + 1, q.cntL t (dfsQ q.rq.length q.pas.toNat q.od m (b ++ [i]))), ⟨⟨by dsimp only; omega, by dsimp only; rw [ht, dfsP_fit hjm hf]; exact List.foldl_append.symm⟩, by dsimp only; omega⟩, some [some 0, some 1, some 2, some 3, some 4, some 5, some 6, some 7], ?_⟩
                  (repeat' ((conv => whnf); (first | (with_reducible first | apply spl | apply spl') <;> intro hc <;> try (exfalso; omega) | with_reducible refine iJ fun hc => ?_ | refine vcq (k := ?_) | refine dr 2014 (k := ?_) | refine dr 40603052005 (k := ?_)))); all_goals ((try conv => whnf); try with_reducible exact trivial)
            · refine pcall_view (fitsF q hq b (by omega) i hil hf) ?_ ?_
              · (repeat' ((conv => whnf); (first | (with_reducible first | apply spl | apply spl') <;> intro hc <;> try (exfalso; omega) | with_reducible refine iJ fun hc => ?_ | refine vcq (k := ?_) | refine dr 2014 (k := ?_) | refine dr 40603052005 (k := ?_)))); all_goals ((try conv => whnf); try with_reducible exact trivial)
              · (repeat' ((conv => whnf); (first | (with_reducible first | apply spl | apply spl') <;> intro hc <;> try (exfalso; omega) | with_reducible refine iJ fun hc => ?_ | refine vcq (k := ?_) | refine dr 2014 (k := ?_)))); all_goals ((try conv => whnf); try with_reducible exact trivial)
                refine ⟨(i + 1, t), ⟨⟨by dsimp only; omega, by dsimp only; rw [dfsP_no hf]; exact ht⟩, by dsimp only; omega⟩, none, ?_⟩
                (repeat' ((conv => whnf); (first | (with_reducible first | apply spl | apply spl') <;> intro hc <;> try (exfalso; omega) | with_reducible refine iJ fun hc => ?_ | refine vcq (k := ?_) | refine dr 2014 (k := ?_) | refine dr 40603052005 (k := ?_)))); all_goals ((try conv => whnf); try with_reducible exact trivial)
      · obtain rfl : i = q.rq.length := by omega
        subst ht
        refine ⟨_, _, ⟨rfl, rfl⟩, some [some 0, some 1, some 2, some 3, some 4, some 5, some 6, some 7], ?_⟩
        (repeat' ((conv => whnf); (first | (with_reducible first | apply spl | apply spl') <;> intro hc <;> try (exfalso; omega) | with_reducible refine iJ fun hc => ?_ | refine vcq (k := ?_) | refine dr 2014 (k := ?_) | refine dr 40603052005 (k := ?_)))); all_goals ((try conv => whnf); try with_reducible exact trivial)
theorem next22N (q : Qu) (hq : q.Ok) : ∀ (m : Nat) (b : List Nat) (s : Nat → Int), b.length + m = q.rq.length → b.Nodup → (∀ x ∈ b, x < q.rq.length) →
    (∀ r, 0 ≤ s r ∧ s r + (((dfsQ q.rq.length q.pas.toNat q.od m b)).length : Nat) ≤ 1000000) →
    Sx.Callee Tryz.prog 75 [.osl 0 b.length, .ptr 1 0, .ptr 2 0, .ptr 3 0] (nxtH q b true ++ surH q s 5 6 7) (fun v H' => v = .kb true ∧ H' = nxtH q b true ++ surH q (q.cntL s (dfsQ q.rq.length q.pas.toNat q.od m b)) 5 6 7)
  | 0, b, s, hl, hnd, hlt, hb => by
    have hn := hq.rql
    have ho : IsOrd q.rq.length b := ⟨by omega, hnd, hlt⟩
    refine callee_ent Tryz.E_ok Tryz.func75 rfl (by kernel_rfl) ?_
    (repeat' ((conv => whnf); (first | (with_reducible first | apply spl | apply spl') <;> intro hc <;> try (exfalso; omega) | with_reducible refine iJ fun hc => ?_ | refine vcq (k := ?_) | refine dr 40603052005 (k := ?_)))); all_goals ((try conv => whnf); try with_reducible exact trivial)
    refine callee_view (ends32 q hq true b ho) ?_
    (repeat' ((conv => whnf); (first | (with_reducible first | apply spl | apply spl') <;> intro hc <;> try (exfalso; omega) | with_reducible refine iJ fun hc => ?_ | refine vcq (k := ?_) | refine dr 2014 (k := ?_) | refine dr 40603052005 (k := ?_)))); all_goals ((try conv => whnf); try with_reducible exact trivial)
    rintro _ rfl
    (repeat' ((conv => whnf); (first | (with_reducible first | apply spl | apply spl') <;> intro hc <;> try (exfalso; omega) | with_reducible refine iJ fun hc => ?_ | refine vcq (k := ?_) | refine dr 2014 (k := ?_) | refine dr 40603052005 (k := ?_)))); all_goals ((try conv => whnf); try with_reducible exact trivial)
    refine ycall_frz rfl (by simp [app_eq]) ?_
    refine ycall_frame [4, 5, 6, 7] (round22 q hq b ho s hb) rfl rfl ?_ ?_
    · (repeat' ((conv => whnf); (first | (with_reducible first | apply spl | apply spl') <;> intro hc <;> try (exfalso; omega) | with_reducible refine iJ fun hc => ?_ | refine vcq (k := ?_) | refine dr 2014 (k := ?_) | refine dr 40603052005 (k := ?_)))); all_goals ((try conv => whnf); try with_reducible exact trivial)
    · rintro _ _ ⟨rfl, rfl⟩
      (repeat' ((conv => whnf); (first | (with_reducible first | apply spl | apply spl') <;> intro hc <;> try (exfalso; omega) | with_reducible refine iJ fun hc => ?_ | refine vcq (k := ?_) | refine dr 2014 (k := ?_) | refine dr 40603052005 (k := ?_)))); all_goals ((try conv => whnf); try with_reducible exact trivial)
      refine ⟨_, _, ⟨rfl, rfl⟩, some [some 0, some 1, some 2, some 3, some 4, some 5, some 6, some 7], ?_⟩
      (repeat' ((conv => whnf); (first | (with_reducible first | apply spl | apply spl') <;> intro hc <;> try (exfalso; omega) | with_reducible refine iJ fun hc => ?_ | refine vcq (k := ?_) | refine dr 2014 (k := ?_) | refine dr 40603052005 (k := ?_)))); all_goals ((try conv => whnf); try with_reducible exact trivial)
  | m + 1, b, s, hl, hnd, hlt, hb => by
    have ih := next22 q hq m
    have hn := hq.rql
    refine callee_ent Tryz.E_ok Tryz.func75 rfl (by kernel_rfl) ?_
    (repeat' ((conv => whnf); (first | (with_reducible first | apply spl | apply spl') <;> intro hc <;> try (exfalso; omega) | with_reducible refine iJ fun hc => ?_ | refine vcq (k := ?_) | refine dr 2014 (k := ?_) | refine dr 40603052005 (k := ?_)))); all_goals ((try conv => whnf); try with_reducible exact trivial)
    refine ⟨Nat × (Nat → Int), fun p => p.1 ≤ q.rq.length ∧ p.2 = q.cntL s (dfsP q.rq.length q.pas.toNat q.od m b p.1), fun p => q.rq.length - p.1, fun p => [(29, .int .i64 (p.1 : Nat))], fun p => [(7, .row 3 1 q.rq.length (fun r => [.int .i64 (p.2 r)]) false)], fun _ => [], (0, s), ⟨⟨by dsimp only; omega, rfl⟩, none, ?_⟩, ?_⟩
    · (repeat' ((conv => whnf); (first | (with_reducible first | apply spl | apply spl') <;> intro hc <;> try (exfalso; omega) | with_reducible refine iJ fun hc => ?_ | refine vcq (k := ?_) | refine dr 2014 (k := ?_) | refine dr 40603052005 (k := ?_)))); all_goals ((try conv => whnf); try with_reducible exact trivial)
      rfl
    · rintro ⟨i, t⟩ ⟨hi, ht⟩
      dsimp only at hi ht
      have hti : (i : Int).toNat = i := Int.toNat_natCast i
      (repeat' ((conv => whnf); (first | (with_reducible first | apply spl | apply spl') <;> intro hc <;> try (exfalso; omega) | with_reducible refine iJ fun hc => ?_ | refine vcq (k := ?_) | refine dr 2014 (k := ?_) | refine dr 40603052005 (k := ?_)))); all_goals ((try conv => whnf); try with_reducible exact trivial)
      · refine ⟨Nat, fun j => j ≤ b.length ∧ i ∉ b.take j, fun j => b.length - j, fun j => [(34, .int .i64 (j : Nat))], fun _ => [], fun _ => [], 0, ⟨⟨by omega, by simp⟩, none, ?_⟩, ?_⟩
        · (repeat' ((conv => whnf); (first | (with_reducible first | apply spl | apply spl') <;> intro hc <;> try (exfalso; omega) | with_reducible refine iJ fun hc => ?_ | refine vcq (k := ?_) | refine dr 2014 (k := ?_) | refine dr 40603052005 (k := ?_)))); all_goals ((try conv => whnf); try with_reducible exact trivial)
        · rintro j ⟨hj, hjm⟩
          have htj : (j : Int).toNat = j := Int.toNat_natCast j
          (repeat' ((conv => whnf); (first | (with_reducible first | apply spl | apply spl') <;> intro hc <;> try (exfalso; omega) | with_reducible refine iJ fun hc => ?_ | refine vcq (k := ?_) | refine dr 2014 (k := ?_)))); all_goals ((try conv => whnf); try with_reducible exact trivial)
          · rw [htj] at hc
            have hjb : j < b.length := by omega
            have hin : i ∈ b := by
              rw [show i = b.getD j 0 by omega, getD_get hjb]
              exact List.getElem_mem hjb
            have hil : i < q.rq.length := hlt i hin
            refine ⟨(i + 1, t), ⟨⟨by dsimp only; omega, by dsimp only; rw [dfsP_in hin]; exact ht⟩, by dsimp only; omega⟩, none, ?_⟩
            (repeat' ((conv => whnf); (first | (with_reducible first | apply spl | apply spl') <;> intro hc <;> try (exfalso; omega) | with_reducible refine iJ fun hc => ?_ | refine vcq (k := ?_) | refine dr 2014 (k := ?_) | refine dr 40603052005 (k := ?_)))); all_goals ((try conv => whnf); try with_reducible exact trivial)
          · rw [htj] at hc
            have hjb : j < b.length := by omega
            refine ⟨j + 1, ⟨⟨by omega, ?_⟩, by dsimp only; omega⟩, none, ?_⟩
            · rw [List.take_succ_eq_append_getElem hjb, ← getD_get hjb, List.mem_append, List.mem_singleton]
              rintro (g | g)
              · exact hjm g
              · omega
            · (repeat' ((conv => whnf); (first | (with_reducible first | apply spl | apply spl') <;> intro hc <;> try (exfalso; omega) | with_reducible refine iJ fun hc => ?_ | refine vcq (k := ?_) | refine dr 2014 (k := ?_) | refine dr 40603052005 (k := ?_)))); all_goals ((try conv => whnf); try with_reducible exact trivial)
          · obtain rfl : j = b.length := by omega
            rw [List.take_length] at hjm
            have hil : i < q.rq.length := by omega
            by_cases hf : FitsQ q.rq.length q.pas.toNat q.od b i
            · refine pcall_view (fitsT q hq b (by omega) i hil hf) ?_ ?_
              · (repeat' ((conv => whnf); (first | (with_reducible first | apply spl | apply spl') <;> intro hc <;> try (exfalso; omega) | with_reducible refine iJ fun hc => ?_ | refine vcq (k := ?_) | refine dr 2014 (k := ?_) | refine dr 40603052005 (k := ?_)))); all_goals ((try conv => whnf); try with_reducible exact trivial)
              · (repeat' ((conv => whnf); (first | (with_reducible first | apply spl | apply spl') <;> intro hc <;> try (exfalso; omega) | with_reducible refine iJ fun hc => ?_ | refine vcq (k := ?_) | refine dr 2014 (k := ?_)))); all_goals ((try conv => whnf); try with_reducible exact trivial)
                have ⟨k1, k2, k3⟩ := snoc_ok hl hnd hlt hil hjm
                have hlen : (b ++ [i]).length = b.length + 1 := by simp
                have hb2 : ∀ r, 0 ≤ t r ∧ t r + ((dfsQ q.rq.length q.pas.toNat q.od m (b ++ [i])).length : Nat) ≤ 1000000 := fun r => by
                  have h1 := hb r
                  have h2 := q.cntL_bnd r (dfsP q.rq.length q.pas.toNat q.od m b i) s
                  have h3 := dfsP_room (m := m) hil hjm hf
                  rw [ht]
                  omega
                refine callee_frame [9, 1, 2, 3, 4, 5, 6, 7] (ih (b ++ [i]) t k1 k2 k3 hb2) rfl ?_ ?_
                · (repeat' ((conv => whnf); (first | (with_reducible first | apply spl | apply spl') <;> intro hc <;> try (exfalso; omega) | with_reducible refine iJ fun hc => ?_ | refine vcq (k := ?_) | refine dr 2014 (k := ?_) | refine dr 40603052005 (k := ?_)))); all_goals ((try conv => whnf); try with_reducible exact trivial)
                  refine ⟨rowOf_snoc rfl (fun _ _ => rfl), ?_⟩
                  (repeat' ((conv => whnf); (first | (with_reducible first | apply spl | apply spl') <;> intro hc <;> try (exfalso; omega) | with_reducible refine iJ fun hc => ?_ | refine vcq (k := ?_) | refine dr 2014 (k := ?_) | refine dr 40603052005 (k := ?_)))); all_goals ((try conv => whnf); try with_reducible exact trivial)
                · rintro _ _ ⟨rfl, rfl⟩
                  (repeat' ((conv => whnf); (first | (with_reducible first | apply spl | apply spl') <;> intro hc <;> try (exfalso; omega) | with_reducible refine iJ fun hc => ?_ | refine vcq (k := ?_) | refine dr 2014 (k := ?_) | refine dr 40603052005 (k := ?_)))); all_goals ((try conv => whnf); try with_reducible exact trivial)
                  refine ⟨(i + 1, q.cntL t (dfsQ q.rq.length q.pas.toNat q.od m (b ++ [i]))), ⟨⟨by dsimp only; omega, by dsimp only; rw [ht, dfsP_fit hjm hf]; exact List.foldl_append.symm⟩, by dsimp only; omega⟩, some [some 0, some 1, some 2, some 3, some 4, some 5, some 6, some 7], ?_⟩
                  (repeat' ((conv => whnf); (first | (with_reducible first | apply spl | apply spl') <;> intro hc <;> try (exfalso; omega) | with_reducible refine iJ fun hc => ?_ | refine vcq (k := ?_) | refine dr 2014 (k := ?_) | refine dr 40603052005 (k := ?_)))); all_goals ((try conv => whnf); try with_reducible exact trivial)
            · refine pcall_view (fitsF q hq b (by omega) i hil hf) ?_ ?_
              · (repeat' ((conv => whnf); (first | (with_reducible first | apply spl | apply spl') <;> intro hc <;> try (exfalso; omega) | with_reducible refine iJ fun hc => ?_ | refine vcq (k := ?_) | refine dr 2014 (k := ?_) | refine dr 40603052005 (k := ?_)))); all_goals ((try conv => whnf); try with_reducible exact trivial)
              · (repeat' ((conv => whnf); (first | (with_reducible first | apply spl | apply spl') <;> intro hc <;> try (exfalso; omega) | with_reducible refine iJ fun hc => ?_ | refine vcq (k := ?_) | refine dr 2014 (k := ?_)))); all_goals ((try conv => whnf); try with_reducible exact trivial)
                refine ⟨(i + 1, t), ⟨⟨by dsimp only; omega, by dsimp only; rw [dfsP_no hf]; exact ht⟩, by dsimp only; omega⟩, none, ?_⟩
                (repeat' ((conv => whnf); (first | (with_reducible first | apply spl | apply spl') <;> intro hc <;> try (exfalso; omega) | with_reducible refine iJ fun hc => ?_ | refine vcq (k := ?_) | refine dr 2014 (k := ?_) | refine dr 40603052005 (k := ?_)))); all_goals ((try conv => whnf); try with_reducible exact trivial)
      · obtain rfl : i = q.rq.length := by omega
        subst ht
        refine ⟨_, _, ⟨rfl, rfl⟩, some [some 0, some 1, some 2, some 3, some 4, some 5, some 6, some 7], ?_⟩
        (repeat' ((conv => whnf); (first | (with_reducible first | apply spl | apply spl') <;> intro hc <;> try (exfalso; omega) | with_reducible refine iJ fun hc => ?_ | refine vcq (k := ?_) | refine dr 2014 (k := ?_) | refine dr 40603052005 (k := ?_)))); all_goals ((try conv => whnf); try with_reducible exact trivial)
end Go.Proofs

namespace Go.Proofs
open Go Go.Sx
set_option maxRecDepth 100000
set_option maxHeartbeats 40000000
open Classical in
noncomputable def Qu.sureT (q : Qu) (p : Int) (i : Nat) : List Nat := (List.range i).filter fun r => decide (q.sure p r)
theorem Qu.sureT_zero (q : Qu) (p : Int) : q.sureT p 0 = [] := rfl
theorem Qu.sureT_yes {q : Qu} {p : Int} {i : Nat} (h : q.sure p i) : q.sureT p (i + 1) = q.sureT p i ++ [i] := by
  unfold Qu.sureT
  rw [List.range_succ, List.filter_append]
  simp [h]
theorem Qu.sureT_no {q : Qu} {p : Int} {i : Nat} (h : ¬ q.sure p i) : q.sureT p (i + 1) = q.sureT p i := by
  unfold Qu.sureT
  rw [List.range_succ, List.filter_append]
  simp [h]
theorem Qu.sureT_len (q : Qu) (p : Int) (i : Nat) : (q.sureT p i).length ≤ i := by
  have := List.length_filter_le (fun r => @decide (q.sure p r) (Classical.propDecidable _)) (List.range i)
  rw [List.length_range] at this
  exact this
theorem Qu.mem_sureT {q : Qu} {p : Int} {i r : Nat} : r ∈ q.sureT p i ↔ r < i ∧ q.sure p r := by
  unfold Qu.sureT
  simp
noncomputable def Qu.sureL (q : Qu) (p : Int) : List Nat := q.sureT p q.rq.length
theorem Sure22 (q : Qu) (hq : q.Ok) : PureC Tryz.prog 27 false [.agg q.c] (· = .tup [.sl 1 (q.sureL q.pas).length (rowOf natC 0 (q.sureL q.pas)), .int .i64 0]) := by
  have hn := hq.rql
  have hlen := dfsQ_len q.rq.length q.pas.toNat q.od hn q.rq.length []
  have h6 : 6 ^ q.rq.length ≤ 6 ^ 6 := Nat.pow_le_pow_right (by omega) hn
  have hnx := next22N q hq q.rq.length [] (fun _ => 0) (by simp) List.nodup_nil (by simp) (fun r => ⟨Int.le_refl _, by omega⟩)
  have hz := fun r (hr : r < q.rq.length) => q.cntL_zero r hr (dfsQ q.rq.length q.pas.toNat q.od q.rq.length []) (fun _ => 0)
  have hs : ∀ r, r < q.rq.length → (q.cntL (fun _ => 0) (dfsQ q.rq.length q.pas.toNat q.od q.rq.length []) r = 0 ↔ q.sure q.pas r) := fun r hr => hz r hr
  clear hlen h6
  refine pureC_of_exec Tryz.E_ok Tryz.func27 rfl (by kernel_rfl) ?_
  (repeat' ((conv => whnf); (first | (with_reducible first | apply spl | apply spl') <;> intro hc <;> try (exfalso; omega) | with_reducible refine iJ fun hc => ?_ | refine vcq (k := ?_) | fail))); all_goals ((try conv => whnf); try with_reducible exact trivial)
  refine callee_fo (Check43 q hq) rfl ?_
  rintro _ rfl
  (repeat' ((conv => whnf); (first | (with_reducible first | apply spl | apply spl') <;> intro hc <;> try (exfalso; omega) | with_reducible refine iJ fun hc => ?_ | refine vcq (k := ?_) | fail))); all_goals ((try conv => whnf); try with_reducible exact trivial)
  refine callee_exec Tryz.E_ok Tryz.func53 rfl (by kernel_rfl) ?_
  (repeat' ((conv => whnf); (first | (with_reducible first | apply spl | apply spl') <;> intro hc <;> try (exfalso; omega) | with_reducible refine iJ fun hc => ?_ | refine vcq (k := ?_) | fail))); all_goals ((try conv => whnf); try with_reducible exact trivial)
  refine callee_nil 3 1 (rowOf natC 0 []) ?_
  (repeat' ((conv => whnf); (first | (with_reducible first | apply spl | apply spl') <;> intro hc <;> try (exfalso; omega) | with_reducible refine iJ fun hc => ?_ | refine vcq (k := ?_) | fail))); all_goals ((try conv => whnf); try with_reducible exact trivial)
  refine ⟨?_, ?_⟩
  · (repeat' ((conv => whnf); (first | (with_reducible first | apply spl | apply spl') <;> intro hc <;> try (exfalso; omega) | with_reducible refine iJ fun hc => ?_ | refine vcq (k := ?_) | fail))); all_goals ((try conv => whnf); try with_reducible exact trivial)
  · refine callee_frame [8, 5, 6, 7, 4, 1, 3, 2] hnx rfl ?_ ?_
    · (repeat' ((conv => whnf); (first | (with_reducible first | apply spl | apply spl') <;> intro hc <;> try (exfalso; omega) | with_reducible refine iJ fun hc => ?_ | refine vcq (k := ?_) | fail))); all_goals ((try conv => whnf); try with_reducible exact trivial)
    · rintro _ _ ⟨rfl, rfl⟩
      (repeat' ((conv => whnf); (first | (with_reducible first | apply spl | apply spl') <;> intro hc <;> try (exfalso; omega) | with_reducible refine iJ fun hc => ?_ | refine vcq (k := ?_) | fail))); all_goals ((try conv => whnf); try with_reducible exact trivial)
      generalize q.cntL (fun _ => 0) (dfsQ q.rq.length q.pas.toNat q.od q.rq.length []) = s at *
      have hsl := fun i => q.sureT_len q.pas i
      refine ⟨Nat, fun i => i ≤ q.rq.length, fun i => q.rq.length - i, fun i => [(44, .int .i64 (i : Nat)), (9, .osl 9 (q.sureT q.pas i).length)], fun _ => [], fun i => [.row 3 1 (q.sureT q.pas i).length (rowOf natC 0 (q.sureT q.pas i)) true], 0, ⟨by omega, some [some 0, some 1, some 2, some 3, some 4, some 5, some 6, some 7, some 8, none], ?_⟩, ?_⟩
      · (repeat' ((conv => whnf); (first | (with_reducible first | apply spl | apply spl') <;> intro hc <;> try (exfalso; omega) | with_reducible refine iJ fun hc => ?_ | refine vcq (k := ?_) | fail))); all_goals ((try conv => whnf); try with_reducible exact trivial)
      · intro i hi
        have hi : i ≤ q.rq.length := hi
        have hti : (i : Int).toNat = i := Int.toNat_natCast i
        have hli := hsl i
        (repeat' ((conv => whnf); (first | (with_reducible first | apply spl | apply spl') <;> intro hc <;> try (exfalso; omega) | with_reducible refine iJ fun hc => ?_ | refine vcq (k := ?_) | fail))); all_goals ((try conv => whnf); try with_reducible exact trivial)
        · have hil : i < q.rq.length := by omega
          rw [hti] at hc
          have hy := q.sureT_yes ((hs i hil).1 hc)
          have hlen : (q.sureT q.pas (i + 1)).length = (q.sureT q.pas i).length + 1 := by rw [hy, List.length_append]; rfl
          refine ⟨i + 1, ⟨by omega, by dsimp only; omega⟩, some [some 0, some 1, some 2, some 3, some 4, some 5, some 6, some 7, some 8, some 11], ?_⟩
          (repeat' ((conv => whnf); (first | (with_reducible first | apply spl | apply spl') <;> intro hc <;> try (exfalso; omega) | with_reducible refine iJ fun hc => ?_ | refine vcq (k := ?_) | fail))); all_goals ((try conv => whnf); try with_reducible exact trivial)
          refine ⟨?_, ?_⟩
          · rw [hy]
            exact rowOf_snoc rfl fun _ _ => rfl
          · (repeat' ((conv => whnf); (first | (with_reducible first | apply spl | apply spl') <;> intro hc <;> try (exfalso; omega) | with_reducible refine iJ fun hc => ?_ | refine vcq (k := ?_) | fail))); all_goals ((try conv => whnf); try with_reducible exact trivial)
        · have hil : i < q.rq.length := by omega
          rw [hti] at hc
          have hy := Qu.sureT_no fun g => hc ((hs i hil).2 g)
          refine ⟨i + 1, ⟨by omega, by dsimp only; omega⟩, some [some 0, some 1, some 2, some 3, some 4, some 5, some 6, some 7, some 8, some 9], ?_⟩
          dsimp only
          rw [hy]
          (repeat' ((conv => whnf); (first | (with_reducible first | apply spl | apply spl') <;> intro hc <;> try (exfalso; omega) | with_reducible refine iJ fun hc => ?_ | refine vcq (k := ?_) | fail))); all_goals ((try conv => whnf); try with_reducible exact trivial)
        · obtain rfl : i = q.rq.length := by omega
          refine ⟨_, rfl, ?_⟩
          (repeat' ((conv => whnf); (first | (with_reducible first | apply spl | apply spl') <;> intro hc <;> try (exfalso; omega) | with_reducible refine iJ fun hc => ?_ | refine vcq (k := ?_) | fail))); all_goals ((try conv => whnf); try with_reducible exact trivial)
end Go.Proofs

namespace Go.Proofs
open Go Go.Sx
set_option maxRecDepth 100000
set_option maxHeartbeats 40000000
def Tryz.EW : Go.Sx.Env := { size := 1 } :: Tryz.E.tail
theorem Tryz.EW_ok : Go.Sx.ProgOk Tryz.EW Tryz.prog := ⟨EnvOk.flag (show EnvOk ({} :: Tryz.E.tail) Tryz.prog from Tryz.E_ok.env), Tryz.E_ok.mixed⟩
def Qu.DuR (q : Qu) : Prop := ∀ r, IntKind.i64.min ≤ (q.rq.getD r Rq.none).du ∧ (q.rq.getD r Rq.none).du ≤ IntKind.i64.max
theorem wrap_due {n : Int} (h1 : IntKind.i64.min ≤ n) (h2 : n ≤ IntKind.i64.max) : (0 ≤ IntKind.i64.wrap (n + 1) ∧ IntKind.i64.wrap (n + 1) ≤ 100001) ↔ (-1 ≤ n ∧ n ≤ 100000) := by
  by_cases h : n = IntKind.i64.max
  · subst h
    exact ⟨fun g => absurd g (by decide), fun g => absurd g (by decide)⟩
  · have e : IntKind.i64.wrap (n + 1) = n + 1 := wrap_in .i64 _ ⟨by omega, by omega⟩
    rw [e]
    omega
theorem wrap_nat {i : Nat} (h : i ≤ 1000000) : IntKind.i64.wrap ((i : Int) + 1) = i + 1 := wrap_in .i64 _ ⟨by show (-9223372036854775808 : Int) ≤ _; omega, by show _ ≤ (9223372036854775807 : Int); omega⟩
def Qu.pre (q : Qu) (i : Nat) : Int := if i = 0 then 0 else (q.rq.getD (i - 1) Rq.none).t0
theorem Qu.pre_succ (q : Qu) (i : Nat) : q.pre (i + 1) = (q.rq.getD i Rq.none).t0 := by
  unfold Qu.pre
  rw [if_neg (by omega), Nat.add_sub_cancel]
theorem Check10 (q : Qu) (hz : q.d.Z.length ≤ 1000000) (hsk : q.sk.length ≤ 1000000) (hrq : q.rq.length ≤ 1000000) (hdu : q.DuR) : PureC Tryz.prog 10 false [.agg q.c] (· = .int .i64 q.chk) := by
  refine pureC_of_exec Tryz.EW_ok Tryz.func10 rfl (by kernel_rfl) ?_
  (repeat' ((conv => whnf); (first | (with_reducible first | apply spl | apply spl') <;> intro hc <;> try (exfalso; omega) | with_reducible refine iJ fun hc => ?_ | refine vcq (k := ?_) | fail))); all_goals ((try conv => whnf); try with_reducible exact trivial)
  refine callee_fo (Check63 q.d hz) rfl ?_
  rintro _ rfl
  (repeat' ((conv => whnf); (first | (with_reducible first | apply spl | apply spl') <;> intro hc <;> try (exfalso; omega) | with_reducible refine iJ fun hc => ?_ | refine vcq (k := ?_) | fail))); all_goals ((try conv => whnf); try with_reducible exact trivial)
  · have hd : ¬ q.d.Ok := fun h => hc (Dk.chk_of h)
    rw [Qu.chk_dk hd, Dk.chk_no hd]
    refine ⟨_, rfl, ?_⟩
    (repeat' ((conv => whnf); (first | (with_reducible first | apply spl | apply spl') <;> intro hc <;> try (exfalso; omega) | with_reducible refine iJ fun hc => ?_ | refine vcq (k := ?_) | fail))); all_goals ((try conv => whnf); try with_reducible exact trivial)
  · have hd : q.d.Ok := Dk.chk_ok (Classical.not_not.1 hc)
    clear hc
    refine callee_fo (size64 q.d hd) rfl ?_
    rintro _ rfl
    have hSl := (q.d.S_len hd).1
    have hcn := q.d.cnt_le hd
    (repeat' ((conv => whnf); (first | (with_reducible first | apply spl | apply spl') <;> intro hc <;> try (exfalso; omega) | with_reducible refine iJ fun hc => ?_ | refine vcq (k := ?_) | fail))); all_goals ((try conv => whnf); try with_reducible exact trivial); (repeat' ((first | (refine callee_fo (to65 _ _) rfl ?_; rintro _ rfl) | (refine pcall_intro (to65 _ _) rfl ?_) | (refine pcall_soft (fun _ => to65 _ _) rfl ?_)); (repeat' ((conv => whnf); (first | (with_reducible first | apply spl | apply spl') <;> intro hc <;> try (exfalso; omega) | with_reducible refine iJ fun hc => ?_ | refine vcq (k := ?_) | fail))); all_goals ((try conv => whnf); try with_reducible exact trivial)))
    · rw [Qu.chk_no hd (fun h => by have := h.cyl; have := h.skl; have := h.rql; have := h.pas; omega)]
      refine ⟨_, rfl, ?_⟩
      (repeat' ((conv => whnf); (first | (with_reducible first | apply spl | apply spl') <;> intro hc <;> try (exfalso; omega) | with_reducible refine iJ fun hc => ?_ | refine vcq (k := ?_) | fail))); all_goals ((try conv => whnf); try with_reducible exact trivial)
    · refine ⟨Nat, fun i => i ≤ q.sk.length ∧ ∀ j, j < i → 0 ≤ (q.sk.getD j (0, 0)).1 ∧ (q.sk.getD j (0, 0)).1 ≤ (q.sk.getD j (0, 0)).2 ∧ (q.sk.getD j (0, 0)).2 ≤ 5000, fun i => q.sk.length - i, fun i => [(54, .int .i64 (i : Nat))], fun _ => [], fun _ => [], 0, ⟨⟨by omega, fun j hj => by omega⟩, none, ?_⟩, ?_⟩
      · (repeat' ((conv => whnf); (first | (with_reducible first | apply spl | apply spl') <;> intro hc <;> try (exfalso; omega) | with_reducible refine iJ fun hc => ?_ | refine vcq (k := ?_) | fail))); all_goals ((try conv => whnf); try with_reducible exact trivial)
      · rintro i ⟨hi, hall⟩
        have hti : (i : Int).toNat = i := Int.toNat_natCast i
        have hw := wrap_nat (i := i) (by omega)
        (repeat' ((conv => whnf); (first | (with_reducible first | apply spl | apply spl') <;> intro hc <;> try (exfalso; omega) | with_reducible refine iJ fun hc => ?_ | refine vcq (k := ?_) | fail))); all_goals ((try conv => whnf); try with_reducible exact trivial); (repeat' ((first | (refine callee_fo (to65 _ _) rfl ?_; rintro _ rfl) | (refine pcall_intro (to65 _ _) rfl ?_) | (refine pcall_soft (fun _ => to65 _ _) rfl ?_)); (repeat' ((conv => whnf); (first | (with_reducible first | apply spl | apply spl') <;> intro hc <;> try (exfalso; omega) | with_reducible refine iJ fun hc => ?_ | refine vcq (k := ?_) | fail))); all_goals ((try conv => whnf); try with_reducible exact trivial)))
        · rw [hti] at hc
          have hil : i < q.sk.length := by omega
          rw [Qu.chk_no hd (fun h => by have := Qu.sk_at h hil; omega)]
          refine ⟨_, rfl, ?_⟩
          (repeat' ((conv => whnf); (first | (with_reducible first | apply spl | apply spl') <;> intro hc <;> try (exfalso; omega) | with_reducible refine iJ fun hc => ?_ | refine vcq (k := ?_) | fail))); all_goals ((try conv => whnf); try with_reducible exact trivial)
        · rw [hti] at hc
          have hil : i < q.sk.length := by omega
          refine ⟨i + 1, ⟨⟨by omega, fun j hj => ?_⟩, by dsimp only; omega⟩, some [some 0], ?_⟩
          · rcases Nat.lt_or_eq_of_le (show j ≤ i by omega) with g | rfl
            · exact hall j g
            · omega
          · (repeat' ((conv => whnf); (first | (with_reducible first | apply spl | apply spl') <;> intro hc <;> try (exfalso; omega) | with_reducible refine iJ fun hc => ?_ | refine vcq (k := ?_) | fail))); all_goals ((try conv => whnf); try with_reducible exact trivial)
        · obtain rfl : i = q.sk.length := by omega
          refine ⟨Nat, fun i => i ≤ q.rq.length ∧ ∀ j, j < i → q.RqOk (q.rq.getD j Rq.none) ∧ (0 < j → (q.rq.getD (j - 1) Rq.none).t0 ≤ (q.rq.getD j Rq.none).t0), fun i => q.rq.length - i, fun i => [(74, .int .i64 (i : Nat)), (9, .int .i64 (q.pre i))], fun _ => [], fun _ => [], 0, ⟨⟨by omega, fun j hj => by omega⟩, none, ?_⟩, ?_⟩
          · (repeat' ((conv => whnf); (first | (with_reducible first | apply spl | apply spl') <;> intro hc <;> try (exfalso; omega) | with_reducible refine iJ fun hc => ?_ | refine vcq (k := ?_) | fail))); all_goals ((try conv => whnf); try with_reducible exact trivial)
          · rintro i ⟨hi, hreq⟩
            have hti : (i : Int).toNat = i := Int.toNat_natCast i
            have hps := q.pre_succ i
            have hw := wrap_nat (i := i) (by omega)
            have hwd := wrap_due (hdu i).1 (hdu i).2
            (repeat' ((conv => whnf); (first | (with_reducible first | apply spl | apply spl') <;> intro hc <;> try (exfalso; omega) | with_reducible refine iJ fun hc => ?_ | refine vcq (k := ?_) | fail))); all_goals ((try conv => whnf); try with_reducible exact trivial)
            · have hil : i < q.rq.length := by omega
              rw [hti]
              have hbad : ∀ (h : q.Ok), q.RqOk (q.rq.getD i Rq.none) ∧ q.pre i ≤ (q.rq.getD i Rq.none).t0 := fun h => by
                refine ⟨Qu.rq_at h hil, ?_⟩
                have h1 := Qu.rq_at h hil
                unfold Qu.RqOk at h1
                unfold Qu.pre
                split
                · exact h1.2.2.1.1
                · exact Qu.rq_asc h hil (by omega)
              (repeat' ((conv => whnf); (first | (with_reducible first | apply spl | apply spl') <;> intro hc <;> try (exfalso; omega) | with_reducible refine iJ fun hc => ?_ | refine vcq (k := ?_) | fail))); all_goals ((try conv => whnf); try with_reducible exact trivial); (repeat' ((first | (refine callee_fo (to65 _ _) rfl ?_; rintro _ rfl) | (refine pcall_intro (to65 _ _) rfl ?_) | (refine pcall_soft (fun _ => to65 _ _) rfl ?_)); (repeat' ((conv => whnf); (first | (with_reducible first | apply spl | apply spl') <;> intro hc <;> try (exfalso; omega) | with_reducible refine iJ fun hc => ?_ | refine vcq (k := ?_) | fail))); all_goals ((try conv => whnf); try with_reducible exact trivial)))
              · rw [Qu.chk_no hd (fun h => by
                  obtain ⟨h1, h3⟩ := hbad h
                  unfold Qu.RqOk at h1
                  have h4 := hwd.2 ⟨h1.2.2.2.1, h1.2.2.2.2⟩
                  omega)]
                refine ⟨_, rfl, ?_⟩
                (repeat' ((conv => whnf); (first | (with_reducible first | apply spl | apply spl') <;> intro hc <;> try (exfalso; omega) | with_reducible refine iJ fun hc => ?_ | refine vcq (k := ?_) | fail))); all_goals ((try conv => whnf); try with_reducible exact trivial)
              · have hgood : q.RqOk (q.rq.getD i Rq.none) ∧ q.pre i ≤ (q.rq.getD i Rq.none).t0 := by
                  have h5 : 0 ≤ q.pre i := by
                    unfold Qu.pre
                    split
                    · exact Int.le_refl _
                    · have := (hreq (i - 1) (by omega)).1
                      unfold Qu.RqOk at this
                      exact this.2.2.1.1
                  have h4 : -1 ≤ (q.rq.getD i Rq.none).du ∧ (q.rq.getD i Rq.none).du ≤ 100000 := hwd.1 (by omega)
                  unfold Qu.RqOk
                  omega
                refine ⟨i + 1, ⟨⟨by omega, fun j hj => ?_⟩, by dsimp only; omega⟩, some [some 0], ?_⟩
                · rcases Nat.lt_or_eq_of_le (show j ≤ i by omega) with g | rfl
                  · exact hreq j g
                  · refine ⟨hgood.1, fun g => ?_⟩
                    have := hgood.2
                    unfold Qu.pre at this
                    rwa [if_neg (by omega)] at this
                · (repeat' ((conv => whnf); (first | (with_reducible first | apply spl | apply spl') <;> intro hc <;> try (exfalso; omega) | with_reducible refine iJ fun hc => ?_ | refine vcq (k := ?_) | fail))); all_goals ((try conv => whnf); try with_reducible exact trivial)
                  all_goals done
              · rw [Qu.chk_no hd (fun h => by
                  obtain ⟨h1, h3⟩ := hbad h
                  unfold Qu.RqOk at h1
                  omega)]
                refine ⟨_, rfl, ?_⟩
                (repeat' ((conv => whnf); (first | (with_reducible first | apply spl | apply spl') <;> intro hc <;> try (exfalso; omega) | with_reducible refine iJ fun hc => ?_ | refine vcq (k := ?_) | fail))); all_goals ((try conv => whnf); try with_reducible exact trivial)
            · obtain rfl : i = q.rq.length := by omega
              have hq : q.Ok := by
                have h1 := (show ¬(((¬(0 ≤ q.cyl ∧ q.cyl ≤ (q.d.S.length : Int) - 1) ∨ (q.sk.length : Int) ≠ q.d.S.length) ∨ 6 < (q.rq.length : Int))) by assumption)
                have h2 := (show ¬¬(0 ≤ q.pas ∧ q.pas ≤ 6) by assumption)
                refine ⟨hd, by omega, by omega, by omega, by omega, Qu.all_getD hall, Qu.all_getD fun j hj => (hreq j hj).1, fun j hj => ?_⟩
                have := (hreq (j + 1) hj).2 (by omega)
                rwa [Nat.add_sub_cancel] at this
              rw [Qu.chk_of hq]
              refine ⟨_, rfl, ?_⟩
              (repeat' ((conv => whnf); (first | (with_reducible first | apply spl | apply spl') <;> intro hc <;> try (exfalso; omega) | with_reducible refine iJ fun hc => ?_ | refine vcq (k := ?_) | fail))); all_goals ((try conv => whnf); try with_reducible exact trivial)
    · rw [Qu.chk_no hd (fun h => by have := h.cyl; have := h.skl; have := h.rql; have := h.pas; omega)]
      refine ⟨_, rfl, ?_⟩
      (repeat' ((conv => whnf); (first | (with_reducible first | apply spl | apply spl') <;> intro hc <;> try (exfalso; omega) | with_reducible refine iJ fun hc => ?_ | refine vcq (k := ?_) | fail))); all_goals ((try conv => whnf); try with_reducible exact trivial)
end Go.Proofs

namespace Go.Proofs
open Go Go.Sx
set_option maxRecDepth 100000
set_option maxHeartbeats 40000000
theorem OrderE18 (q : Qu) (hz : q.d.Z.length ≤ 1000000) (hsk : q.sk.length ≤ 1000000) (hrq : q.rq.length ≤ 1000000) (hdu : q.DuR) (hne : q.chk ≠ 0) : PureC Tryz.prog 18 false [.agg q.c] (· = .tup [.lit (.slice none 0 0), .int .i64 0, .int .i64 0, .int .i64 q.chk]) := by
  refine pureC_of_exec Tryz.E_ok Tryz.func18 rfl (by kernel_rfl) ?_
  (repeat' ((conv => whnf); (first | (with_reducible first | apply spl | apply spl') <;> intro hc <;> try (exfalso; omega) | with_reducible refine iJ fun hc => ?_ | refine vcq (k := ?_) | fail))); all_goals ((try conv => whnf); try with_reducible exact trivial)
  refine callee_fo (Check10 q hz hsk hrq hdu) rfl ?_
  rintro _ rfl
  (repeat' ((conv => whnf); (first | (with_reducible first | apply spl | apply spl') <;> intro hc <;> try (exfalso; omega) | with_reducible refine iJ fun hc => ?_ | refine vcq (k := ?_) | fail))); all_goals ((try conv => whnf); try with_reducible exact trivial)
  refine ⟨_, rfl, ?_⟩
  (repeat' ((conv => whnf); (first | (with_reducible first | apply spl | apply spl') <;> intro hc <;> try (exfalso; omega) | with_reducible refine iJ fun hc => ?_ | refine vcq (k := ?_) | fail))); all_goals ((try conv => whnf); try with_reducible exact trivial)
theorem FirstE19 (q : Qu) (hz : q.d.Z.length ≤ 1000000) (hsk : q.sk.length ≤ 1000000) (hrq : q.rq.length ≤ 1000000) (hdu : q.DuR) (hne : q.chk ≠ 0) : PureC Tryz.prog 19 false [.agg q.c] (· = .tup [.int .i64 0, .int .i64 q.chk]) := by
  refine pureC_of_exec Tryz.E_ok Tryz.func19 rfl (by kernel_rfl) ?_
  (repeat' ((conv => whnf); (first | (with_reducible first | apply spl | apply spl') <;> intro hc <;> try (exfalso; omega) | with_reducible refine iJ fun hc => ?_ | refine vcq (k := ?_) | fail))); all_goals ((try conv => whnf); try with_reducible exact trivial)
  refine callee_fo (Check10 q hz hsk hrq hdu) rfl ?_
  rintro _ rfl
  (repeat' ((conv => whnf); (first | (with_reducible first | apply spl | apply spl') <;> intro hc <;> try (exfalso; omega) | with_reducible refine iJ fun hc => ?_ | refine vcq (k := ?_) | fail))); all_goals ((try conv => whnf); try with_reducible exact trivial)
  refine ⟨_, rfl, ?_⟩
  (repeat' ((conv => whnf); (first | (with_reducible first | apply spl | apply spl') <;> intro hc <;> try (exfalso; omega) | with_reducible refine iJ fun hc => ?_ | refine vcq (k := ?_) | fail))); all_goals ((try conv => whnf); try with_reducible exact trivial)
theorem BoundE25 (q : Qu) (hz : q.d.Z.length ≤ 1000000) (hsk : q.sk.length ≤ 1000000) (hrq : q.rq.length ≤ 1000000) (hdu : q.DuR) (hne : q.chk ≠ 0) (r : Int) : PureC Tryz.prog 25 false [.agg q.c, .int .i64 r] (· = .tup [.int .i64 0, .int .i64 q.chk]) := by
  refine pureC_of_exec Tryz.E_ok Tryz.func25 rfl (by kernel_rfl) ?_
  (repeat' ((conv => whnf); (first | (with_reducible first | apply spl | apply spl') <;> intro hc <;> try (exfalso; omega) | with_reducible refine iJ fun hc => ?_ | refine vcq (k := ?_) | fail))); all_goals ((try conv => whnf); try with_reducible exact trivial)
  refine callee_fo (Check10 q hz hsk hrq hdu) rfl ?_
  rintro _ rfl
  (repeat' ((conv => whnf); (first | (with_reducible first | apply spl | apply spl') <;> intro hc <;> try (exfalso; omega) | with_reducible refine iJ fun hc => ?_ | refine vcq (k := ?_) | fail))); all_goals ((try conv => whnf); try with_reducible exact trivial)
  refine ⟨_, rfl, ?_⟩
  (repeat' ((conv => whnf); (first | (with_reducible first | apply spl | apply spl') <;> intro hc <;> try (exfalso; omega) | with_reducible refine iJ fun hc => ?_ | refine vcq (k := ?_) | fail))); all_goals ((try conv => whnf); try with_reducible exact trivial)
theorem SureE27 (q : Qu) (hz : q.d.Z.length ≤ 1000000) (hsk : q.sk.length ≤ 1000000) (hrq : q.rq.length ≤ 1000000) (hdu : q.DuR) (hne : q.chk ≠ 0) : PureC Tryz.prog 27 false [.agg q.c] (· = .tup [.lit (.slice none 0 0), .int .i64 q.chk]) := by
  refine pureC_of_exec Tryz.E_ok Tryz.func27 rfl (by kernel_rfl) ?_
  (repeat' ((conv => whnf); (first | (with_reducible first | apply spl | apply spl') <;> intro hc <;> try (exfalso; omega) | with_reducible refine iJ fun hc => ?_ | refine vcq (k := ?_) | fail))); all_goals ((try conv => whnf); try with_reducible exact trivial)
  refine callee_fo (Check10 q hz hsk hrq hdu) rfl ?_
  rintro _ rfl
  (repeat' ((conv => whnf); (first | (with_reducible first | apply spl | apply spl') <;> intro hc <;> try (exfalso; omega) | with_reducible refine iJ fun hc => ?_ | refine vcq (k := ?_) | fail))); all_goals ((try conv => whnf); try with_reducible exact trivial)
  refine ⟨_, rfl, ?_⟩
  (repeat' ((conv => whnf); (first | (with_reducible first | apply spl | apply spl') <;> intro hc <;> try (exfalso; omega) | with_reducible refine iJ fun hc => ?_ | refine vcq (k := ?_) | fail))); all_goals ((try conv => whnf); try with_reducible exact trivial)
theorem TightE32 (q : Qu) (hz : q.d.Z.length ≤ 1000000) (hsk : q.sk.length ≤ 1000000) (hrq : q.rq.length ≤ 1000000) (hdu : q.DuR) (hne : q.chk ≠ 0) : PureC Tryz.prog 32 false [.agg q.c] (· = .tup [.int .i64 0, .int .i64 q.chk]) := by
  refine pureC_of_exec Tryz.E_ok Tryz.func32 rfl (by kernel_rfl) ?_
  (repeat' ((conv => whnf); (first | (with_reducible first | apply spl | apply spl') <;> intro hc <;> try (exfalso; omega) | with_reducible refine iJ fun hc => ?_ | refine vcq (k := ?_) | fail))); all_goals ((try conv => whnf); try with_reducible exact trivial)
  refine callee_fo (Check10 q hz hsk hrq hdu) rfl ?_
  rintro _ rfl
  (repeat' ((conv => whnf); (first | (with_reducible first | apply spl | apply spl') <;> intro hc <;> try (exfalso; omega) | with_reducible refine iJ fun hc => ?_ | refine vcq (k := ?_) | fail))); all_goals ((try conv => whnf); try with_reducible exact trivial)
  refine ⟨_, rfl, ?_⟩
  (repeat' ((conv => whnf); (first | (with_reducible first | apply spl | apply spl') <;> intro hc <;> try (exfalso; omega) | with_reducible refine iJ fun hc => ?_ | refine vcq (k := ?_) | fail))); all_goals ((try conv => whnf); try with_reducible exact trivial)
theorem OrderE30 (q : Qu) (hz : q.d.Z.length ≤ 1000000) (hsk : q.sk.length ≤ 1000000) (hrq : q.rq.length ≤ 1000000) (hne : q.chk ≠ 0) : PureC Tryz.prog 30 false [.agg q.c] (· = .tup [.lit (.slice none 0 0), .int .i64 0, .int .i64 0, .int .i64 q.chk]) := by
  refine pureC_of_exec Tryz.E_ok Tryz.func30 rfl (by kernel_rfl) ?_
  (repeat' ((conv => whnf); (first | (with_reducible first | apply spl | apply spl') <;> intro hc <;> try (exfalso; omega) | with_reducible refine iJ fun hc => ?_ | refine vcq (k := ?_) | fail))); all_goals ((try conv => whnf); try with_reducible exact trivial)
  refine callee_fo (Check26 q hz hsk hrq) rfl ?_
  rintro _ rfl
  (repeat' ((conv => whnf); (first | (with_reducible first | apply spl | apply spl') <;> intro hc <;> try (exfalso; omega) | with_reducible refine iJ fun hc => ?_ | refine vcq (k := ?_) | fail))); all_goals ((try conv => whnf); try with_reducible exact trivial)
  refine ⟨_, rfl, ?_⟩
  (repeat' ((conv => whnf); (first | (with_reducible first | apply spl | apply spl') <;> intro hc <;> try (exfalso; omega) | with_reducible refine iJ fun hc => ?_ | refine vcq (k := ?_) | fail))); all_goals ((try conv => whnf); try with_reducible exact trivial)
theorem FirstE31 (q : Qu) (hz : q.d.Z.length ≤ 1000000) (hsk : q.sk.length ≤ 1000000) (hrq : q.rq.length ≤ 1000000) (hne : q.chk ≠ 0) : PureC Tryz.prog 31 false [.agg q.c] (· = .tup [.int .i64 0, .int .i64 q.chk]) := by
  refine pureC_of_exec Tryz.E_ok Tryz.func31 rfl (by kernel_rfl) ?_
  (repeat' ((conv => whnf); (first | (with_reducible first | apply spl | apply spl') <;> intro hc <;> try (exfalso; omega) | with_reducible refine iJ fun hc => ?_ | refine vcq (k := ?_) | fail))); all_goals ((try conv => whnf); try with_reducible exact trivial)
  refine callee_fo (Check26 q hz hsk hrq) rfl ?_
  rintro _ rfl
  (repeat' ((conv => whnf); (first | (with_reducible first | apply spl | apply spl') <;> intro hc <;> try (exfalso; omega) | with_reducible refine iJ fun hc => ?_ | refine vcq (k := ?_) | fail))); all_goals ((try conv => whnf); try with_reducible exact trivial)
  refine ⟨_, rfl, ?_⟩
  (repeat' ((conv => whnf); (first | (with_reducible first | apply spl | apply spl') <;> intro hc <;> try (exfalso; omega) | with_reducible refine iJ fun hc => ?_ | refine vcq (k := ?_) | fail))); all_goals ((try conv => whnf); try with_reducible exact trivial)
theorem BoundE26 (q : Qu) (hz : q.d.Z.length ≤ 1000000) (hsk : q.sk.length ≤ 1000000) (hrq : q.rq.length ≤ 1000000) (hne : q.chk ≠ 0) (r : Int) : PureC Tryz.prog 26 false [.agg q.c, .int .i64 r] (· = .tup [.int .i64 0, .int .i64 q.chk]) := by
  refine pureC_of_exec Tryz.E_ok Tryz.func26 rfl (by kernel_rfl) ?_
  (repeat' ((conv => whnf); (first | (with_reducible first | apply spl | apply spl') <;> intro hc <;> try (exfalso; omega) | with_reducible refine iJ fun hc => ?_ | refine vcq (k := ?_) | fail))); all_goals ((try conv => whnf); try with_reducible exact trivial)
  refine callee_fo (Check26 q hz hsk hrq) rfl ?_
  rintro _ rfl
  (repeat' ((conv => whnf); (first | (with_reducible first | apply spl | apply spl') <;> intro hc <;> try (exfalso; omega) | with_reducible refine iJ fun hc => ?_ | refine vcq (k := ?_) | fail))); all_goals ((try conv => whnf); try with_reducible exact trivial)
  refine ⟨_, rfl, ?_⟩
  (repeat' ((conv => whnf); (first | (with_reducible first | apply spl | apply spl') <;> intro hc <;> try (exfalso; omega) | with_reducible refine iJ fun hc => ?_ | refine vcq (k := ?_) | fail))); all_goals ((try conv => whnf); try with_reducible exact trivial)
theorem SureE28 (q : Qu) (hz : q.d.Z.length ≤ 1000000) (hsk : q.sk.length ≤ 1000000) (hrq : q.rq.length ≤ 1000000) (hne : q.chk ≠ 0) : PureC Tryz.prog 28 false [.agg q.c] (· = .tup [.lit (.slice none 0 0), .int .i64 q.chk]) := by
  refine pureC_of_exec Tryz.E_ok Tryz.func28 rfl (by kernel_rfl) ?_
  (repeat' ((conv => whnf); (first | (with_reducible first | apply spl | apply spl') <;> intro hc <;> try (exfalso; omega) | with_reducible refine iJ fun hc => ?_ | refine vcq (k := ?_) | fail))); all_goals ((try conv => whnf); try with_reducible exact trivial)
  refine callee_fo (Check26 q hz hsk hrq) rfl ?_
  rintro _ rfl
  (repeat' ((conv => whnf); (first | (with_reducible first | apply spl | apply spl') <;> intro hc <;> try (exfalso; omega) | with_reducible refine iJ fun hc => ?_ | refine vcq (k := ?_) | fail))); all_goals ((try conv => whnf); try with_reducible exact trivial)
  refine ⟨_, rfl, ?_⟩
  (repeat' ((conv => whnf); (first | (with_reducible first | apply spl | apply spl') <;> intro hc <;> try (exfalso; omega) | with_reducible refine iJ fun hc => ?_ | refine vcq (k := ?_) | fail))); all_goals ((try conv => whnf); try with_reducible exact trivial)
theorem TightE33 (q : Qu) (hz : q.d.Z.length ≤ 1000000) (hsk : q.sk.length ≤ 1000000) (hrq : q.rq.length ≤ 1000000) (hne : q.chk ≠ 0) : PureC Tryz.prog 33 false [.agg q.c] (· = .tup [.int .i64 0, .int .i64 q.chk]) := by
  refine pureC_of_exec Tryz.E_ok Tryz.func33 rfl (by kernel_rfl) ?_
  (repeat' ((conv => whnf); (first | (with_reducible first | apply spl | apply spl') <;> intro hc <;> try (exfalso; omega) | with_reducible refine iJ fun hc => ?_ | refine vcq (k := ?_) | fail))); all_goals ((try conv => whnf); try with_reducible exact trivial)
  refine callee_fo (Check26 q hz hsk hrq) rfl ?_
  rintro _ rfl
  (repeat' ((conv => whnf); (first | (with_reducible first | apply spl | apply spl') <;> intro hc <;> try (exfalso; omega) | with_reducible refine iJ fun hc => ?_ | refine vcq (k := ?_) | fail))); all_goals ((try conv => whnf); try with_reducible exact trivial)
  refine ⟨_, rfl, ?_⟩
  (repeat' ((conv => whnf); (first | (with_reducible first | apply spl | apply spl') <;> intro hc <;> try (exfalso; omega) | with_reducible refine iJ fun hc => ?_ | refine vcq (k := ?_) | fail))); all_goals ((try conv => whnf); try with_reducible exact trivial)
end Go.Proofs

namespace Go.Proofs
open Go Go.Sx
set_option maxRecDepth 100000
set_option maxHeartbeats 40000000
theorem IsRequest22 (q : Qu) (hrq : q.rq.length ≤ 1000000) (r : Int) : PureC Tryz.prog 22 false [.agg q.c, .int .i64 r] (· = .prop (0 ≤ r ∧ r ≤ (q.rq.length : Int) - 1) inferInstance) := by
  refine pureC_of_exec Tryz.E_ok Tryz.func22 rfl (by kernel_rfl) ?_
  (repeat' ((conv => whnf); (first | (with_reducible first | apply spl | apply spl') <;> intro hc <;> try (exfalso; omega) | with_reducible refine iJ fun hc => ?_ | refine vcq (k := ?_) | fail))); all_goals ((try conv => whnf); try with_reducible exact trivial); (repeat' ((first | (refine callee_fo (within27 _ _ _) rfl ?_; rintro _ rfl) | (refine pcall_intro (within27 _ _ _) rfl ?_) | (refine pcall_soft (fun _ => within27 _ _ _) rfl ?_)); (repeat' ((conv => whnf); (first | (with_reducible first | apply spl | apply spl') <;> intro hc <;> try (exfalso; omega) | with_reducible refine iJ fun hc => ?_ | refine vcq (k := ?_) | fail))); all_goals ((try conv => whnf); try with_reducible exact trivial)))
  refine ⟨_, rfl, ?_⟩
  (repeat' ((conv => whnf); (first | (with_reducible first | apply spl | apply spl') <;> intro hc <;> try (exfalso; omega) | with_reducible refine iJ fun hc => ?_ | refine vcq (k := ?_) | fail))); all_goals ((try conv => whnf); try with_reducible exact trivial)
theorem chkV (q : Qu) (hq : q.Ok) : PureC Tryz.prog 11 false [.agg q.c] (· = .int .i64 0) := by
  have hz := hq.d.z
  have hSl := (q.d.S_len hq.d).1
  have hskl := hq.skl
  have hn := hq.rql
  have hck := Check26 q (by omega) (by omega) (by omega)
  rwa [Qu.chk_of hq] at hck
theorem sameNil : PureC Tryz.prog 29 false [.lit (.slice none 0 0), .lit (.slice none 0 0)] (· = .kb true) := by
  have h := pureWk (R' := (· = V.kb true)) (sameInts29 [] [] (by simp) (by simp)) fun _ e => ⟨_, rfl, fun I w v hd => by subst e; simpa [Den] using hd⟩
  refine PureC.view h ?_
  (repeat' ((conv => whnf); (first | (with_reducible first | apply spl | apply spl') <;> intro hc <;> try (exfalso; omega) | with_reducible refine iJ fun hc => ?_ | refine vcq (k := ?_) | fail))); all_goals ((try conv => whnf); try with_reducible exact trivial)
theorem sameSelf (a : List Nat) (ha : a.length ≤ 1000000) : PureC Tryz.prog 29 false [.sl 1 a.length (rowOf natC 0 a), .sl 1 a.length (rowOf natC 0 a)] (· = .kb true) :=
  pureWk (sameInts29 a a ha ha) fun _ e => ⟨_, rfl, fun I w v hd => by subst e; simpa [Den] using hd⟩
theorem Qu.near {q : Qu} (h : ¬ q.far) : q.d.Z.length ≤ 20 ∧ q.sk.length ≤ 100 ∧ q.rq.length ≤ 20 := by
  unfold Qu.far Dk.far at h
  refine ⟨?_, ?_, ?_⟩
  · exact Classical.byContradiction fun g => h (.inl (.inl (.inl (.inl (by omega)))))
  · exact Classical.byContradiction fun g => h (.inl (.inl (.inr (by omega))))
  · exact Classical.byContradiction fun g => h (.inl (.inr (by omega)))
end Go.Proofs

namespace Go.Proofs
open Go Go.Sx
set_option maxRecDepth 100000
set_option maxHeartbeats 40000000
theorem Bound26 (q : Qu) (hq : q.Ok) (r : Nat) (hr : r < q.rq.length) : PureC Tryz.prog 26 false [.agg q.c, .int .i64 r] (· = .tup [.int .i64 (q.bound q.pas r), .int .i64 0]) := by
  have hn := hq.rql
  refine pureC_of_exec Tryz.E_ok Tryz.func26 rfl (by kernel_rfl) ?_
  (repeat' ((conv => whnf); (first | (with_reducible first | apply spl | apply spl') <;> intro hc <;> try (exfalso; omega) | with_reducible refine iJ fun hc => ?_ | refine vcq (k := ?_) | refine dr 19 (k := ?_)))); all_goals ((try conv => whnf); try with_reducible exact trivial)
  refine callee_fo (chkV q hq) rfl ?_
  rintro _ rfl
  (repeat' ((conv => whnf); (first | (with_reducible first | apply spl | apply spl') <;> intro hc <;> try (exfalso; omega) | with_reducible refine iJ fun hc => ?_ | refine vcq (k := ?_) | refine dr 19 (k := ?_)))); all_goals ((try conv => whnf); try with_reducible exact trivial)
  refine callee_fo (IsRequest22 q (by omega) r) rfl ?_
  rintro _ rfl
  (repeat' ((conv => whnf); (first | (with_reducible first | apply spl | apply spl') <;> intro hc <;> try (exfalso; omega) | with_reducible refine iJ fun hc => ?_ | refine vcq (k := ?_) | refine dr 19 (k := ?_)))); all_goals ((try conv => whnf); try with_reducible exact trivial)
  refine callee_fo (bound54 q hq r hr) rfl ?_
  rintro _ rfl
  (repeat' ((conv => whnf); (first | (with_reducible first | apply spl | apply spl') <;> intro hc <;> try (exfalso; omega) | with_reducible refine iJ fun hc => ?_ | refine vcq (k := ?_) | refine dr 19 (k := ?_)))); all_goals ((try conv => whnf); try with_reducible exact trivial)
  refine ⟨_, rfl, ?_⟩
  (repeat' ((conv => whnf); (first | (with_reducible first | apply spl | apply spl') <;> intro hc <;> try (exfalso; omega) | with_reducible refine iJ fun hc => ?_ | refine vcq (k := ?_) | refine dr 19 (k := ?_)))); all_goals ((try conv => whnf); try with_reducible exact trivial)
theorem Bound26n (q : Qu) (hq : q.Ok) (r : Int) (hr : ¬ (0 ≤ r ∧ r < q.rq.length)) : PureC Tryz.prog 26 false [.agg q.c, .int .i64 r] (· = .tup [.int .i64 0, .int .i64 1]) := by
  have hn := hq.rql
  refine pureC_of_exec Tryz.E_ok Tryz.func26 rfl (by kernel_rfl) ?_
  (repeat' ((conv => whnf); (first | (with_reducible first | apply spl | apply spl') <;> intro hc <;> try (exfalso; omega) | with_reducible refine iJ fun hc => ?_ | refine vcq (k := ?_) | refine dr 19 (k := ?_)))); all_goals ((try conv => whnf); try with_reducible exact trivial)
  refine callee_fo (chkV q hq) rfl ?_
  rintro _ rfl
  (repeat' ((conv => whnf); (first | (with_reducible first | apply spl | apply spl') <;> intro hc <;> try (exfalso; omega) | with_reducible refine iJ fun hc => ?_ | refine vcq (k := ?_) | refine dr 19 (k := ?_)))); all_goals ((try conv => whnf); try with_reducible exact trivial)
  refine callee_fo (IsRequest22 q (by omega) r) rfl ?_
  rintro _ rfl
  (repeat' ((conv => whnf); (first | (with_reducible first | apply spl | apply spl') <;> intro hc <;> try (exfalso; omega) | with_reducible refine iJ fun hc => ?_ | refine vcq (k := ?_) | refine dr 19 (k := ?_)))); all_goals ((try conv => whnf); try with_reducible exact trivial)
  refine ⟨_, rfl, ?_⟩
  (repeat' ((conv => whnf); (first | (with_reducible first | apply spl | apply spl') <;> intro hc <;> try (exfalso; omega) | with_reducible refine iJ fun hc => ?_ | refine vcq (k := ?_) | refine dr 19 (k := ?_)))); all_goals ((try conv => whnf); try with_reducible exact trivial)
theorem Bound25n (q : Qu) (hq : q.Ok) (r : Int) (hr : ¬ (0 ≤ r ∧ r < q.rq.length)) : PureC Tryz.prog 25 false [.agg q.c, .int .i64 r] (· = .tup [.int .i64 0, .int .i64 1]) := by
  have hn := hq.rql
  refine pureC_of_exec Tryz.E_ok Tryz.func25 rfl (by kernel_rfl) ?_
  (repeat' ((conv => whnf); (first | (with_reducible first | apply spl | apply spl') <;> intro hc <;> try (exfalso; omega) | with_reducible refine iJ fun hc => ?_ | refine vcq (k := ?_) | refine dr 19 (k := ?_)))); all_goals ((try conv => whnf); try with_reducible exact trivial)
  refine callee_fo (Check43 q hq) rfl ?_
  rintro _ rfl
  (repeat' ((conv => whnf); (first | (with_reducible first | apply spl | apply spl') <;> intro hc <;> try (exfalso; omega) | with_reducible refine iJ fun hc => ?_ | refine vcq (k := ?_) | refine dr 7 (k := ?_)))); all_goals ((try conv => whnf); try with_reducible exact trivial)
  refine ⟨_, rfl, ?_⟩
  (repeat' ((conv => whnf); (first | (with_reducible first | apply spl | apply spl') <;> intro hc <;> try (exfalso; omega) | with_reducible refine iJ fun hc => ?_ | refine vcq (k := ?_) | refine dr 19 (k := ?_)))); all_goals ((try conv => whnf); try with_reducible exact trivial)
theorem Sure28 (q : Qu) (hq : q.Ok) : PureC Tryz.prog 28 false [.agg q.c] (· = .tup [.sl 1 (q.sureL q.pas).length (rowOf natC 0 (q.sureL q.pas)), .int .i64 0]) := by
  have hn := hq.rql
  have hsl := fun i => q.sureT_len q.pas i
  refine pureC_of_exec Tryz.E_ok Tryz.func28 rfl (by kernel_rfl) ?_
  (repeat' ((conv => whnf); (first | (with_reducible first | apply spl | apply spl') <;> intro hc <;> try (exfalso; omega) | with_reducible refine iJ fun hc => ?_ | refine vcq (k := ?_) | refine dr 19 (k := ?_)))); all_goals ((try conv => whnf); try with_reducible exact trivial)
  refine callee_fo (chkV q hq) rfl ?_
  rintro _ rfl
  (repeat' ((conv => whnf); (first | (with_reducible first | apply spl | apply spl') <;> intro hc <;> try (exfalso; omega) | with_reducible refine iJ fun hc => ?_ | refine vcq (k := ?_) | refine dr 19 (k := ?_)))); all_goals ((try conv => whnf); try with_reducible exact trivial)
  refine ⟨Nat, fun i => i ≤ q.rq.length, fun i => q.rq.length - i, fun i => [(6, .int .i64 (i : Nat)), (5, .osl 1 (q.sureT q.pas i).length)], fun _ => [], fun i => [.row 3 1 (q.sureT q.pas i).length (rowOf natC 0 (q.sureT q.pas i)) true], 0, ⟨by omega, some [some 0, none], ?_⟩, ?_⟩
  · (repeat' ((conv => whnf); (first | (with_reducible first | apply spl | apply spl') <;> intro hc <;> try (exfalso; omega) | with_reducible refine iJ fun hc => ?_ | refine vcq (k := ?_) | refine dr 19 (k := ?_)))); all_goals ((try conv => whnf); try with_reducible exact trivial)
  · intro i hi
    have hi : i ≤ q.rq.length := hi
    have hti : (i : Int).toNat = i := Int.toNat_natCast i
    have hli := hsl i
    have hsi := q.sure_iff q.pas i
    (repeat' ((conv => whnf); (first | (with_reducible first | apply spl | apply spl') <;> intro hc <;> try (exfalso; omega) | with_reducible refine iJ fun hc => ?_ | refine vcq (k := ?_) | refine dr 19 (k := ?_)))); all_goals ((try conv => whnf); try with_reducible exact trivial)
    · have hil : i < q.rq.length := by omega
      refine pcall_soft (fun _ => bound54 q hq i hil) rfl ?_
      (repeat' ((conv => whnf); (first | (with_reducible first | apply spl | apply spl') <;> intro hc <;> try (exfalso; omega) | with_reducible refine iJ fun hc => ?_ | refine vcq (k := ?_) | refine dr 19 (k := ?_)))); all_goals ((try conv => whnf); try with_reducible exact trivial)
      · rw [hti] at hc
        have hy := Qu.sureT_yes (hsi.2 hc)
        refine ⟨i + 1, ⟨by omega, by dsimp only; omega⟩, some [some 0, some 3], ?_⟩
        dsimp only
        have hle : (q.sureT q.pas i ++ [i]).length = (q.sureT q.pas i).length + 1 := by rw [List.length_append]; rfl
        rw [hy]
        (repeat' ((conv => whnf); (first | (with_reducible first | apply spl | apply spl') <;> intro hc <;> try (exfalso; omega) | with_reducible refine iJ fun hc => ?_ | refine vcq (k := ?_) | refine dr 19 (k := ?_)))); all_goals ((try conv => whnf); try with_reducible exact trivial)
        refine ⟨fun k hk => rowOf_snoc (c := natC) (d := 0) (l := q.sureT q.pas i) rfl (fun _ _ => rfl) k hk, ?_⟩
        (repeat' ((conv => whnf); (first | (with_reducible first | apply spl | apply spl') <;> intro hc <;> try (exfalso; omega) | with_reducible refine iJ fun hc => ?_ | refine vcq (k := ?_) | refine dr 19 (k := ?_)))); all_goals ((try conv => whnf); try with_reducible exact trivial)
      · rw [hti] at hc
        have hy := Qu.sureT_no (fun g => hc (hsi.1 g))
        refine ⟨i + 1, ⟨by omega, by dsimp only; omega⟩, some [some 0, some 1], ?_⟩
        dsimp only
        rw [hy]
        (repeat' ((conv => whnf); (first | (with_reducible first | apply spl | apply spl') <;> intro hc <;> try (exfalso; omega) | with_reducible refine iJ fun hc => ?_ | refine vcq (k := ?_) | refine dr 19 (k := ?_)))); all_goals ((try conv => whnf); try with_reducible exact trivial)
    · obtain rfl : i = q.rq.length := by omega
      refine ⟨_, rfl, ?_⟩
      (repeat' ((conv => whnf); (first | (with_reducible first | apply spl | apply spl') <;> intro hc <;> try (exfalso; omega) | with_reducible refine iJ fun hc => ?_ | refine vcq (k := ?_) | refine dr 19 (k := ?_)))); all_goals ((try conv => whnf); try with_reducible exact trivial)
end Go.Proofs

namespace Go.Proofs
open Go Go.Sx
set_option maxRecDepth 100000
set_option maxHeartbeats 40000000
theorem Bound_both (q : Qu) (hq : q.Ok) (r : Int) : ∃ (b e : Int), PureC Tryz.prog 25 false [.agg q.c, .int .i64 r] (· = .tup [.int .i64 b, .int .i64 e]) ∧ PureC Tryz.prog 26 false [.agg q.c, .int .i64 r] (· = .tup [.int .i64 b, .int .i64 e]) := by
  by_cases h : 0 ≤ r ∧ r < q.rq.length
  · obtain ⟨k, rfl⟩ := Int.eq_ofNat_of_zero_le h.1
    exact ⟨_, _, Bound21 q hq k (by omega), Bound26 q hq k (by omega)⟩
  · exact ⟨0, 1, Bound25n q hq r h, Bound26n q hq r h⟩
theorem Bounds5 (q : Qu) (hz : q.d.Z.length ≤ 9223372036854775807) (hsk : q.sk.length ≤ 9223372036854775807) (hrq : q.rq.length ≤ 9223372036854775807) (hdu : q.DuR) (r : Int) :
    PureC Tryz.prog 5 false [.agg q.c, .int .i64 r] (· = .prop True inferInstance) := by
  refine pureC_of_exec Tryz.E_ok Tryz.func5 rfl (by kernel_rfl) ?_
  (repeat' ((conv => whnf); (first | (with_reducible first | apply spl | apply spl') <;> intro hc <;> try (exfalso; omega) | with_reducible refine iJ fun hc => ?_ | refine vcq (k := ?_) | fail))); all_goals ((try conv => whnf); try with_reducible exact trivial)
  refine callee_fo (Far25 q hz hsk hrq) rfl ?_
  rintro _ rfl
  (repeat' ((conv => whnf); (first | (with_reducible first | apply spl | apply spl') <;> intro hc <;> try (exfalso; omega) | with_reducible refine iJ fun hc => ?_ | refine vcq (k := ?_) | fail))); all_goals ((try conv => whnf); try with_reducible exact trivial)
  · refine callee_fo works10 rfl ?_
    rintro _ rfl
    (repeat' ((conv => whnf); (first | (with_reducible first | apply spl | apply spl') <;> intro hc <;> try (exfalso; omega) | with_reducible refine iJ fun hc => ?_ | refine vcq (k := ?_) | fail))); all_goals ((try conv => whnf); try with_reducible exact trivial)
    refine ⟨_, rfl, ?_⟩
    (repeat' ((conv => whnf); (first | (with_reducible first | apply spl | apply spl') <;> intro hc <;> try (exfalso; omega) | with_reducible refine iJ fun hc => ?_ | refine vcq (k := ?_) | fail))); all_goals ((try conv => whnf); try with_reducible exact trivial)
  · obtain ⟨n1, n2, n3⟩ := Qu.near hc
    clear hc
    refine callee_fo (Copy17 q (by omega) (by omega) (by omega)) rfl ?_
    rintro _ rfl
    (repeat' ((conv => whnf); (first | (with_reducible first | apply spl | apply spl') <;> intro hc <;> try (exfalso; omega) | with_reducible refine iJ fun hc => ?_ | refine vcq (k := ?_) | fail))); all_goals ((try conv => whnf); try with_reducible exact trivial)
    by_cases hv : q.chk = 0
    · have hq := Qu.chk_ok hv
      have hsl : (q.sureL q.pas).length ≤ 1000000 := by have := q.sureT_len q.pas q.rq.length; have e : q.sureL q.pas = q.sureT q.pas q.rq.length := rfl; rw [e]; omega
      obtain ⟨b, e, hB1, hB2⟩ := Bound_both q hq r
      refine callee_fo hB1 rfl ?_
      rintro _ rfl
      (repeat' ((conv => whnf); (first | (with_reducible first | apply spl | apply spl') <;> intro hc <;> try (exfalso; omega) | with_reducible refine iJ fun hc => ?_ | refine vcq (k := ?_) | fail))); all_goals ((try conv => whnf); try with_reducible exact trivial)
      refine callee_fo hB2 rfl ?_
      rintro _ rfl
      (repeat' ((conv => whnf); (first | (with_reducible first | apply spl | apply spl') <;> intro hc <;> try (exfalso; omega) | with_reducible refine iJ fun hc => ?_ | refine vcq (k := ?_) | fail))); all_goals ((try conv => whnf); try with_reducible exact trivial)
      refine callee_fo (Sure22 q hq) rfl ?_
      rintro _ rfl
      (repeat' ((conv => whnf); (first | (with_reducible first | apply spl | apply spl') <;> intro hc <;> try (exfalso; omega) | with_reducible refine iJ fun hc => ?_ | refine vcq (k := ?_) | fail))); all_goals ((try conv => whnf); try with_reducible exact trivial)
      refine callee_fo (Sure28 q hq) rfl ?_
      rintro _ rfl
      (repeat' ((conv => whnf); (first | (with_reducible first | apply spl | apply spl') <;> intro hc <;> try (exfalso; omega) | with_reducible refine iJ fun hc => ?_ | refine vcq (k := ?_) | fail))); all_goals ((try conv => whnf); try with_reducible exact trivial); (repeat' ((first | (refine callee_fo (sameSelf _ hsl) rfl ?_; rintro _ rfl) | (refine pcall_intro (sameSelf _ hsl) rfl ?_) | (refine pcall_soft (fun _ => sameSelf _ hsl) rfl ?_) | (refine callee_fo (works10) rfl ?_; rintro _ rfl) | (refine pcall_intro (works10) rfl ?_) | (refine pcall_soft (fun _ => works10) rfl ?_)); (repeat' ((conv => whnf); (first | (with_reducible first | apply spl | apply spl') <;> intro hc <;> try (exfalso; omega) | with_reducible refine iJ fun hc => ?_ | refine vcq (k := ?_) | fail))); all_goals ((try conv => whnf); try with_reducible exact trivial)))
      refine ⟨_, rfl, ?_⟩
      (repeat' ((conv => whnf); (first | (with_reducible first | apply spl | apply spl') <;> intro hc <;> try (exfalso; omega) | with_reducible refine iJ fun hc => ?_ | refine vcq (k := ?_) | fail))); all_goals ((try conv => whnf); try with_reducible exact trivial)
    · refine callee_fo (BoundE25 q (by omega) (by omega) (by omega) hdu hv r) rfl ?_
      rintro _ rfl
      (repeat' ((conv => whnf); (first | (with_reducible first | apply spl | apply spl') <;> intro hc <;> try (exfalso; omega) | with_reducible refine iJ fun hc => ?_ | refine vcq (k := ?_) | fail))); all_goals ((try conv => whnf); try with_reducible exact trivial)
      refine callee_fo (BoundE26 q (by omega) (by omega) (by omega) hv r) rfl ?_
      rintro _ rfl
      (repeat' ((conv => whnf); (first | (with_reducible first | apply spl | apply spl') <;> intro hc <;> try (exfalso; omega) | with_reducible refine iJ fun hc => ?_ | refine vcq (k := ?_) | fail))); all_goals ((try conv => whnf); try with_reducible exact trivial)
      refine callee_fo (SureE27 q (by omega) (by omega) (by omega) hdu hv) rfl ?_
      rintro _ rfl
      (repeat' ((conv => whnf); (first | (with_reducible first | apply spl | apply spl') <;> intro hc <;> try (exfalso; omega) | with_reducible refine iJ fun hc => ?_ | refine vcq (k := ?_) | fail))); all_goals ((try conv => whnf); try with_reducible exact trivial)
      refine callee_fo (SureE28 q (by omega) (by omega) (by omega) hv) rfl ?_
      rintro _ rfl
      (repeat' ((conv => whnf); (first | (with_reducible first | apply spl | apply spl') <;> intro hc <;> try (exfalso; omega) | with_reducible refine iJ fun hc => ?_ | refine vcq (k := ?_) | fail))); all_goals ((try conv => whnf); try with_reducible exact trivial); (repeat' ((first | (refine callee_fo (sameNil) rfl ?_; rintro _ rfl) | (refine pcall_intro (sameNil) rfl ?_) | (refine pcall_soft (fun _ => sameNil) rfl ?_) | (refine callee_fo (works10) rfl ?_; rintro _ rfl) | (refine pcall_intro (works10) rfl ?_) | (refine pcall_soft (fun _ => works10) rfl ?_)); (repeat' ((conv => whnf); (first | (with_reducible first | apply spl | apply spl') <;> intro hc <;> try (exfalso; omega) | with_reducible refine iJ fun hc => ?_ | refine vcq (k := ?_) | fail))); all_goals ((try conv => whnf); try with_reducible exact trivial)))
      refine ⟨_, rfl, ?_⟩
      (repeat' ((conv => whnf); (first | (with_reducible first | apply spl | apply spl') <;> intro hc <;> try (exfalso; omega) | with_reducible refine iJ fun hc => ?_ | refine vcq (k := ?_) | fail))); all_goals ((try conv => whnf); try with_reducible exact trivial)
end Go.Proofs
