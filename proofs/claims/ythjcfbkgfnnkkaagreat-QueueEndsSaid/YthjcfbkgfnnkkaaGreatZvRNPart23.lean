/- Own work: texts of the proof of a law (ZvT1, ZuD9, ZvA, ZvN, ZuDA, ZvT2, ZvT3). No condition. -/
import Derived.Test.YthjcfbkgfnnkkaaGreatZvRNPart22
import Derived.Shelf.Sort.Plain
namespace Go.Proofs
open Go.Shelf
def Tryz.lays189_ren : Go.Shelf.Ren := ⟨fun | 189 => 82 | 125 => 97 | 257 => 96 | 128 => 117 | 129 => 118 | 294 => 108 | 295 => 109 | 296 => 110 | 297 => 111 | 298 => 112 | 299 => 113 | 216 => 114 | 300 => 115 | 301 => 116 | 328 => 125 | 329 => 126 | 330 => 127 | 331 => 128 | 332 => 129 | 215 => 130 | 343 => 131 | n => n, fun | 28 => 31 | 3 => 3 | 46 => 134 | 0 => 0 | 51 => 156 | 53 => 158 | 4 => 4 | 183 => 149 | 182 => 148 | 131 => 153 | 5 => 5 | 9 => 9 | 218 => 167 | 222 => 171 | 228 => 173 | 229 => 50 | n => n, fun | n => n⟩
theorem Tryz.lays189 : Go.Proofs.Lays.n189 Tryz.prog Tryz.lays189_ren := {
  mixed := by kernel_rfl
  f125 := Tryz.func97.trans (congrArg some (by kernel_rfl))
  f128 := Tryz.func117.trans (congrArg some (by kernel_rfl))
  f129 := Tryz.func118.trans (congrArg some (by kernel_rfl))
  f189 := Tryz.func82.trans (congrArg some (by kernel_rfl))
  f215 := Tryz.func130.trans (congrArg some (by kernel_rfl))
  f216 := Tryz.func114.trans (congrArg some (by kernel_rfl))
  f257 := Tryz.func96.trans (congrArg some (by kernel_rfl))
  f294 := Tryz.func108.trans (congrArg some (by kernel_rfl))
  f295 := Tryz.func109.trans (congrArg some (by kernel_rfl))
  f296 := Tryz.func110.trans (congrArg some (by kernel_rfl))
  f297 := Tryz.func111.trans (congrArg some (by kernel_rfl))
  f298 := Tryz.func112.trans (congrArg some (by kernel_rfl))
  f299 := Tryz.func113.trans (congrArg some (by kernel_rfl))
  f300 := Tryz.func115.trans (congrArg some (by kernel_rfl))
  f301 := Tryz.func116.trans (congrArg some (by kernel_rfl))
  f328 := Tryz.func125.trans (congrArg some (by kernel_rfl))
  f329 := Tryz.func126.trans (congrArg some (by kernel_rfl))
  f330 := Tryz.func127.trans (congrArg some (by kernel_rfl))
  f331 := Tryz.func128.trans (congrArg some (by kernel_rfl))
  f332 := Tryz.func129.trans (congrArg some (by kernel_rfl))
  f343 := Tryz.func131.trans (congrArg some (by kernel_rfl))
  t0 := Tryz.underlying0
  a0 := Tryz.isAgg0
  z0 := Tryz.sizeOf0
  v0 := Tryz.zeroValue0
  t3 := Tryz.underlying3
  a3 := Tryz.isAgg3
  z3 := Tryz.sizeOf3
  v3 := Tryz.zeroValue3
  t4 := Tryz.underlying4
  a4 := Tryz.isAgg4
  z4 := Tryz.sizeOf4
  v4 := Tryz.zeroValue4
  t5 := Tryz.underlying5
  a5 := Tryz.isAgg5
  z5 := Tryz.sizeOf5
  v5 := Tryz.zeroValue5
  t9 := Tryz.underlying9
  a9 := Tryz.isAgg9
  z9 := Tryz.sizeOf9
  v9 := Tryz.zeroValue9
  t28 := Tryz.underlying31
  a28 := Tryz.isAgg31
  z28 := Tryz.sizeOf31
  v28 := Tryz.zeroValue31
  t46 := Tryz.underlying134
  a46 := Tryz.isAgg134
  z46 := Tryz.sizeOf134
  v46 := Tryz.zeroValue134
  t51 := Tryz.underlying156
  a51 := Tryz.isAgg156
  z51 := Tryz.sizeOf156
  v51 := Tryz.zeroValue156
  t53 := Tryz.underlying158
  a53 := Tryz.isAgg158
  z53 := Tryz.sizeOf158
  v53 := Tryz.zeroValue158
  t131 := Tryz.underlying153
  a131 := Tryz.isAgg153
  z131 := Tryz.sizeOf153
  v131 := Tryz.zeroValue153
  t182 := Tryz.underlying148
  a182 := Tryz.isAgg148
  z182 := Tryz.sizeOf148
  v182 := Tryz.zeroValue148
  t183 := Tryz.underlying149
  a183 := Tryz.isAgg149
  z183 := Tryz.sizeOf149
  v183 := Tryz.zeroValue149
  t218 := Tryz.underlying167
  a218 := Tryz.isAgg167
  z218 := Tryz.sizeOf167
  v218 := Tryz.zeroValue167
  t222 := Tryz.underlying171
  a222 := Tryz.isAgg171
  z222 := Tryz.sizeOf171
  v222 := Tryz.zeroValue171
  t228 := Tryz.underlying173
  a228 := Tryz.isAgg173
  z228 := Tryz.sizeOf173
  v228 := Tryz.zeroValue173
  t229 := Tryz.underlying50
  a229 := Tryz.isAgg50
  z229 := Tryz.sizeOf50
  v229 := Tryz.zeroValue50 }
end Go.Proofs
namespace Go.Proofs
open Go Go.Sx
set_option maxRecDepth 100000
set_option maxHeartbeats 40000000
theorem sortsInt : SortsInt Tryz.prog 82 := fun blk cap l w hH hb hl => Any.slices_Sort_int Tryz.lays189 blk 0 cap l w hH hb hl
theorem sortAny (l : List Int) (hl : l.length ≤ 1000000) : Sx.Callee Tryz.prog 82 [.osl 0 l.length] [.row 3 1 l.length (rowOf intC 0 l) true]
    (fun r H => r = .tup [] ∧ ∃ m : List Int, m.Perm l ∧ (∀ p q, p < q → q < l.length → m.getD p 0 ≤ m.getD q 0) ∧ H = [.row 3 1 l.length (rowOf intC 0 m) true]) := by
  by_cases h : l.length ≤ 12
  · exact sort71 l h
  · refine Callee.mono (callee_sort ⟨_, Tryz.func82, by kernel_rfl, by kernel_rfl⟩ sortsInt (by omega) (by omega)) ?_
    rintro v H ⟨rfl, rfl⟩
    refine ⟨rfl, _, List.mergeSort_perm l _, fun p q hpq hq => ?_, rfl⟩
    have hs := List.pairwise_mergeSort (le := fun x y : Int => decide (x ≤ y)) (fun a b c h1 h2 => by simp only [decide_eq_true_eq] at *; omega) (fun a b => by simp only [Bool.or_eq_true, decide_eq_true_eq]; omega) l
    have hml : (l.mergeSort fun x y => decide (x ≤ y)).length = l.length := List.length_mergeSort _
    rw [List.pairwise_iff_getElem] at hs
    have := hs p q (by omega) (by omega) hpq
    simp only [decide_eq_true_eq] at this
    rw [List.getD_eq_getElem?_getD, List.getElem?_eq_getElem (by omega), List.getD_eq_getElem?_getD, List.getElem?_eq_getElem (by omega)]
    exact this
theorem sortedAny (l : List Int) (hl : l.length ≤ 1000000) : Sx.Callee Tryz.prog 66 [.fn (.func 83) [] [.ptr 0 0]] [.cells 31 [.sl 1 l.length (rowOf intC 0 l)]]
    (fun r H => ∃ m : List Int, m.Perm l ∧ (∀ p q, p < q → q < l.length → m.getD p 0 ≤ m.getD q 0) ∧ r = .osl 1 l.length ∧ H = [.cells 31 [.sl 1 l.length (rowOf intC 0 l)], .row 3 1 l.length (rowOf intC 0 m) true]) := by
  refine callee_ent Tryz.E_ok Tryz.func66 rfl (by kernel_rfl) ?_
  (repeat' ((conv => whnf); (first | (with_reducible first | apply spl | apply spl') <;> intro hc <;> try (exfalso; omega) | with_reducible refine iJ fun hc => ?_ | refine vcq (k := ?_) | refine dr 15 (k := ?_)))); all_goals ((try conv => whnf); try with_reducible exact trivial)
  refine callee_exec Tryz.E_ok Tryz.func81 rfl (by kernel_rfl) ?_
  (repeat' ((conv => whnf); (first | (with_reducible first | apply spl | apply spl') <;> intro hc <;> try (exfalso; omega) | with_reducible refine iJ fun hc => ?_ | refine vcq (k := ?_) | refine dr 15 (k := ?_)))); all_goals ((try conv => whnf); try with_reducible exact trivial)
  refine callee_exec Tryz.E_ok Tryz.func95 rfl (by kernel_rfl) ?_
  (repeat' ((conv => whnf); (first | (with_reducible first | apply spl | apply spl') <;> intro hc <;> try (exfalso; omega) | with_reducible refine iJ fun hc => ?_ | refine vcq (k := ?_) | refine dr 15 (k := ?_)))); all_goals ((try conv => whnf); try with_reducible exact trivial)
  refine callee_exec Tryz.E_ok Tryz.func83 rfl (by kernel_rfl) ?_
  (repeat' ((conv => whnf); (first | (with_reducible first | apply spl | apply spl') <;> intro hc <;> try (exfalso; omega) | with_reducible refine iJ fun hc => ?_ | refine vcq (k := ?_) | refine dr 15 (k := ?_)))); all_goals ((try conv => whnf); try with_reducible exact trivial)
  refine ⟨Nat, fun i => i ≤ l.length, fun i => l.length - i, fun i => [(7, .int .i64 (i : Nat))], fun i => [(1, .cells 31 [.osl 3 (l.take i).length])], fun i => [.row 3 1 (l.take i).length (rowOf intC 0 (l.take i)) true], 0, ⟨by omega, some [some 0, some 1, some 2, none], ?_⟩, ?_⟩
  · (repeat' ((conv => whnf); (first | (with_reducible first | apply spl | apply spl') <;> intro hc <;> try (exfalso; omega) | with_reducible refine iJ fun hc => ?_ | refine vcq (k := ?_) | refine dr 15 (k := ?_)))); all_goals ((try conv => whnf); try with_reducible exact trivial)
  · intro i hi
    have hi : i ≤ l.length := hi
    have hti : (i : Int).toNat = i := Int.toNat_natCast i
    (repeat' ((conv => whnf); (first | (with_reducible first | apply spl | apply spl') <;> intro hc <;> try (exfalso; omega) | with_reducible refine iJ fun hc => ?_ | refine vcq (k := ?_) | refine dr 15 (k := ?_)))); all_goals ((try conv => whnf); try with_reducible exact trivial)
    · have hil : i < l.length := by omega
      have hlt : (l.take i).length = i := by rw [List.length_take]; omega
      rw [hti]
      refine ycall_exec Tryz.E_ok rfl rfl rfl ?_
      (repeat' ((conv => whnf); (first | (with_reducible first | apply spl | apply spl') <;> intro hc <;> try (exfalso; omega) | with_reducible refine iJ fun hc => ?_ | refine vcq (k := ?_) | refine dr 15 (k := ?_)))); all_goals ((try conv => whnf); try with_reducible exact trivial)
      have e : l.take (i + 1) = l.take i ++ [l.getD i 0] := by
        rw [List.take_succ_eq_append_getElem hil]
        simp [List.getD_eq_getElem?_getD, hil]
      have hlt2 : (l.take (i + 1)).length = (l.take i).length + 1 := by rw [e]; simp
      refine ⟨i + 1, ⟨by omega, by dsimp only; omega⟩, some [some 0, some 1, some 2, some 5], ?_⟩
      (repeat' ((conv => whnf); (first | (with_reducible first | apply spl | apply spl') <;> intro hc <;> try (exfalso; omega) | with_reducible refine iJ fun hc => ?_ | refine vcq (k := ?_) | refine dr 15 (k := ?_)))); all_goals ((try conv => whnf); try with_reducible exact trivial)
      refine ⟨fun k hk => ?_, ?_⟩
      · rw [e]
        exact rowOf_snoc (c := intC) rfl (fun _ _ => rfl) k (by omega)
      · (repeat' ((conv => whnf); (first | (with_reducible first | apply spl | apply spl') <;> intro hc <;> try (exfalso; omega) | with_reducible refine iJ fun hc => ?_ | refine vcq (k := ?_) | refine dr 15 (k := ?_)))); all_goals ((try conv => whnf); try with_reducible exact trivial)
    · obtain rfl : i = l.length := by omega
      rw [List.take_length]
      refine callee_frame [3] (sortAny l hl) rfl ?_ ?_
      · (repeat' ((conv => whnf); (first | (with_reducible first | apply spl | apply spl') <;> intro hc <;> try (exfalso; omega) | with_reducible refine iJ fun hc => ?_ | refine vcq (k := ?_) | refine dr 15 (k := ?_)))); all_goals ((try conv => whnf); try with_reducible exact trivial)
      · rintro _ _ ⟨rfl, m, g1, g2, rfl⟩
        (repeat' ((conv => whnf); (first | (with_reducible first | apply spl | apply spl') <;> intro hc <;> try (exfalso; omega) | with_reducible refine iJ fun hc => ?_ | refine vcq (k := ?_) | refine dr 15 (k := ?_)))); all_goals ((try conv => whnf); try with_reducible exact trivial)
        refine ⟨_, _, ⟨m, g1, g2, rfl, rfl⟩, some [some 0, some 3], ?_⟩
        (repeat' ((conv => whnf); (first | (with_reducible first | apply spl | apply spl') <;> intro hc <;> try (exfalso; omega) | with_reducible refine iJ fun hc => ?_ | refine vcq (k := ?_) | refine dr 15 (k := ?_)))); all_goals ((try conv => whnf); try with_reducible exact trivial)
theorem ordI_of_sorted {l m : List Int} (g1 : m.Perm l) (hall : ∀ j, j < l.length → m.getD j 0 = j) : IsOrdI l.length l := by
  have hml := g1.length_eq
  have hg : ∀ i (hi : i < l.length), l[i] = l.getD i 0 := fun i hi => by simp [List.getD_eq_getElem?_getD, hi]
  have hm : m = (List.range l.length).map Int.ofNat := by
    refine List.ext_getElem (by simp [hml]) fun j h1 h2 => ?_
    have := hall j (by omega)
    rw [List.getD_eq_getElem?_getD, List.getElem?_eq_getElem h1] at this
    simpa using this
  have hnd : l.Nodup := g1.nodup_iff.1 (by
    rw [hm, List.Nodup, List.pairwise_map]
    exact List.nodup_range.imp fun h e => h (Int.ofNat.inj e))
  refine ⟨fun i hi => ?_, fun i hi k hk e => ?_, rfl⟩
  · have h1 : l.getD i 0 ∈ m := g1.mem_iff.2 (by rw [← hg i hi]; exact List.getElem_mem hi)
    rw [hm] at h1
    obtain ⟨j, hj, e⟩ := List.mem_map.1 h1
    have := List.mem_range.1 hj
    have e : (j : Int) = _ := e
    omega
  · rw [List.Nodup, List.pairwise_iff_getElem] at hnd
    exact hnd k i (by omega) hi hk (by rw [hg k (by omega), hg i hi]; exact e)
def zeroQ : V := .agg [.int .i64 0, .int .i64 0, .lit (.slice none 0 0), .int .i64 0, .int .i64 0, .int .i64 0, .int .i64 0, .int .i64 0, .int .i64 0, .int .i64 0, .int .i64 0, .lit (.slice none 0 0), .lit (.slice none 0 0)]
theorem openN (q : Qu) (hq : q.Ok) (l : List Int) (hl : l.length ≤ 1000000) (hn : ¬ IsOrdI q.rq.length l) : PureC Tryz.prog 45 true [.agg q.c, .sl 1 l.length (rowOf intC 0 l)] (· = .tup [zeroQ, .int .i64 71]) := by
  have hrl := hq.rql
  refine pureC_of_exec Tryz.E_ok Tryz.func45 rfl (by kernel_rfl) ?_
  (repeat' ((conv => whnf); (first | (with_reducible first | apply spl | apply spl') <;> intro hc <;> try (exfalso; omega) | with_reducible refine iJ fun hc => ?_ | refine vcq (k := ?_) | refine dr 15 (k := ?_)))); all_goals ((try conv => whnf); try with_reducible exact trivial)
  refine callee_fo (Check43 q hq) rfl ?_
  rintro _ rfl
  (repeat' ((conv => whnf); (first | (with_reducible first | apply spl | apply spl') <;> intro hc <;> try (exfalso; omega) | with_reducible refine iJ fun hc => ?_ | refine vcq (k := ?_) | refine dr 15 (k := ?_)))); all_goals ((try conv => whnf); try with_reducible exact trivial)
  refine callee_exec Tryz.E_ok Tryz.func67 rfl (by kernel_rfl) ?_
  (repeat' ((conv => whnf); (first | (with_reducible first | apply spl | apply spl') <;> intro hc <;> try (exfalso; omega) | with_reducible refine iJ fun hc => ?_ | refine vcq (k := ?_) | refine dr 15 (k := ?_)))); all_goals ((try conv => whnf); try with_reducible exact trivial)
  refine callee_frame [2] (sortedAny l hl) rfl ?_ ?_
  · (repeat' ((conv => whnf); (first | (with_reducible first | apply spl | apply spl') <;> intro hc <;> try (exfalso; omega) | with_reducible refine iJ fun hc => ?_ | refine vcq (k := ?_) | refine dr 15 (k := ?_)))); all_goals ((try conv => whnf); try with_reducible exact trivial)
  · rintro _ _ ⟨m, g1, g2, rfl, rfl⟩
    have hml := g1.length_eq
    (repeat' ((conv => whnf); (first | (with_reducible first | apply spl | apply spl') <;> intro hc <;> try (exfalso; omega) | with_reducible refine iJ fun hc => ?_ | refine vcq (k := ?_) | refine dr 15 (k := ?_)))); all_goals ((try conv => whnf); try with_reducible exact trivial)
    refine ⟨Nat, fun i => i ≤ l.length ∧ ∀ j, j < i → m.getD j 0 = j, fun i => l.length - i, fun i => [(21, .int .i64 (i : Nat))], fun _ => [], fun _ => [], 0, ⟨⟨by omega, fun j hj => by omega⟩, none, ?_⟩, ?_⟩
    · (repeat' ((conv => whnf); (first | (with_reducible first | apply spl | apply spl') <;> intro hc <;> try (exfalso; omega) | with_reducible refine iJ fun hc => ?_ | refine vcq (k := ?_) | refine dr 15 (k := ?_)))); all_goals ((try conv => whnf); try with_reducible exact trivial)
    · rintro i ⟨hi, hall⟩
      have hti : (i : Int).toNat = i := Int.toNat_natCast i
      (repeat' ((conv => whnf); (first | (with_reducible first | apply spl | apply spl') <;> intro hc <;> try (exfalso; omega) | with_reducible refine iJ fun hc => ?_ | refine vcq (k := ?_) | refine dr 15 (k := ?_)))); all_goals ((try conv => whnf); try with_reducible exact trivial)
      · refine ⟨_, rfl, ?_⟩
        (repeat' ((conv => whnf); (first | (with_reducible first | apply spl | apply spl') <;> intro hc <;> try (exfalso; omega) | with_reducible refine iJ fun hc => ?_ | refine vcq (k := ?_) | refine dr 15 (k := ?_)))); all_goals ((try conv => whnf); try with_reducible exact trivial)
      · rw [hti] at hc
        refine ⟨i + 1, ⟨⟨by omega, fun j hj => ?_⟩, by dsimp only; omega⟩, none, ?_⟩
        · rcases Nat.lt_or_eq_of_le (show j ≤ i by omega) with g | rfl
          · exact hall j g
          · omega
        · (repeat' ((conv => whnf); (first | (with_reducible first | apply spl | apply spl') <;> intro hc <;> try (exfalso; omega) | with_reducible refine iJ fun hc => ?_ | refine vcq (k := ?_) | refine dr 15 (k := ?_)))); all_goals ((try conv => whnf); try with_reducible exact trivial)
      · refine ⟨_, rfl, ?_⟩
        (repeat' ((conv => whnf); (first | (with_reducible first | apply spl | apply spl') <;> intro hc <;> try (exfalso; omega) | with_reducible refine iJ fun hc => ?_ | refine vcq (k := ?_) | refine dr 15 (k := ?_)))); all_goals ((try conv => whnf); try with_reducible exact trivial)
      · obtain rfl : i = l.length := by omega
        have := ordI_of_sorted g1 hall
        exact absurd (by rwa [show q.rq.length = l.length by omega]) hn
end Go.Proofs

namespace Go.Proofs
open Go Go.Sx
set_option maxRecDepth 100000
set_option maxHeartbeats 40000000
theorem Cyl13 (q : Qu) (hq : q.Ok) (n : Int) (h0 : 0 ≤ n) (h1 : n < q.d.cnt) : PureC Tryz.prog 71 false [.agg q.c, .int .i64 n] (· = .int .i64 (q.cy n)) := by
  have h := Cylinder13 q hq n.toNat (by omega)
  rwa [Int.toNat_of_nonneg h0] at h
theorem Run14q (q : Qu) (hq : q.Ok) (r : Nat) (hr : r < q.rq.length) : PureC Tryz.prog 72 false [q.d.v, .int .i64 (q.rq.getD r Rq.none).fr, .int .i64 (q.rq.getD r Rq.none).ct] (· = .tup [.agg [.int .i64 (q.rn false r), .int .i64 (q.rn true r)], .int .i64 0]) := by
  have hr1 := Qu.rq_at hq hr
  unfold Qu.RqOk at hr1
  have h := Run14 q.d hq.d (q.rq.getD r Rq.none).fr.toNat (q.rq.getD r Rq.none).ct.toNat (by omega) (by omega)
  rw [Int.toNat_of_nonneg (by omega), Int.toNat_of_nonneg (by omega)] at h
  exact h
theorem place_facts {q : Qu} (hq : q.Ok) {o : List Nat} (ho : ∀ x ∈ o, x < q.rq.length) (hol : o.length ≤ 6) {i : Nat} (hi : i < o.length) :
    o.getD i 0 < q.rq.length ∧ (0 ≤ (q.rq.getD (o.getD i 0) Rq.none).fr ∧ (q.rq.getD (o.getD i 0) Rq.none).fr < q.d.cnt) ∧
    (1 ≤ (q.rq.getD (o.getD i 0) Rq.none).ct ∧ 0 ≤ (q.rq.getD (o.getD i 0) Rq.none).fr + (q.rq.getD (o.getD i 0) Rq.none).ct - 1 ∧ (q.rq.getD (o.getD i 0) Rq.none).fr + (q.rq.getD (o.getD i 0) Rq.none).ct - 1 < q.d.cnt) ∧
    q.cy (q.rq.getD (o.getD i 0) Rq.none).fr < q.d.S.length ∧ ((q.stQ true o i).1 < q.d.S.length) ∧
    (∀ hi, 0 ≤ (q.stQ hi o i).2 ∧ (q.stQ hi o i).2 ≤ 180000000) ∧ (∀ hi, 0 ≤ q.rn hi (o.getD i 0) ∧ q.rn hi (o.getD i 0) ≤ 24000000) := by
  have hr : o.getD i 0 < q.rq.length := by rw [getD_get hi]; exact ho _ (List.getElem_mem hi)
  have hr1 := Qu.rq_at hq hr
  unfold Qu.RqOk at hr1
  have hb := fun h => Qu.stQ_bnd hq h ho i (by omega)
  refine ⟨hr, by omega, by omega, Qu.cy_lt (by omega) (by omega), (hb true).1, fun h => ⟨(hb h).2.1, by have := (hb h).2.2; omega⟩, fun h => Qu.rn_bndB hq hr h⟩
end Go.Proofs

namespace Go.Proofs
open Go Go.Sx
set_option maxRecDepth 100000
set_option maxHeartbeats 40000000
def Qu.eR (q : Qu) (o : List Nat) (k : Nat) : List V := [.int .i64 (q.stQ false o (k + 1)).2, .int .i64 (q.stQ true o (k + 1)).2]
theorem ends51 (q : Qu) (hq : q.Ok) (o : List Nat) (ho : ∀ x ∈ o, x < q.rq.length) (hol : o.length ≤ 6) : PureC Tryz.prog 51 false [.agg q.c, .sl 1 o.length (rowOf natC 0 o)] (· = .sl 2 o.length (q.eR o)) := by
  have hqd := hq.d
  have hcy := hq.cyl
  have hcn := q.d.cnt_le hqd
  refine pureC_of_exec Tryz.E_ok Tryz.func51 rfl (by kernel_rfl) ?_
  (repeat' ((conv => whnf); (first | (with_reducible first | apply spl | apply spl') <;> intro hc <;> try (exfalso; omega) | with_reducible refine iJ fun hc => ?_ | refine vcq (k := ?_) | refine dr 25 (k := ?_) | refine dr 8 (k := ?_) | refine dr 9 (k := ?_)))); all_goals ((try conv => whnf); try with_reducible exact trivial)
  refine ⟨Nat, fun i => i ≤ o.length, fun i => o.length - i, fun i => [(8, .int .i64 (i : Nat)), (7, .int .i64 (q.stQ true o i).1), (5, .osl 2 i)], fun i => [(1, .cells 24 [.int .i64 (q.stQ false o i).2, .int .i64 (q.stQ true o i).2])], fun i => [.row 24 2 i (q.eR o) true], 0, ⟨by omega, some [some 0, some 1, none], ?_⟩, ?_⟩
  · (repeat' ((conv => whnf); (first | (with_reducible first | apply spl | apply spl') <;> intro hc <;> try (exfalso; omega) | with_reducible refine iJ fun hc => ?_ | refine vcq (k := ?_) | refine dr 25 (k := ?_) | refine dr 8 (k := ?_) | refine dr 9 (k := ?_)))); all_goals ((try conv => whnf); try with_reducible exact trivial)
    refine ⟨show q.cyl = ((q.cyl.toNat : Nat) : Int) by omega, ?_⟩
    (repeat' ((conv => whnf); (first | (with_reducible first | apply spl | apply spl') <;> intro hc <;> try (exfalso; omega) | with_reducible refine iJ fun hc => ?_ | refine vcq (k := ?_) | refine dr 25 (k := ?_) | refine dr 8 (k := ?_) | refine dr 9 (k := ?_)))); all_goals ((try conv => whnf); try with_reducible exact trivial)
  · intro i hi
    have hi : i ≤ o.length := hi
    have hti : (i : Int).toNat = i := Int.toNat_natCast i
    have hfa := fun h => place_facts hq ho hol (i := i) h
    (repeat' ((conv => whnf); (first | (with_reducible first | apply spl | apply spl') <;> intro hc <;> try (exfalso; omega) | with_reducible refine iJ fun hc => ?_ | refine vcq (k := ?_) | refine dr 9 (k := ?_) | refine dr 8 (k := ?_) | refine dr 25 (k := ?_)))); all_goals ((try conv => whnf); try with_reducible exact trivial)
    · have hil : i < o.length := by omega
      obtain ⟨f1, f2, f3, f4, f5, f6, f7⟩ := hfa hil
      have e1 : q.stQ false o (i + 1) = (q.cy ((q.rq.getD (o.getD i 0) Rq.none).fr + (q.rq.getD (o.getD i 0) Rq.none).ct - 1), q.srv (o.getD i 0) (q.stQ false o i).2 (q.sek (q.stQ true o i).1 (q.cy (q.rq.getD (o.getD i 0) Rq.none).fr)).1 (q.rn false (o.getD i 0))) := by rw [q.stQ_cyl]; rfl
      have e2 : q.stQ true o (i + 1) = (q.cy ((q.rq.getD (o.getD i 0) Rq.none).fr + (q.rq.getD (o.getD i 0) Rq.none).ct - 1), q.srv (o.getD i 0) (q.stQ true o i).2 (q.sek (q.stQ true o i).1 (q.cy (q.rq.getD (o.getD i 0) Rq.none).fr)).2 (q.rn true (o.getD i 0))) := rfl
      have hk := q.sek_bnd hq (q.stQ true o i).1 (q.cy (q.rq.getD (o.getD i 0) Rq.none).fr)
      have htr : ((o.getD i 0 : Nat) : Int).toNat = o.getD i 0 := Int.toNat_natCast _
      rw [hti]
      (repeat' ((conv => whnf); (first | (with_reducible first | apply spl | apply spl') <;> intro hc <;> try (exfalso; omega) | with_reducible refine iJ fun hc => ?_ | refine vcq (k := ?_) | refine dr 9 (k := ?_) | refine dr 8 (k := ?_) | refine dr 25 (k := ?_)))); all_goals ((try conv => whnf); try with_reducible exact trivial)
      rw [htr]
      (repeat' ((conv => whnf); (first | (with_reducible first | apply spl | apply spl') <;> intro hc <;> try (exfalso; omega) | with_reducible refine iJ fun hc => ?_ | refine vcq (k := ?_) | refine dr 9 (k := ?_) | refine dr 8 (k := ?_) | refine dr 25 (k := ?_)))); all_goals ((try conv => whnf); try with_reducible exact trivial); (repeat' ((first | (refine callee_fo (Cyl13 q hq _ (by omega) (by omega)) rfl ?_; rintro _ rfl) | (refine pcall_intro (Cyl13 q hq _ (by omega) (by omega)) rfl ?_) | (refine pcall_soft (fun _ => Cyl13 q hq _ (by omega) (by omega)) rfl ?_) | (refine callee_fo (SeekOf12 q hq _ _ f5 f4) rfl ?_; rintro _ rfl) | (refine pcall_intro (SeekOf12 q hq _ _ f5 f4) rfl ?_) | (refine pcall_soft (fun _ => SeekOf12 q hq _ _ f5 f4) rfl ?_) | (refine callee_fo (Run14q q hq _ f1) rfl ?_; rintro _ rfl) | (refine pcall_intro (Run14q q hq _ f1) rfl ?_) | (refine pcall_soft (fun _ => Run14q q hq _ f1) rfl ?_)); (repeat' ((conv => whnf); (first | (with_reducible first | apply spl | apply spl') <;> intro hc <;> try (exfalso; omega) | with_reducible refine iJ fun hc => ?_ | refine vcq (k := ?_) | refine dr 9 (k := ?_) | refine dr 8 (k := ?_) | refine dr 25 (k := ?_)))); all_goals ((try conv => whnf); try with_reducible exact trivial)))
      rw [hti]
      refine pcall_intro (Serve15 q hq _ f1 _ _ _ (by have := f6 false; omega) (by omega) (by have := f7 false; omega)) rfl ?_
      (repeat' ((conv => whnf); (first | (with_reducible first | apply spl | apply spl') <;> intro hc <;> try (exfalso; omega) | with_reducible refine iJ fun hc => ?_ | refine vcq (k := ?_) | refine dr 9 (k := ?_) | refine dr 8 (k := ?_) | refine dr 25 (k := ?_)))); all_goals ((try conv => whnf); try with_reducible exact trivial)
      rw [hti]
      refine pcall_intro (Serve15 q hq _ f1 _ _ _ (by have := f6 true; omega) (by omega) (by have := f7 true; omega)) rfl ?_
      (repeat' ((conv => whnf); (first | (with_reducible first | apply spl | apply spl') <;> intro hc <;> try (exfalso; omega) | with_reducible refine iJ fun hc => ?_ | refine vcq (k := ?_) | refine dr 9 (k := ?_) | refine dr 8 (k := ?_) | refine dr 25 (k := ?_)))); all_goals ((try conv => whnf); try with_reducible exact trivial); (repeat' ((first | (refine callee_fo (Cyl13 q hq _ (by omega) (by omega)) rfl ?_; rintro _ rfl) | (refine pcall_intro (Cyl13 q hq _ (by omega) (by omega)) rfl ?_) | (refine pcall_soft (fun _ => Cyl13 q hq _ (by omega) (by omega)) rfl ?_)); (repeat' ((conv => whnf); (first | (with_reducible first | apply spl | apply spl') <;> intro hc <;> try (exfalso; omega) | with_reducible refine iJ fun hc => ?_ | refine vcq (k := ?_) | refine dr 9 (k := ?_) | refine dr 8 (k := ?_) | refine dr 25 (k := ?_)))); all_goals ((try conv => whnf); try with_reducible exact trivial)))
      refine ⟨i + 1, ⟨by omega, by dsimp only; omega⟩, some [some 0, some 1, some 7], ?_⟩
      have ea : q.eR o i = [.int .i64 (q.stQ false o (i + 1)).2, .int .i64 (q.stQ true o (i + 1)).2] := rfl
      rw [e1, e2] at ea
      dsimp only
      rw [e1, e2]
      (repeat' ((conv => whnf); (first | (with_reducible first | apply spl | apply spl') <;> intro hc <;> try (exfalso; omega) | with_reducible refine iJ fun hc => ?_ | refine vcq (k := ?_) | refine dr 25 (k := ?_) | refine dr 8 (k := ?_) | refine dr 9 (k := ?_)))); all_goals ((try conv => whnf); try with_reducible exact trivial)
      refine ⟨appF_last ea.symm, ?_⟩
      (repeat' ((conv => whnf); (first | (with_reducible first | apply spl | apply spl') <;> intro hc <;> try (exfalso; omega) | with_reducible refine iJ fun hc => ?_ | refine vcq (k := ?_) | refine dr 25 (k := ?_) | refine dr 8 (k := ?_) | refine dr 9 (k := ?_)))); all_goals ((try conv => whnf); try with_reducible exact trivial)
    · obtain rfl : i = o.length := by omega
      refine ⟨_, rfl, ?_⟩
      (repeat' ((conv => whnf); (first | (with_reducible first | apply spl | apply spl') <;> intro hc <;> try (exfalso; omega) | with_reducible refine iJ fun hc => ?_ | refine vcq (k := ?_) | refine dr 25 (k := ?_) | refine dr 8 (k := ?_) | refine dr 9 (k := ?_)))); all_goals ((try conv => whnf); try with_reducible exact trivial)
end Go.Proofs

namespace Go.Proofs
open Go Go.Sx
set_option maxRecDepth 100000
set_option maxHeartbeats 40000000
theorem IsRequest22 (q : Qu) (hrq : q.rq.length ≤ 1000000) (r : Int) : PureC Tryz.prog 22 false [.agg q.c, .int .i64 r] (· = .prop (0 ≤ r ∧ r ≤ (q.rq.length : Int) - 1) inferInstance) := by
  refine pureC_of_exec Tryz.E_ok Tryz.func22 rfl (by kernel_rfl) ?_
  (repeat' ((conv => whnf); (first | (with_reducible first | apply spl | apply spl') <;> intro hc <;> try (exfalso; omega) | with_reducible refine iJ fun hc => ?_ | refine vcq (k := ?_) | fail))); all_goals ((try conv => whnf); try with_reducible exact trivial); (repeat' ((first | (refine callee_fo (within27 _ _ _) rfl ?_; rintro _ rfl) | (refine pcall_intro (within27 _ _ _) rfl ?_) | (refine pcall_soft (fun _ => within27 _ _ _) rfl ?_)); (repeat' ((conv => whnf); (first | (with_reducible first | apply spl | apply spl') <;> intro hc <;> try (exfalso; omega) | with_reducible refine iJ fun hc => ?_ | refine vcq (k := ?_) | fail))); all_goals ((try conv => whnf); try with_reducible exact trivial)))
  refine ⟨_, rfl, ?_⟩
  (repeat' ((conv => whnf); (first | (with_reducible first | apply spl | apply spl') <;> intro hc <;> try (exfalso; omega) | with_reducible refine iJ fun hc => ?_ | refine vcq (k := ?_) | fail))); all_goals ((try conv => whnf); try with_reducible exact trivial)
theorem chkV (q : Qu) (hq : q.Ok) : PureC Tryz.prog 11 false [.agg q.c] (· = .int .i64 0) := by
  have hz := hq.d.z
  have hSl := (q.d.S_len hq.d).1
  have hskl := hq.skl
  have hn := hq.rql
  have hck := Check26 q (by omega) (by omega) (by omega)
  rwa [Qu.chk_of hq] at hck
theorem sameNil : PureC Tryz.prog 29 false [.lit (.slice none 0 0), .lit (.slice none 0 0)] (· = .kb true) := by
  have h := pureWk (R' := (· = V.kb true)) (sameInts29 [] [] (by simp) (by simp)) fun _ e => ⟨_, rfl, fun I w v hd => by subst e; simpa [Den] using hd⟩
  refine PureC.view h ?_
  (repeat' ((conv => whnf); (first | (with_reducible first | apply spl | apply spl') <;> intro hc <;> try (exfalso; omega) | with_reducible refine iJ fun hc => ?_ | refine vcq (k := ?_) | fail))); all_goals ((try conv => whnf); try with_reducible exact trivial)
theorem sameSelf (a : List Nat) (ha : a.length ≤ 1000000) : PureC Tryz.prog 29 false [.sl 1 a.length (rowOf natC 0 a), .sl 1 a.length (rowOf natC 0 a)] (· = .kb true) :=
  pureWk (sameInts29 a a ha ha) fun _ e => ⟨_, rfl, fun I w v hd => by subst e; simpa [Den] using hd⟩
theorem Qu.near {q : Qu} (h : ¬ q.far) : q.d.Z.length ≤ 20 ∧ q.sk.length ≤ 100 ∧ q.rq.length ≤ 20 := by
  unfold Qu.far Dk.far at h
  refine ⟨?_, ?_, ?_⟩
  · exact Classical.byContradiction fun g => h (.inl (.inl (.inl (.inl (by omega)))))
  · exact Classical.byContradiction fun g => h (.inl (.inl (.inr (by omega))))
  · exact Classical.byContradiction fun g => h (.inl (.inr (by omega)))
end Go.Proofs

namespace Go.Proofs
open Go Go.Sx
set_option maxRecDepth 100000
set_option maxHeartbeats 40000000
theorem IsOrd.int {n : Nat} {o : List Nat} (h : IsOrd n o) : IsOrdI n (o.map Int.ofNat) := by
  have hg : ∀ i, i < o.length → (o.map Int.ofNat).getD i 0 = (o.getD i 0 : Nat) := fun i hi => by
    rw [List.getD_eq_getElem?_getD, List.getElem?_map, List.getD_eq_getElem?_getD, List.getElem?_eq_getElem hi]
    rfl
  have hl : (o.map Int.ofNat).length = o.length := List.length_map ..
  refine ⟨fun i hi => ?_, fun i hi k hk e => ?_, by rw [hl]; exact h.len⟩
  · rw [hl] at hi
    rw [hg i hi]
    have := h.lt (o.getD i 0) (by rw [getD_get hi]; exact List.getElem_mem hi)
    omega
  · rw [hl] at hi
    rw [hg i hi, hg k (by omega)] at e
    have := h.inj (by omega) hi (Int.ofNat_inj.1 e)
    omega
theorem IsOrderF (q : Qu) (hrq : q.rq.length ≤ 1000000) (l : List Int) (hl : l.length ≤ 1000000) (h : ¬ IsOrdI q.rq.length l) : PureC Tryz.prog 20 false [.agg q.c, .sl 1 l.length (rowOf intC 0 l)] (· = .kb false) :=
  pureWk (IsOrder9 q hrq l hl) fun _ e => ⟨_, rfl, fun I w v hd => by subst e; simpa [Den, h] using hd⟩
theorem IsOrderN (q : Qu) (hrq : q.rq.length ≤ 1000000) (o : List Nat) (ho : IsOrd q.rq.length o) : PureC Tryz.prog 20 false [.agg q.c, .sl 1 o.length (rowOf natC 0 o)] (· = .kb true) := by
  have h := ho.int
  have hl : (o.map Int.ofNat).length = o.length := List.length_map ..
  have hc := IsOrder9 q hrq (o.map Int.ofNat) (by rw [hl, ho.len]; exact hrq)
  rw [hl, ← rowNat] at hc
  exact pureWk hc fun _ e => ⟨_, rfl, fun I w v hd => by subst e; simpa [Den, h] using hd⟩
theorem IsAllowedN (q : Qu) (hq : q.Ok) (o : List Nat) (ho : IsOrd q.rq.length o) (h : AllP q.rq.length q.pas.toNat q.od o) : PureC Tryz.prog 21 false [.agg q.c, .sl 1 o.length (rowOf natC 0 o)] (· = .kb true) := by
  have h := (allP_iff ho).1 h
  exact pureWk (IsAllowed24 q hq o ho) fun _ e => ⟨_, rfl, fun I w v hd => by subst e; simpa [Den, h] using hd⟩
theorem IsAllowedF (q : Qu) (hq : q.Ok) (o : List Nat) (ho : IsOrd q.rq.length o) (h : ¬ AllP q.rq.length q.pas.toNat q.od o) : PureC Tryz.prog 21 false [.agg q.c, .sl 1 o.length (rowOf natC 0 o)] (· = .kb false) := by
  have h : ¬ AllR q.pas.toNat q.od o := fun g => h ((allP_iff ho).2 g)
  exact pureWk (IsAllowed24 q hq o ho) fun _ e => ⟨_, rfl, fun I w v hd => by subst e; simpa [Den, h] using hd⟩
end Go.Proofs

namespace Go.Proofs
open Go Go.Sx
set_option maxRecDepth 100000
set_option maxHeartbeats 40000000
/-! a queue that is not valid -/
theorem openE (q : Qu) (hz : q.d.Z.length ≤ 1000000) (hsk : q.sk.length ≤ 1000000) (hrq : q.rq.length ≤ 1000000) (hdu : q.DuR) (hne : q.chk ≠ 0) (l : List Int) : PureC Tryz.prog 45 true [.agg q.c, .sl 1 l.length (rowOf intC 0 l)] (· = .tup [zeroQ, .int .i64 q.chk]) := by
  refine pureC_of_exec Tryz.E_ok Tryz.func45 rfl (by kernel_rfl) ?_
  (repeat' ((conv => whnf); (first | (with_reducible first | apply spl | apply spl') <;> intro hc <;> try (exfalso; omega) | with_reducible refine iJ fun hc => ?_ | refine vcq (k := ?_) | refine dr 9 (k := ?_)))); all_goals ((try conv => whnf); try with_reducible exact trivial)
  refine callee_fo (Check10 q hz hsk hrq hdu) rfl ?_
  rintro _ rfl
  (repeat' ((conv => whnf); (first | (with_reducible first | apply spl | apply spl') <;> intro hc <;> try (exfalso; omega) | with_reducible refine iJ fun hc => ?_ | refine vcq (k := ?_) | refine dr 9 (k := ?_)))); all_goals ((try conv => whnf); try with_reducible exact trivial)
  refine ⟨_, rfl, ?_⟩
  (repeat' ((conv => whnf); (first | (with_reducible first | apply spl | apply spl') <;> intro hc <;> try (exfalso; omega) | with_reducible refine iJ fun hc => ?_ | refine vcq (k := ?_) | refine dr 9 (k := ?_)))); all_goals ((try conv => whnf); try with_reducible exact trivial)
theorem AllowedE (q : Qu) (hz : q.d.Z.length ≤ 1000000) (hsk : q.sk.length ≤ 1000000) (hrq : q.rq.length ≤ 1000000) (hdu : q.DuR) (hne : q.chk ≠ 0) (l : List Int) : PureC Tryz.prog 12 false [.agg q.c, .sl 1 l.length (rowOf intC 0 l)] (· = .tup [.kb false, .int .i64 q.chk]) := by
  refine pureC_of_exec Tryz.E_ok Tryz.func12 rfl (by kernel_rfl) ?_
  (repeat' ((conv => whnf); (first | (with_reducible first | apply spl | apply spl') <;> intro hc <;> try (exfalso; omega) | with_reducible refine iJ fun hc => ?_ | refine vcq (k := ?_) | refine dr 9 (k := ?_)))); all_goals ((try conv => whnf); try with_reducible exact trivial)
  refine callee_fo (openE q hz hsk hrq hdu hne l) rfl ?_
  rintro _ rfl
  (repeat' ((conv => whnf); (first | (with_reducible first | apply spl | apply spl') <;> intro hc <;> try (exfalso; omega) | with_reducible refine iJ fun hc => ?_ | refine vcq (k := ?_) | refine dr 9 (k := ?_)))); all_goals ((try conv => whnf); try with_reducible exact trivial)
  refine ⟨_, rfl, ?_⟩
  (repeat' ((conv => whnf); (first | (with_reducible first | apply spl | apply spl') <;> intro hc <;> try (exfalso; omega) | with_reducible refine iJ fun hc => ?_ | refine vcq (k := ?_) | refine dr 9 (k := ?_)))); all_goals ((try conv => whnf); try with_reducible exact trivial)
theorem EndsE (q : Qu) (hz : q.d.Z.length ≤ 1000000) (hsk : q.sk.length ≤ 1000000) (hrq : q.rq.length ≤ 1000000) (hdu : q.DuR) (hne : q.chk ≠ 0) (l : List Int) : PureC Tryz.prog 14 false [.agg q.c, .sl 1 l.length (rowOf intC 0 l)] (· = .tup [.lit (.slice none 0 0), .int .i64 q.chk]) := by
  refine pureC_of_exec Tryz.E_ok Tryz.func14 rfl (by kernel_rfl) ?_
  (repeat' ((conv => whnf); (first | (with_reducible first | apply spl | apply spl') <;> intro hc <;> try (exfalso; omega) | with_reducible refine iJ fun hc => ?_ | refine vcq (k := ?_) | refine dr 9 (k := ?_)))); all_goals ((try conv => whnf); try with_reducible exact trivial)
  refine callee_fo (openE q hz hsk hrq hdu hne l) rfl ?_
  rintro _ rfl
  (repeat' ((conv => whnf); (first | (with_reducible first | apply spl | apply spl') <;> intro hc <;> try (exfalso; omega) | with_reducible refine iJ fun hc => ?_ | refine vcq (k := ?_) | refine dr 9 (k := ?_)))); all_goals ((try conv => whnf); try with_reducible exact trivial)
  refine ⟨_, rfl, ?_⟩
  (repeat' ((conv => whnf); (first | (with_reducible first | apply spl | apply spl') <;> intro hc <;> try (exfalso; omega) | with_reducible refine iJ fun hc => ?_ | refine vcq (k := ?_) | refine dr 9 (k := ?_)))); all_goals ((try conv => whnf); try with_reducible exact trivial)
theorem CheckOrderE (q : Qu) (hz : q.d.Z.length ≤ 1000000) (hsk : q.sk.length ≤ 1000000) (hrq : q.rq.length ≤ 1000000) (hne : q.chk ≠ 0) (l : List Int) : PureC Tryz.prog 47 false [.agg q.c, .sl 1 l.length (rowOf intC 0 l)] (· = .int .i64 q.chk) := by
  refine pureC_of_exec Tryz.E_ok Tryz.func47 rfl (by kernel_rfl) ?_
  (repeat' ((conv => whnf); (first | (with_reducible first | apply spl | apply spl') <;> intro hc <;> try (exfalso; omega) | with_reducible refine iJ fun hc => ?_ | refine vcq (k := ?_) | refine dr 9 (k := ?_)))); all_goals ((try conv => whnf); try with_reducible exact trivial)
  refine callee_fo (Check26 q hz hsk hrq) rfl ?_
  rintro _ rfl
  (repeat' ((conv => whnf); (first | (with_reducible first | apply spl | apply spl') <;> intro hc <;> try (exfalso; omega) | with_reducible refine iJ fun hc => ?_ | refine vcq (k := ?_) | refine dr 9 (k := ?_)))); all_goals ((try conv => whnf); try with_reducible exact trivial)
  refine ⟨_, rfl, ?_⟩
  (repeat' ((conv => whnf); (first | (with_reducible first | apply spl | apply spl') <;> intro hc <;> try (exfalso; omega) | with_reducible refine iJ fun hc => ?_ | refine vcq (k := ?_) | refine dr 9 (k := ?_)))); all_goals ((try conv => whnf); try with_reducible exact trivial)
theorem RAllowedE (q : Qu) (hz : q.d.Z.length ≤ 1000000) (hsk : q.sk.length ≤ 1000000) (hrq : q.rq.length ≤ 1000000) (hne : q.chk ≠ 0) (l : List Int) : PureC Tryz.prog 13 false [.agg q.c, .sl 1 l.length (rowOf intC 0 l)] (· = .tup [.kb false, .int .i64 q.chk]) := by
  refine pureC_of_exec Tryz.E_ok Tryz.func13 rfl (by kernel_rfl) ?_
  (repeat' ((conv => whnf); (first | (with_reducible first | apply spl | apply spl') <;> intro hc <;> try (exfalso; omega) | with_reducible refine iJ fun hc => ?_ | refine vcq (k := ?_) | refine dr 9 (k := ?_)))); all_goals ((try conv => whnf); try with_reducible exact trivial)
  refine callee_fo (CheckOrderE q hz hsk hrq hne l) rfl ?_
  rintro _ rfl
  (repeat' ((conv => whnf); (first | (with_reducible first | apply spl | apply spl') <;> intro hc <;> try (exfalso; omega) | with_reducible refine iJ fun hc => ?_ | refine vcq (k := ?_) | refine dr 9 (k := ?_)))); all_goals ((try conv => whnf); try with_reducible exact trivial)
  refine ⟨_, rfl, ?_⟩
  (repeat' ((conv => whnf); (first | (with_reducible first | apply spl | apply spl') <;> intro hc <;> try (exfalso; omega) | with_reducible refine iJ fun hc => ?_ | refine vcq (k := ?_) | refine dr 9 (k := ?_)))); all_goals ((try conv => whnf); try with_reducible exact trivial)
theorem REndsE (q : Qu) (hz : q.d.Z.length ≤ 1000000) (hsk : q.sk.length ≤ 1000000) (hrq : q.rq.length ≤ 1000000) (hne : q.chk ≠ 0) (l : List Int) : PureC Tryz.prog 15 false [.agg q.c, .sl 1 l.length (rowOf intC 0 l)] (· = .tup [.lit (.slice none 0 0), .int .i64 q.chk]) := by
  refine pureC_of_exec Tryz.E_ok Tryz.func15 rfl (by kernel_rfl) ?_
  (repeat' ((conv => whnf); (first | (with_reducible first | apply spl | apply spl') <;> intro hc <;> try (exfalso; omega) | with_reducible refine iJ fun hc => ?_ | refine vcq (k := ?_) | refine dr 9 (k := ?_)))); all_goals ((try conv => whnf); try with_reducible exact trivial)
  refine callee_fo (CheckOrderE q hz hsk hrq hne l) rfl ?_
  rintro _ rfl
  (repeat' ((conv => whnf); (first | (with_reducible first | apply spl | apply spl') <;> intro hc <;> try (exfalso; omega) | with_reducible refine iJ fun hc => ?_ | refine vcq (k := ?_) | refine dr 9 (k := ?_)))); all_goals ((try conv => whnf); try with_reducible exact trivial)
  refine ⟨_, rfl, ?_⟩
  (repeat' ((conv => whnf); (first | (with_reducible first | apply spl | apply spl') <;> intro hc <;> try (exfalso; omega) | with_reducible refine iJ fun hc => ?_ | refine vcq (k := ?_) | refine dr 9 (k := ?_)))); all_goals ((try conv => whnf); try with_reducible exact trivial)
/-! an order that is none -/
theorem AllowedN (q : Qu) (hq : q.Ok) (l : List Int) (hl : l.length ≤ 1000000) (hn : ¬ IsOrdI q.rq.length l) : PureC Tryz.prog 12 false [.agg q.c, .sl 1 l.length (rowOf intC 0 l)] (· = .tup [.kb false, .int .i64 71]) := by
  refine pureC_of_exec Tryz.E_ok Tryz.func12 rfl (by kernel_rfl) ?_
  (repeat' ((conv => whnf); (first | (with_reducible first | apply spl | apply spl') <;> intro hc <;> try (exfalso; omega) | with_reducible refine iJ fun hc => ?_ | refine vcq (k := ?_) | refine dr 9 (k := ?_)))); all_goals ((try conv => whnf); try with_reducible exact trivial)
  refine callee_fo (openN q hq l hl hn) rfl ?_
  rintro _ rfl
  (repeat' ((conv => whnf); (first | (with_reducible first | apply spl | apply spl') <;> intro hc <;> try (exfalso; omega) | with_reducible refine iJ fun hc => ?_ | refine vcq (k := ?_) | refine dr 9 (k := ?_)))); all_goals ((try conv => whnf); try with_reducible exact trivial)
  refine ⟨_, rfl, ?_⟩
  (repeat' ((conv => whnf); (first | (with_reducible first | apply spl | apply spl') <;> intro hc <;> try (exfalso; omega) | with_reducible refine iJ fun hc => ?_ | refine vcq (k := ?_) | refine dr 9 (k := ?_)))); all_goals ((try conv => whnf); try with_reducible exact trivial)
theorem EndsN (q : Qu) (hq : q.Ok) (l : List Int) (hl : l.length ≤ 1000000) (hn : ¬ IsOrdI q.rq.length l) : PureC Tryz.prog 14 false [.agg q.c, .sl 1 l.length (rowOf intC 0 l)] (· = .tup [.lit (.slice none 0 0), .int .i64 71]) := by
  refine pureC_of_exec Tryz.E_ok Tryz.func14 rfl (by kernel_rfl) ?_
  (repeat' ((conv => whnf); (first | (with_reducible first | apply spl | apply spl') <;> intro hc <;> try (exfalso; omega) | with_reducible refine iJ fun hc => ?_ | refine vcq (k := ?_) | refine dr 9 (k := ?_)))); all_goals ((try conv => whnf); try with_reducible exact trivial)
  refine callee_fo (openN q hq l hl hn) rfl ?_
  rintro _ rfl
  (repeat' ((conv => whnf); (first | (with_reducible first | apply spl | apply spl') <;> intro hc <;> try (exfalso; omega) | with_reducible refine iJ fun hc => ?_ | refine vcq (k := ?_) | refine dr 9 (k := ?_)))); all_goals ((try conv => whnf); try with_reducible exact trivial)
  refine ⟨_, rfl, ?_⟩
  (repeat' ((conv => whnf); (first | (with_reducible first | apply spl | apply spl') <;> intro hc <;> try (exfalso; omega) | with_reducible refine iJ fun hc => ?_ | refine vcq (k := ?_) | refine dr 9 (k := ?_)))); all_goals ((try conv => whnf); try with_reducible exact trivial)
theorem CheckOrderN (q : Qu) (hq : q.Ok) (l : List Int) (hl : l.length ≤ 1000000) (hn : ¬ IsOrdI q.rq.length l) : PureC Tryz.prog 47 false [.agg q.c, .sl 1 l.length (rowOf intC 0 l)] (· = .int .i64 71) := by
  have hrl := hq.rql
  refine pureC_of_exec Tryz.E_ok Tryz.func47 rfl (by kernel_rfl) ?_
  (repeat' ((conv => whnf); (first | (with_reducible first | apply spl | apply spl') <;> intro hc <;> try (exfalso; omega) | with_reducible refine iJ fun hc => ?_ | refine vcq (k := ?_) | refine dr 9 (k := ?_)))); all_goals ((try conv => whnf); try with_reducible exact trivial)
  refine callee_fo (chkV q hq) rfl ?_
  rintro _ rfl
  (repeat' ((conv => whnf); (first | (with_reducible first | apply spl | apply spl') <;> intro hc <;> try (exfalso; omega) | with_reducible refine iJ fun hc => ?_ | refine vcq (k := ?_) | refine dr 9 (k := ?_)))); all_goals ((try conv => whnf); try with_reducible exact trivial)
  refine callee_fo (IsOrderF q (by omega) l hl hn) rfl ?_
  rintro _ rfl
  (repeat' ((conv => whnf); (first | (with_reducible first | apply spl | apply spl') <;> intro hc <;> try (exfalso; omega) | with_reducible refine iJ fun hc => ?_ | refine vcq (k := ?_) | refine dr 9 (k := ?_)))); all_goals ((try conv => whnf); try with_reducible exact trivial)
  refine ⟨_, rfl, ?_⟩
  (repeat' ((conv => whnf); (first | (with_reducible first | apply spl | apply spl') <;> intro hc <;> try (exfalso; omega) | with_reducible refine iJ fun hc => ?_ | refine vcq (k := ?_) | refine dr 9 (k := ?_)))); all_goals ((try conv => whnf); try with_reducible exact trivial)
theorem RAllowedN (q : Qu) (hq : q.Ok) (l : List Int) (hl : l.length ≤ 1000000) (hn : ¬ IsOrdI q.rq.length l) : PureC Tryz.prog 13 false [.agg q.c, .sl 1 l.length (rowOf intC 0 l)] (· = .tup [.kb false, .int .i64 71]) := by
  refine pureC_of_exec Tryz.E_ok Tryz.func13 rfl (by kernel_rfl) ?_
  (repeat' ((conv => whnf); (first | (with_reducible first | apply spl | apply spl') <;> intro hc <;> try (exfalso; omega) | with_reducible refine iJ fun hc => ?_ | refine vcq (k := ?_) | refine dr 9 (k := ?_)))); all_goals ((try conv => whnf); try with_reducible exact trivial)
  refine callee_fo (CheckOrderN q hq l hl hn) rfl ?_
  rintro _ rfl
  (repeat' ((conv => whnf); (first | (with_reducible first | apply spl | apply spl') <;> intro hc <;> try (exfalso; omega) | with_reducible refine iJ fun hc => ?_ | refine vcq (k := ?_) | refine dr 9 (k := ?_)))); all_goals ((try conv => whnf); try with_reducible exact trivial)
  refine ⟨_, rfl, ?_⟩
  (repeat' ((conv => whnf); (first | (with_reducible first | apply spl | apply spl') <;> intro hc <;> try (exfalso; omega) | with_reducible refine iJ fun hc => ?_ | refine vcq (k := ?_) | refine dr 9 (k := ?_)))); all_goals ((try conv => whnf); try with_reducible exact trivial)
theorem REndsN (q : Qu) (hq : q.Ok) (l : List Int) (hl : l.length ≤ 1000000) (hn : ¬ IsOrdI q.rq.length l) : PureC Tryz.prog 15 false [.agg q.c, .sl 1 l.length (rowOf intC 0 l)] (· = .tup [.lit (.slice none 0 0), .int .i64 71]) := by
  refine pureC_of_exec Tryz.E_ok Tryz.func15 rfl (by kernel_rfl) ?_
  (repeat' ((conv => whnf); (first | (with_reducible first | apply spl | apply spl') <;> intro hc <;> try (exfalso; omega) | with_reducible refine iJ fun hc => ?_ | refine vcq (k := ?_) | refine dr 9 (k := ?_)))); all_goals ((try conv => whnf); try with_reducible exact trivial)
  refine callee_fo (CheckOrderN q hq l hl hn) rfl ?_
  rintro _ rfl
  (repeat' ((conv => whnf); (first | (with_reducible first | apply spl | apply spl') <;> intro hc <;> try (exfalso; omega) | with_reducible refine iJ fun hc => ?_ | refine vcq (k := ?_) | refine dr 9 (k := ?_)))); all_goals ((try conv => whnf); try with_reducible exact trivial)
  refine ⟨_, rfl, ?_⟩
  (repeat' ((conv => whnf); (first | (with_reducible first | apply spl | apply spl') <;> intro hc <;> try (exfalso; omega) | with_reducible refine iJ fun hc => ?_ | refine vcq (k := ?_) | refine dr 9 (k := ?_)))); all_goals ((try conv => whnf); try with_reducible exact trivial)
/-! an order -/
theorem CheckOrderO (q : Qu) (hq : q.Ok) (o : List Nat) (ho : IsOrd q.rq.length o) : PureC Tryz.prog 47 false [.agg q.c, .sl 1 o.length (rowOf natC 0 o)] (· = .int .i64 0) := by
  have hrl := hq.rql
  refine pureC_of_exec Tryz.E_ok Tryz.func47 rfl (by kernel_rfl) ?_
  (repeat' ((conv => whnf); (first | (with_reducible first | apply spl | apply spl') <;> intro hc <;> try (exfalso; omega) | with_reducible refine iJ fun hc => ?_ | refine vcq (k := ?_) | refine dr 9 (k := ?_)))); all_goals ((try conv => whnf); try with_reducible exact trivial)
  refine callee_fo (chkV q hq) rfl ?_
  rintro _ rfl
  (repeat' ((conv => whnf); (first | (with_reducible first | apply spl | apply spl') <;> intro hc <;> try (exfalso; omega) | with_reducible refine iJ fun hc => ?_ | refine vcq (k := ?_) | refine dr 9 (k := ?_)))); all_goals ((try conv => whnf); try with_reducible exact trivial)
  refine callee_fo (IsOrderN q (by omega) o ho) rfl ?_
  rintro _ rfl
  (repeat' ((conv => whnf); (first | (with_reducible first | apply spl | apply spl') <;> intro hc <;> try (exfalso; omega) | with_reducible refine iJ fun hc => ?_ | refine vcq (k := ?_) | refine dr 9 (k := ?_)))); all_goals ((try conv => whnf); try with_reducible exact trivial)
  refine ⟨_, rfl, ?_⟩
  (repeat' ((conv => whnf); (first | (with_reducible first | apply spl | apply spl') <;> intro hc <;> try (exfalso; omega) | with_reducible refine iJ fun hc => ?_ | refine vcq (k := ?_) | refine dr 9 (k := ?_)))); all_goals ((try conv => whnf); try with_reducible exact trivial)
theorem RAllowedO (q : Qu) (hq : q.Ok) (o : List Nat) (ho : IsOrd q.rq.length o) : PureC Tryz.prog 13 false [.agg q.c, .sl 1 o.length (rowOf natC 0 o)] (· = .tup [.prop (AllR q.pas.toNat q.od o) (Classical.propDecidable _), .int .i64 0]) := by
  refine pureC_of_exec Tryz.E_ok Tryz.func13 rfl (by kernel_rfl) ?_
  (repeat' ((conv => whnf); (first | (with_reducible first | apply spl | apply spl') <;> intro hc <;> try (exfalso; omega) | with_reducible refine iJ fun hc => ?_ | refine vcq (k := ?_) | refine dr 9 (k := ?_)))); all_goals ((try conv => whnf); try with_reducible exact trivial)
  refine callee_fo (CheckOrderO q hq o ho) rfl ?_
  rintro _ rfl
  (repeat' ((conv => whnf); (first | (with_reducible first | apply spl | apply spl') <;> intro hc <;> try (exfalso; omega) | with_reducible refine iJ fun hc => ?_ | refine vcq (k := ?_) | refine dr 9 (k := ?_)))); all_goals ((try conv => whnf); try with_reducible exact trivial)
  refine callee_fo (IsAllowed24 q hq o ho) rfl ?_
  rintro _ rfl
  (repeat' ((conv => whnf); (first | (with_reducible first | apply spl | apply spl') <;> intro hc <;> try (exfalso; omega) | with_reducible refine iJ fun hc => ?_ | refine vcq (k := ?_) | refine dr 9 (k := ?_)))); all_goals ((try conv => whnf); try with_reducible exact trivial)
  refine ⟨_, rfl, ?_⟩
  (repeat' ((conv => whnf); (first | (with_reducible first | apply spl | apply spl') <;> intro hc <;> try (exfalso; omega) | with_reducible refine iJ fun hc => ?_ | refine vcq (k := ?_) | refine dr 9 (k := ?_)))); all_goals ((try conv => whnf); try with_reducible exact trivial)
theorem REndsO (q : Qu) (hq : q.Ok) (o : List Nat) (ho : IsOrd q.rq.length o) : PureC Tryz.prog 15 false [.agg q.c, .sl 1 o.length (rowOf natC 0 o)] (· = .tup [.sl 2 q.rq.length (fun r => [.int .i64 (q.endOf false o r), .int .i64 (q.endOf true o r)]), .int .i64 0]) := by
  have hn := hq.rql
  have hlen := ho.len
  refine pureC_of_exec Tryz.E_ok Tryz.func15 rfl (by kernel_rfl) ?_
  (repeat' ((conv => whnf); (first | (with_reducible first | apply spl | apply spl') <;> intro hc <;> try (exfalso; omega) | with_reducible refine iJ fun hc => ?_ | refine vcq (k := ?_) | refine dr 9 (k := ?_)))); all_goals ((try conv => whnf); try with_reducible exact trivial)
  refine callee_fo (CheckOrderO q hq o ho) rfl ?_
  rintro _ rfl
  (repeat' ((conv => whnf); (first | (with_reducible first | apply spl | apply spl') <;> intro hc <;> try (exfalso; omega) | with_reducible refine iJ fun hc => ?_ | refine vcq (k := ?_) | refine dr 9 (k := ?_)))); all_goals ((try conv => whnf); try with_reducible exact trivial)
  refine callee_fo (ends51 q hq o ho.lt (by omega)) rfl ?_
  rintro _ rfl
  (repeat' ((conv => whnf); (first | (with_reducible first | apply spl | apply spl') <;> intro hc <;> try (exfalso; omega) | with_reducible refine iJ fun hc => ?_ | refine vcq (k := ?_) | refine dr 9 (k := ?_)))); all_goals ((try conv => whnf); try with_reducible exact trivial)
  refine ⟨Nat, fun i => i ≤ o.length, fun i => o.length - i, fun i => [(9, .int .i64 (i : Nat))], fun i => [(1, .row 24 2 o.length (fun r => [.int .i64 (q.endTo false o i r), .int .i64 (q.endTo true o i r)]) false)], fun _ => [], 0, ⟨by omega, some [some 0, some 1], ?_⟩, ?_⟩
  · (repeat' ((conv => whnf); (first | (with_reducible first | apply spl | apply spl') <;> intro hc <;> try (exfalso; omega) | with_reducible refine iJ fun hc => ?_ | refine vcq (k := ?_) | refine dr 9 (k := ?_)))); all_goals ((try conv => whnf); try with_reducible exact trivial)
  · intro i hi
    have hi : i ≤ o.length := hi
    have hti : (i : Int).toNat = i := Int.toNat_natCast i
    (repeat' ((conv => whnf); (first | (with_reducible first | apply spl | apply spl') <;> intro hc <;> try (exfalso; omega) | with_reducible refine iJ fun hc => ?_ | refine vcq (k := ?_) | refine dr 9 (k := ?_)))); all_goals ((try conv => whnf); try with_reducible exact trivial)
    · have hil : i < o.length := by omega
      have hr : o.getD i 0 < q.rq.length := by rw [getD_get hil]; exact ho.lt _ (List.getElem_mem hil)
      have he1 := Qu.endTo_succ (q := q) (hi := false) ho hil
      have he2 := Qu.endTo_succ (q := q) (hi := true) ho hil
      rw [hti]
      (repeat' ((conv => whnf); (first | (with_reducible first | apply spl | apply spl') <;> intro hc <;> try (exfalso; omega) | with_reducible refine iJ fun hc => ?_ | refine vcq (k := ?_) | refine dr 9 (k := ?_)))); all_goals ((try conv => whnf); try with_reducible exact trivial)
      refine ⟨i + 1, ⟨by omega, by dsimp only; omega⟩, some [some 0, some 1], ?_⟩
      (repeat' ((conv => whnf); (first | (with_reducible first | apply spl | apply spl') <;> intro hc <;> try (exfalso; omega) | with_reducible refine iJ fun hc => ?_ | refine vcq (k := ?_) | refine dr 9 (k := ?_)))); all_goals ((try conv => whnf); try with_reducible exact trivial)
      refine ⟨fun r _ => ?_, ?_⟩
      · dsimp only
        rw [he1 r, he2 r, Int.toNat_natCast]
        by_cases h : r = o.getD i 0
        · rw [spliceP_pos h, if_pos h, if_pos h]
          rfl
        · rw [spliceP_neg h, if_neg h, if_neg h]
      · (repeat' ((conv => whnf); (first | (with_reducible first | apply spl | apply spl') <;> intro hc <;> try (exfalso; omega) | with_reducible refine iJ fun hc => ?_ | refine vcq (k := ?_) | refine dr 9 (k := ?_)))); all_goals ((try conv => whnf); try with_reducible exact trivial)
    · obtain rfl : i = o.length := by omega
      refine ⟨_, rfl, ?_⟩
      (repeat' ((conv => whnf); (first | (with_reducible first | apply spl | apply spl') <;> intro hc <;> try (exfalso; omega) | with_reducible refine iJ fun hc => ?_ | refine vcq (k := ?_) | refine dr 9 (k := ?_)))); all_goals ((try conv => whnf); try with_reducible exact trivial)
      refine ⟨fun r _ => by dsimp only; rw [Qu.endTo_all, Qu.endTo_all], .inr fun r _ => rfl, ?_⟩
      (repeat' ((conv => whnf); (first | (with_reducible first | apply spl | apply spl') <;> intro hc <;> try (exfalso; omega) | with_reducible refine iJ fun hc => ?_ | refine vcq (k := ?_) | refine dr 9 (k := ?_)))); all_goals ((try conv => whnf); try with_reducible exact trivial)
end Go.Proofs

namespace Go.Proofs
open Go Go.Sx
set_option maxRecDepth 100000
set_option maxHeartbeats 40000000
theorem sameNilS : PureC Tryz.prog 16 false [.lit (.slice none 0 0), .lit (.slice none 0 0)] (· = .kb true) := by
  have h := pureWk (R' := (· = V.kb true)) (sameSpans30 0 0 (fun _ => (0, 0)) (fun _ => (0, 0)) (by omega) (by omega)) fun _ e => ⟨_, rfl, fun I w v hd => by subst e; simpa [Den] using hd⟩
  refine PureC.view h ?_
  (repeat' ((conv => whnf); (first | (with_reducible first | apply spl | apply spl') <;> intro hc <;> try (exfalso; omega) | with_reducible refine iJ fun hc => ?_ | refine vcq (k := ?_) | refine dr 80807072003 (k := ?_) | refine dr 5 (k := ?_)))); all_goals ((try conv => whnf); try with_reducible exact trivial)
theorem sameSelfS (n : Nat) (f : Nat → Int × Int) (hn : n ≤ 1000000) : PureC Tryz.prog 16 false [.sl 2 n (fun i => [.int .i64 (f i).1, .int .i64 (f i).2]), .sl 2 n (fun i => [.int .i64 (f i).1, .int .i64 (f i).2])] (· = .kb true) :=
  pureWk (sameSpans30 n n f f hn hn) fun _ e => ⟨_, rfl, fun I w v hd => by subst e; simpa [Den] using hd⟩
theorem Allowed_both (q : Qu) (hz : q.d.Z.length ≤ 1000000) (hsk : q.sk.length ≤ 1000000) (hrq : q.rq.length ≤ 1000000) (hdu : q.DuR) (l : List Int) (hl : l.length ≤ 1000000) :
    ∃ (p : Prop) (e : Int), PureC Tryz.prog 12 false [.agg q.c, .sl 1 l.length (rowOf intC 0 l)] (· = .tup [.prop p (Classical.propDecidable _), .int .i64 e]) ∧ PureC Tryz.prog 13 false [.agg q.c, .sl 1 l.length (rowOf intC 0 l)] (· = .tup [.prop p (Classical.propDecidable _), .int .i64 e]) := by
  have hF : ∀ (g : FuncId) (e : Int) (args : List V), PureC Tryz.prog g false args (· = .tup [.kb false, .int .i64 e]) → PureC Tryz.prog g false args (· = .tup [.prop False (Classical.propDecidable _), .int .i64 e]) := fun g e args h =>
    pureWk h fun _ h1 => ⟨_, rfl, fun I w v hd => by subst h1; simpa [Den, DenL] using hd⟩
  by_cases hv : q.chk = 0
  · have hq := Qu.chk_ok hv
    by_cases ho : IsOrdI q.rq.length l
    · have h1 := Allowed20 q hq _ ho.ord
      have h2 := RAllowedO q hq _ ho.ord
      rw [← ho.row, List.length_map] at h1 h2
      have e := propext (allP_iff (p := q.pas.toNat) (od := q.od) ho.ord)
      refine ⟨_, _, h1, ?_⟩
      have hh : ∀ (P Q : Prop), P = Q → (V.prop P (Classical.propDecidable P)) = V.prop Q (Classical.propDecidable Q) := fun P Q h => by subst h; rfl
      rw [hh _ _ e]
      exact h2
    · exact ⟨False, 71, hF _ _ _ (AllowedN q hq l hl ho), hF _ _ _ (RAllowedN q hq l hl ho)⟩
  · exact ⟨False, q.chk, hF _ _ _ (AllowedE q hz hsk hrq hdu hv l), hF _ _ _ (RAllowedE q hz hsk hrq hv l)⟩
theorem den_nil {I : Nat → Prop} {w : World} {v : Value} {sz : Nat} {f : Nat → List V} {e : Int} (h : Den I [] w (.tup [.lit (.slice none 0 0), .int .i64 e]) v) : Den I [] w (.tup [.sl sz 0 f, .int .i64 e]) v := by
  obtain ⟨vs, rfl, v1, r1, rfl, h1, h2⟩ := h
  have h1 : v1 = .slice none 0 0 := h1
  exact ⟨_, rfl, v1, r1, rfl, .inl ⟨rfl, none, 0, h1⟩, h2⟩
theorem Ends_both (q : Qu) (hz : q.d.Z.length ≤ 1000000) (hsk : q.sk.length ≤ 1000000) (hrq : q.rq.length ≤ 1000000) (hdu : q.DuR) (l : List Int) (hl : l.length ≤ 1000000) :
    ∃ (n : Nat) (f : Nat → Int × Int) (e : Int), n ≤ 1000000 ∧ PureC Tryz.prog 14 false [.agg q.c, .sl 1 l.length (rowOf intC 0 l)] (· = .tup [.sl 2 n (fun i => [.int .i64 (f i).1, .int .i64 (f i).2]), .int .i64 e]) ∧ PureC Tryz.prog 15 false [.agg q.c, .sl 1 l.length (rowOf intC 0 l)] (· = .tup [.sl 2 n (fun i => [.int .i64 (f i).1, .int .i64 (f i).2]), .int .i64 e]) := by
  have hF : ∀ (g : FuncId) (e : Int) (args : List V), PureC Tryz.prog g false args (· = .tup [.lit (.slice none 0 0), .int .i64 e]) → PureC Tryz.prog g false args (· = .tup [.sl 2 0 (fun i => [.int .i64 ((fun _ => (0, 0) : Nat → Int × Int) i).1, .int .i64 ((fun _ => (0, 0) : Nat → Int × Int) i).2]), .int .i64 e]) := fun g e args h =>
    pureWk h fun _ h1 => ⟨_, rfl, fun I w v hd => by subst h1; exact den_nil hd⟩
  by_cases hv : q.chk = 0
  · have hq := Qu.chk_ok hv
    by_cases ho : IsOrdI q.rq.length l
    · have h1 := Ends11 q hq _ ho.ord
      have h2 := REndsO q hq _ ho.ord
      rw [← ho.row, List.length_map] at h1 h2
      exact ⟨q.rq.length, fun r => (q.endOf false (l.map Int.toNat) r, q.endOf true (l.map Int.toNat) r), 0, hrq, h1, h2⟩
    · exact ⟨0, _, 71, by omega, hF _ _ _ (EndsN q hq l hl ho), hF _ _ _ (REndsN q hq l hl ho)⟩
  · exact ⟨0, _, q.chk, by omega, hF _ _ _ (EndsE q hz hsk hrq hdu hv l), hF _ _ _ (REndsE q hz hsk hrq hv l)⟩
theorem Ends3 (q : Qu) (hz : q.d.Z.length ≤ 9223372036854775807) (hsk : q.sk.length ≤ 9223372036854775807) (hrq : q.rq.length ≤ 9223372036854775807) (hdu : q.DuR) (l : List Int) (hl : l.length ≤ 9223372036854775807) :
    PureC Tryz.prog 3 false [.agg q.c, .sl 1 l.length (rowOf intC 0 l)] (· = .prop True inferInstance) := by
  refine pureC_of_exec Tryz.E_ok Tryz.func3 rfl (by kernel_rfl) ?_
  (repeat' ((conv => whnf); (first | (with_reducible first | apply spl | apply spl') <;> intro hc <;> try (exfalso; omega) | with_reducible refine iJ fun hc => ?_ | refine vcq (k := ?_) | refine dr 80807072003 (k := ?_) | refine dr 5 (k := ?_)))); all_goals ((try conv => whnf); try with_reducible exact trivial); (repeat' ((first | (refine callee_fo (Far25 q hz hsk hrq) rfl ?_; rintro _ rfl) | (refine pcall_intro (Far25 q hz hsk hrq) rfl ?_) | (refine pcall_soft (fun _ => Far25 q hz hsk hrq) rfl ?_) | (refine callee_fo (works10) rfl ?_; rintro _ rfl) | (refine pcall_intro (works10) rfl ?_) | (refine pcall_soft (fun _ => works10) rfl ?_)); (repeat' ((conv => whnf); (first | (with_reducible first | apply spl | apply spl') <;> intro hc <;> try (exfalso; omega) | with_reducible refine iJ fun hc => ?_ | refine vcq (k := ?_) | refine dr 80807072003 (k := ?_) | refine dr 5 (k := ?_)))); all_goals ((try conv => whnf); try with_reducible exact trivial)))
  · refine ⟨_, rfl, ?_⟩
    (repeat' ((conv => whnf); (first | (with_reducible first | apply spl | apply spl') <;> intro hc <;> try (exfalso; omega) | with_reducible refine iJ fun hc => ?_ | refine vcq (k := ?_) | refine dr 80807072003 (k := ?_) | refine dr 5 (k := ?_)))); all_goals ((try conv => whnf); try with_reducible exact trivial)
  · obtain ⟨n1, n2, n3⟩ := Qu.near (q := q) (fun g => hc (.inl g))
    have hl20 : l.length ≤ 20 := by omega
    clear hc
    refine callee_fo (Copy17 q (by omega) (by omega) (by omega)) rfl ?_
    rintro _ rfl
    (repeat' ((conv => whnf); (first | (with_reducible first | apply spl | apply spl') <;> intro hc <;> try (exfalso; omega) | with_reducible refine iJ fun hc => ?_ | refine vcq (k := ?_) | refine dr 80807072003 (k := ?_) | refine dr 5 (k := ?_)))); all_goals ((try conv => whnf); try with_reducible exact trivial); (repeat' ((first | (refine callee_fo (Check10 q (by omega) (by omega) (by omega) hdu) rfl ?_; rintro _ rfl) | (refine pcall_intro (Check10 q (by omega) (by omega) (by omega) hdu) rfl ?_) | (refine pcall_soft (fun _ => Check10 q (by omega) (by omega) (by omega) hdu) rfl ?_) | (refine callee_fo (Check26 q (by omega) (by omega) (by omega)) rfl ?_; rintro _ rfl) | (refine pcall_intro (Check26 q (by omega) (by omega) (by omega)) rfl ?_) | (refine pcall_soft (fun _ => Check26 q (by omega) (by omega) (by omega)) rfl ?_)); (repeat' ((conv => whnf); (first | (with_reducible first | apply spl | apply spl') <;> intro hc <;> try (exfalso; omega) | with_reducible refine iJ fun hc => ?_ | refine vcq (k := ?_) | refine dr 80807072003 (k := ?_) | refine dr 5 (k := ?_)))); all_goals ((try conv => whnf); try with_reducible exact trivial)))
    obtain ⟨p, e, hA1, hA2⟩ := Allowed_both q (by omega) (by omega) (by omega) hdu l (by omega)
    obtain ⟨n, f, e', hn, hE1, hE2⟩ := Ends_both q (by omega) (by omega) (by omega) hdu l (by omega)
    have hsS := sameSelfS n f hn
    have hlen : 0 + l.length = l.length := by omega
    refine callee_view hA1 ?_
    (repeat' ((conv => whnf); (first | (with_reducible first | apply spl | apply spl') <;> intro hc <;> try (exfalso; omega) | with_reducible refine iJ fun hc => ?_ | refine vcq (k := ?_) | refine dr 80807072003 (k := ?_) | refine dr 5 (k := ?_)))); all_goals ((try conv => whnf); try with_reducible exact trivial)
    rintro _ rfl
    (repeat' ((conv => whnf); (first | (with_reducible first | apply spl | apply spl') <;> intro hc <;> try (exfalso; omega) | with_reducible refine iJ fun hc => ?_ | refine vcq (k := ?_) | refine dr 80807072003 (k := ?_) | refine dr 5 (k := ?_)))); all_goals ((try conv => whnf); try with_reducible exact trivial)
    refine callee_fo hA2 rfl ?_
    rintro _ rfl
    (repeat' ((conv => whnf); (first | (with_reducible first | apply spl | apply spl') <;> intro hc <;> try (exfalso; omega) | with_reducible refine iJ fun hc => ?_ | refine vcq (k := ?_) | refine dr 80807072003 (k := ?_) | refine dr 5 (k := ?_)))); all_goals ((try conv => whnf); try with_reducible exact trivial)
    refine callee_view hE1 ?_
    (repeat' ((conv => whnf); (first | (with_reducible first | apply spl | apply spl') <;> intro hc <;> try (exfalso; omega) | with_reducible refine iJ fun hc => ?_ | refine vcq (k := ?_) | refine dr 80807072003 (k := ?_) | refine dr 5 (k := ?_)))); all_goals ((try conv => whnf); try with_reducible exact trivial)
    rintro _ rfl
    (repeat' ((conv => whnf); (first | (with_reducible first | apply spl | apply spl') <;> intro hc <;> try (exfalso; omega) | with_reducible refine iJ fun hc => ?_ | refine vcq (k := ?_) | refine dr 80807072003 (k := ?_) | refine dr 5 (k := ?_)))); all_goals ((try conv => whnf); try with_reducible exact trivial)
    refine callee_fo hE2 rfl ?_
    rintro _ rfl
    (repeat' ((conv => whnf); (first | (with_reducible first | apply spl | apply spl') <;> intro hc <;> try (exfalso; omega) | with_reducible refine iJ fun hc => ?_ | refine vcq (k := ?_) | refine dr 80807072003 (k := ?_) | refine dr 5 (k := ?_)))); all_goals ((try conv => whnf); try with_reducible exact trivial); (repeat' ((first | (refine callee_fo (hsS) rfl ?_; rintro _ rfl) | (refine pcall_intro (hsS) rfl ?_) | (refine pcall_soft (fun _ => hsS) rfl ?_) | (refine callee_fo (works10) rfl ?_; rintro _ rfl) | (refine pcall_intro (works10) rfl ?_) | (refine pcall_soft (fun _ => works10) rfl ?_)); (repeat' ((conv => whnf); (first | (with_reducible first | apply spl | apply spl') <;> intro hc <;> try (exfalso; omega) | with_reducible refine iJ fun hc => ?_ | refine vcq (k := ?_) | refine dr 80807072003 (k := ?_) | refine dr 5 (k := ?_)))); all_goals ((try conv => whnf); try with_reducible exact trivial)))
    · refine ⟨_, rfl, ?_⟩
      (repeat' ((conv => whnf); (first | (with_reducible first | apply spl | apply spl') <;> intro hc <;> try (exfalso; omega) | with_reducible refine iJ fun hc => ?_ | refine vcq (k := ?_) | refine dr 80807072003 (k := ?_) | refine dr 5 (k := ?_)))); all_goals ((try conv => whnf); try with_reducible exact trivial)
    · exact absurd ⟨Iff.rfl, rfl⟩ hc
end Go.Proofs
