/- Own work: texts of the proof of a law (Sh10, Sh11, Sh12, Sh13, ShN, Sh16, Sh17, Sh19). No condition. -/
import Derived.Test.YtdjkkkkhlgdopaaPart11
namespace Go.Proofs
open Go Go.Sx
set_option maxRecDepth 100000
set_option maxHeartbeats 4000000
-- SxAid2

theorem due31 (b : Bands) (l : List (Int × Int)) (hl : l.length ≤ 8000) : PureC Try.prog 31 false [b.v, .sl 2 l.length (rowOf wC (0, 0) l)] (· = .tup [.sl 1 (resB b l) (fun j => [.int .i64 (b.L - (resR b l).cnt j)]), .int .i64 (chk b l)]) := by
  refine pureC_of_exec Try.E_ok Try.func31 rfl (by kernel_rfl) ?_
  (repeat' ((conv => whnf); (first | ((with_reducible refine spl (fun hc => ?_) (fun hc => ?_)) <;> (try (exfalso; omega))) | ((with_reducible refine spl' (fun hc => ?_) (fun hc => ?_)) <;> (try (exfalso; omega))) | (with_reducible refine imp_intro (fun hc => ?_)) | refine vcq (k := ?_) | refine dr 1 (k := ?_) | refine dr 2 (k := ?_) | refine dr 3 (k := ?_) | refine dr 4 (k := ?_) | refine dr 5 (k := ?_) | refine dr 6 (k := ?_) | refine dr 7 (k := ?_) | refine dr 8 (k := ?_) | refine dr 9 (k := ?_) | refine dr 10 (k := ?_) | refine dr 11 (k := ?_) | refine dr 12 (k := ?_) | refine dr 1001 (k := ?_) | refine dr 1002 (k := ?_) | refine dr 1003 (k := ?_) | refine dr 1004 (k := ?_) | refine dr 1005 (k := ?_) | refine dr 1006 (k := ?_) | refine dr 1007 (k := ?_) | refine dr 1008 (k := ?_) | refine dr 1009 (k := ?_) | refine dr 1010 (k := ?_) | refine dr 1011 (k := ?_) | refine dr 1012 (k := ?_) | refine dr 1013 (k := ?_) | refine dr 1014 (k := ?_) | refine dr 1015 (k := ?_) | refine dr 1016 (k := ?_) | fail))); (all_goals (try (conv => whnf))); (all_goals (try (with_reducible exact trivial)))
  refine callee_fo (check28 b l hl) rfl ?_
  rintro _ rfl
  (repeat' ((conv => whnf); (first | ((with_reducible refine spl (fun hc => ?_) (fun hc => ?_)) <;> (try (exfalso; omega))) | ((with_reducible refine spl' (fun hc => ?_) (fun hc => ?_)) <;> (try (exfalso; omega))) | (with_reducible refine imp_intro (fun hc => ?_)) | refine vcq (k := ?_) | refine dr 1 (k := ?_) | refine dr 2 (k := ?_) | refine dr 3 (k := ?_) | refine dr 4 (k := ?_) | refine dr 5 (k := ?_) | refine dr 6 (k := ?_) | refine dr 7 (k := ?_) | refine dr 8 (k := ?_) | refine dr 9 (k := ?_) | refine dr 10 (k := ?_) | refine dr 11 (k := ?_) | refine dr 12 (k := ?_) | refine dr 1001 (k := ?_) | refine dr 1002 (k := ?_) | refine dr 1003 (k := ?_) | refine dr 1004 (k := ?_) | refine dr 1005 (k := ?_) | refine dr 1006 (k := ?_) | refine dr 1007 (k := ?_) | refine dr 1008 (k := ?_) | refine dr 1009 (k := ?_) | refine dr 1010 (k := ?_) | refine dr 1011 (k := ?_) | refine dr 1012 (k := ?_) | refine dr 1013 (k := ?_) | refine dr 1014 (k := ?_) | refine dr 1015 (k := ?_) | refine dr 1016 (k := ?_) | fail))); (all_goals (try (conv => whnf))); (all_goals (try (with_reducible exact trivial)))
  · unfold resB resR
    rw [if_neg hc, if_neg hc]
    refine ⟨_, rfl, ?_⟩
    (repeat' ((conv => whnf); (first | ((with_reducible refine spl (fun hc => ?_) (fun hc => ?_)) <;> (try (exfalso; omega))) | ((with_reducible refine spl' (fun hc => ?_) (fun hc => ?_)) <;> (try (exfalso; omega))) | (with_reducible refine imp_intro (fun hc => ?_)) | refine vcq (k := ?_) | refine dr 1 (k := ?_) | refine dr 2 (k := ?_) | refine dr 3 (k := ?_) | refine dr 4 (k := ?_) | refine dr 5 (k := ?_) | refine dr 6 (k := ?_) | refine dr 7 (k := ?_) | refine dr 8 (k := ?_) | refine dr 9 (k := ?_) | refine dr 10 (k := ?_) | refine dr 11 (k := ?_) | refine dr 12 (k := ?_) | refine dr 1001 (k := ?_) | refine dr 1002 (k := ?_) | refine dr 1003 (k := ?_) | refine dr 1004 (k := ?_) | refine dr 1005 (k := ?_) | refine dr 1006 (k := ?_) | refine dr 1007 (k := ?_) | refine dr 1008 (k := ?_) | refine dr 1009 (k := ?_) | refine dr 1010 (k := ?_) | refine dr 1011 (k := ?_) | refine dr 1012 (k := ?_) | refine dr 1013 (k := ?_) | refine dr 1014 (k := ?_) | refine dr 1015 (k := ?_) | refine dr 1016 (k := ?_) | fail))); (all_goals (try (conv => whnf))); (all_goals (try (with_reducible exact trivial)))
  · have hz := Classical.not_not.1 hc
    obtain ⟨hb, h1, h2⟩ := chk_ok hz
    obtain ⟨o1, o2⟩ := run_ok hb h2.inB
    have hB := hb.B
    have hL := hb.L
    unfold resB resR
    rw [if_pos hz, if_pos hz]
    refine callee_new (run38 b hb l hl h2.inB) rfl ?_
    rintro _ _ ⟨g, rfl, rfl⟩
    (repeat' ((conv => whnf); (first | ((with_reducible refine spl (fun hc => ?_) (fun hc => ?_)) <;> (try (exfalso; omega))) | ((with_reducible refine spl' (fun hc => ?_) (fun hc => ?_)) <;> (try (exfalso; omega))) | (with_reducible refine imp_intro (fun hc => ?_)) | refine vcq (k := ?_) | refine dr 1 (k := ?_) | refine dr 2 (k := ?_) | refine dr 3 (k := ?_) | refine dr 4 (k := ?_) | refine dr 5 (k := ?_) | refine dr 6 (k := ?_) | refine dr 7 (k := ?_) | refine dr 8 (k := ?_) | refine dr 9 (k := ?_) | refine dr 10 (k := ?_) | refine dr 11 (k := ?_) | refine dr 12 (k := ?_) | refine dr 1001 (k := ?_) | refine dr 1002 (k := ?_) | refine dr 1003 (k := ?_) | refine dr 1004 (k := ?_) | refine dr 1005 (k := ?_) | refine dr 1006 (k := ?_) | refine dr 1007 (k := ?_) | refine dr 1008 (k := ?_) | refine dr 1009 (k := ?_) | refine dr 1010 (k := ?_) | refine dr 1011 (k := ?_) | refine dr 1012 (k := ?_) | refine dr 1013 (k := ?_) | refine dr 1014 (k := ?_) | refine dr 1015 (k := ?_) | refine dr 1016 (k := ?_) | fail))); (all_goals (try (conv => whnf))); (all_goals (try (with_reducible exact trivial)))
    refine ⟨Nat, fun i => i ≤ b.B.toNat, fun i => b.B.toNat - i, fun i => [(24, .int .i64 i), (7, .osl 5 i)], fun _ => [], fun i => [.row 3 1 i (fun j => [.int .i64 (b.L - (St.run b l).cnt j)]) true], 0, ⟨by omega, some [some 0, some 1, some 2, some 3, some 4, none], ?_⟩, ?_⟩
    · (repeat' ((conv => whnf); (first | ((with_reducible refine spl (fun hc => ?_) (fun hc => ?_)) <;> (try (exfalso; omega))) | ((with_reducible refine spl' (fun hc => ?_) (fun hc => ?_)) <;> (try (exfalso; omega))) | (with_reducible refine imp_intro (fun hc => ?_)) | refine vcq (k := ?_) | refine dr 1 (k := ?_) | refine dr 2 (k := ?_) | refine dr 3 (k := ?_) | refine dr 4 (k := ?_) | refine dr 5 (k := ?_) | refine dr 6 (k := ?_) | refine dr 7 (k := ?_) | refine dr 8 (k := ?_) | refine dr 9 (k := ?_) | refine dr 10 (k := ?_) | refine dr 11 (k := ?_) | refine dr 12 (k := ?_) | refine dr 1001 (k := ?_) | refine dr 1002 (k := ?_) | refine dr 1003 (k := ?_) | refine dr 1004 (k := ?_) | refine dr 1005 (k := ?_) | refine dr 1006 (k := ?_) | refine dr 1007 (k := ?_) | refine dr 1008 (k := ?_) | refine dr 1009 (k := ?_) | refine dr 1010 (k := ?_) | refine dr 1011 (k := ?_) | refine dr 1012 (k := ?_) | refine dr 1013 (k := ?_) | refine dr 1014 (k := ?_) | refine dr 1015 (k := ?_) | refine dr 1016 (k := ?_) | fail))); (all_goals (try (conv => whnf))); (all_goals (try (with_reducible exact trivial)))
    · intro i hi
      have hci := o1.cnt ((i : Int).toNat)
      have hti : (i : Int).toNat = i := Int.toNat_natCast i
      (repeat' ((conv => whnf); (first | ((with_reducible refine spl (fun hc => ?_) (fun hc => ?_)) <;> (try (exfalso; omega))) | ((with_reducible refine spl' (fun hc => ?_) (fun hc => ?_)) <;> (try (exfalso; omega))) | (with_reducible refine imp_intro (fun hc => ?_)) | refine vcq (k := ?_) | refine dr 1 (k := ?_) | refine dr 2 (k := ?_) | refine dr 3 (k := ?_) | refine dr 4 (k := ?_) | refine dr 5 (k := ?_) | refine dr 6 (k := ?_) | refine dr 7 (k := ?_) | refine dr 8 (k := ?_) | refine dr 9 (k := ?_) | refine dr 10 (k := ?_) | refine dr 11 (k := ?_) | refine dr 12 (k := ?_) | refine dr 1001 (k := ?_) | refine dr 1002 (k := ?_) | refine dr 1003 (k := ?_) | refine dr 1004 (k := ?_) | refine dr 1005 (k := ?_) | refine dr 1006 (k := ?_) | refine dr 1007 (k := ?_) | refine dr 1008 (k := ?_) | refine dr 1009 (k := ?_) | refine dr 1010 (k := ?_) | refine dr 1011 (k := ?_) | refine dr 1012 (k := ?_) | refine dr 1013 (k := ?_) | refine dr 1014 (k := ?_) | refine dr 1015 (k := ?_) | refine dr 1016 (k := ?_) | fail))); (all_goals (try (conv => whnf))); (all_goals (try (with_reducible exact trivial)))
      · refine ⟨i + 1, ⟨by omega, by dsimp only; omega⟩, some [some 0, some 1, some 2, some 3, some 4, some 7], ?_⟩
        (repeat' ((conv => whnf); (first | ((with_reducible refine spl (fun hc => ?_) (fun hc => ?_)) <;> (try (exfalso; omega))) | ((with_reducible refine spl' (fun hc => ?_) (fun hc => ?_)) <;> (try (exfalso; omega))) | (with_reducible refine imp_intro (fun hc => ?_)) | refine vcq (k := ?_) | refine dr 1 (k := ?_) | refine dr 2 (k := ?_) | refine dr 3 (k := ?_) | refine dr 4 (k := ?_) | refine dr 5 (k := ?_) | refine dr 6 (k := ?_) | refine dr 7 (k := ?_) | refine dr 8 (k := ?_) | refine dr 9 (k := ?_) | refine dr 10 (k := ?_) | refine dr 11 (k := ?_) | refine dr 12 (k := ?_) | refine dr 1001 (k := ?_) | refine dr 1002 (k := ?_) | refine dr 1003 (k := ?_) | refine dr 1004 (k := ?_) | refine dr 1005 (k := ?_) | refine dr 1006 (k := ?_) | refine dr 1007 (k := ?_) | refine dr 1008 (k := ?_) | refine dr 1009 (k := ?_) | refine dr 1010 (k := ?_) | refine dr 1011 (k := ?_) | refine dr 1012 (k := ?_) | refine dr 1013 (k := ?_) | refine dr 1014 (k := ?_) | refine dr 1015 (k := ?_) | refine dr 1016 (k := ?_) | fail))); (all_goals (try (conv => whnf))); (all_goals (try (with_reducible exact trivial)))
        refine ⟨appF_snoc (fun _ _ => rfl) (by rw [hti]), ?_⟩
        (repeat' ((conv => whnf); (first | ((with_reducible refine spl (fun hc => ?_) (fun hc => ?_)) <;> (try (exfalso; omega))) | ((with_reducible refine spl' (fun hc => ?_) (fun hc => ?_)) <;> (try (exfalso; omega))) | (with_reducible refine imp_intro (fun hc => ?_)) | refine vcq (k := ?_) | refine dr 1 (k := ?_) | refine dr 2 (k := ?_) | refine dr 3 (k := ?_) | refine dr 4 (k := ?_) | refine dr 5 (k := ?_) | refine dr 6 (k := ?_) | refine dr 7 (k := ?_) | refine dr 8 (k := ?_) | refine dr 9 (k := ?_) | refine dr 10 (k := ?_) | refine dr 11 (k := ?_) | refine dr 12 (k := ?_) | refine dr 1001 (k := ?_) | refine dr 1002 (k := ?_) | refine dr 1003 (k := ?_) | refine dr 1004 (k := ?_) | refine dr 1005 (k := ?_) | refine dr 1006 (k := ?_) | refine dr 1007 (k := ?_) | refine dr 1008 (k := ?_) | refine dr 1009 (k := ?_) | refine dr 1010 (k := ?_) | refine dr 1011 (k := ?_) | refine dr 1012 (k := ?_) | refine dr 1013 (k := ?_) | refine dr 1014 (k := ?_) | refine dr 1015 (k := ?_) | refine dr 1016 (k := ?_) | fail))); (all_goals (try (conv => whnf))); (all_goals (try (with_reducible exact trivial)))
      · obtain rfl : i = b.B.toNat := by omega
        refine ⟨_, rfl, ?_⟩
        (repeat' ((conv => whnf); (first | ((with_reducible refine spl (fun hc => ?_) (fun hc => ?_)) <;> (try (exfalso; omega))) | ((with_reducible refine spl' (fun hc => ?_) (fun hc => ?_)) <;> (try (exfalso; omega))) | (with_reducible refine imp_intro (fun hc => ?_)) | refine vcq (k := ?_) | refine dr 1 (k := ?_) | refine dr 2 (k := ?_) | refine dr 3 (k := ?_) | refine dr 4 (k := ?_) | refine dr 5 (k := ?_) | refine dr 6 (k := ?_) | refine dr 7 (k := ?_) | refine dr 8 (k := ?_) | refine dr 9 (k := ?_) | refine dr 10 (k := ?_) | refine dr 11 (k := ?_) | refine dr 12 (k := ?_) | refine dr 1001 (k := ?_) | refine dr 1002 (k := ?_) | refine dr 1003 (k := ?_) | refine dr 1004 (k := ?_) | refine dr 1005 (k := ?_) | refine dr 1006 (k := ?_) | refine dr 1007 (k := ?_) | refine dr 1008 (k := ?_) | refine dr 1009 (k := ?_) | refine dr 1010 (k := ?_) | refine dr 1011 (k := ?_) | refine dr 1012 (k := ?_) | refine dr 1013 (k := ?_) | refine dr 1014 (k := ?_) | refine dr 1015 (k := ?_) | refine dr 1016 (k := ?_) | fail))); (all_goals (try (conv => whnf))); (all_goals (try (with_reducible exact trivial)))

/-- one more write of a block -/
theorem price25 (b : Bands) (l : List (Int × Int)) (hl : l.length ≤ 8000) (n : Int) : PureC Try.prog 25 false [b.v, .sl 2 l.length (rowOf wC (0, 0) l), .int .i64 n] (· = .tup [.int .i64 (if chk b l = 0 ∧ 0 ≤ n ∧ n < b.N then ((St.run b l).write b (n, 0)).cost - (St.run b l).cost else 0), .int .i64 (if chk b l = 0 then (if 0 ≤ n ∧ n < b.N then 0 else 1) else chk b l)]) := by
  refine pureC_of_exec Try.E_ok Try.func25 rfl (by kernel_rfl) ?_
  (repeat' ((conv => whnf); (first | ((with_reducible refine spl (fun hc => ?_) (fun hc => ?_)) <;> (try (exfalso; omega))) | ((with_reducible refine spl' (fun hc => ?_) (fun hc => ?_)) <;> (try (exfalso; omega))) | (with_reducible refine imp_intro (fun hc => ?_)) | refine vcq (k := ?_) | refine dr 1 (k := ?_) | refine dr 2 (k := ?_) | refine dr 3 (k := ?_) | refine dr 4 (k := ?_) | refine dr 5 (k := ?_) | refine dr 6 (k := ?_) | refine dr 7 (k := ?_) | refine dr 8 (k := ?_) | refine dr 9 (k := ?_) | refine dr 10 (k := ?_) | refine dr 11 (k := ?_) | refine dr 12 (k := ?_) | refine dr 1001 (k := ?_) | refine dr 1002 (k := ?_) | refine dr 1003 (k := ?_) | refine dr 1004 (k := ?_) | refine dr 1005 (k := ?_) | refine dr 1006 (k := ?_) | refine dr 1007 (k := ?_) | refine dr 1008 (k := ?_) | refine dr 1009 (k := ?_) | refine dr 1010 (k := ?_) | refine dr 1011 (k := ?_) | refine dr 1012 (k := ?_) | refine dr 1013 (k := ?_) | refine dr 1014 (k := ?_) | refine dr 1015 (k := ?_) | refine dr 1016 (k := ?_) | fail))); (all_goals (try (conv => whnf))); (all_goals (try (with_reducible exact trivial)))
  refine callee_fo (check28 b l hl) rfl ?_
  rintro _ rfl
  (repeat' ((conv => whnf); (first | ((with_reducible refine spl (fun hc => ?_) (fun hc => ?_)) <;> (try (exfalso; omega))) | ((with_reducible refine spl' (fun hc => ?_) (fun hc => ?_)) <;> (try (exfalso; omega))) | (with_reducible refine imp_intro (fun hc => ?_)) | refine vcq (k := ?_) | refine dr 1 (k := ?_) | refine dr 2 (k := ?_) | refine dr 3 (k := ?_) | refine dr 4 (k := ?_) | refine dr 5 (k := ?_) | refine dr 6 (k := ?_) | refine dr 7 (k := ?_) | refine dr 8 (k := ?_) | refine dr 9 (k := ?_) | refine dr 10 (k := ?_) | refine dr 11 (k := ?_) | refine dr 12 (k := ?_) | refine dr 1001 (k := ?_) | refine dr 1002 (k := ?_) | refine dr 1003 (k := ?_) | refine dr 1004 (k := ?_) | refine dr 1005 (k := ?_) | refine dr 1006 (k := ?_) | refine dr 1007 (k := ?_) | refine dr 1008 (k := ?_) | refine dr 1009 (k := ?_) | refine dr 1010 (k := ?_) | refine dr 1011 (k := ?_) | refine dr 1012 (k := ?_) | refine dr 1013 (k := ?_) | refine dr 1014 (k := ?_) | refine dr 1015 (k := ?_) | refine dr 1016 (k := ?_) | fail))); (all_goals (try (conv => whnf))); (all_goals (try (with_reducible exact trivial)))
  · rw [if_neg (fun h => hc h.1), if_neg hc]
    refine ⟨_, rfl, ?_⟩
    (repeat' ((conv => whnf); (first | ((with_reducible refine spl (fun hc => ?_) (fun hc => ?_)) <;> (try (exfalso; omega))) | ((with_reducible refine spl' (fun hc => ?_) (fun hc => ?_)) <;> (try (exfalso; omega))) | (with_reducible refine imp_intro (fun hc => ?_)) | refine vcq (k := ?_) | refine dr 1 (k := ?_) | refine dr 2 (k := ?_) | refine dr 3 (k := ?_) | refine dr 4 (k := ?_) | refine dr 5 (k := ?_) | refine dr 6 (k := ?_) | refine dr 7 (k := ?_) | refine dr 8 (k := ?_) | refine dr 9 (k := ?_) | refine dr 10 (k := ?_) | refine dr 11 (k := ?_) | refine dr 12 (k := ?_) | refine dr 1001 (k := ?_) | refine dr 1002 (k := ?_) | refine dr 1003 (k := ?_) | refine dr 1004 (k := ?_) | refine dr 1005 (k := ?_) | refine dr 1006 (k := ?_) | refine dr 1007 (k := ?_) | refine dr 1008 (k := ?_) | refine dr 1009 (k := ?_) | refine dr 1010 (k := ?_) | refine dr 1011 (k := ?_) | refine dr 1012 (k := ?_) | refine dr 1013 (k := ?_) | refine dr 1014 (k := ?_) | refine dr 1015 (k := ?_) | refine dr 1016 (k := ?_) | fail))); (all_goals (try (conv => whnf))); (all_goals (try (with_reducible exact trivial)))
  · have hz := Classical.not_not.1 hc
    obtain ⟨hb, h1, h2⟩ := chk_ok hz
    obtain ⟨o1, o2⟩ := run_ok hb h2.inB
    rw [if_pos hz]
    refine callee_fo (isBlock37 b hb n) rfl ?_
    rintro _ rfl
    (repeat' ((conv => whnf); (first | ((with_reducible refine spl (fun hc => ?_) (fun hc => ?_)) <;> (try (exfalso; omega))) | ((with_reducible refine spl' (fun hc => ?_) (fun hc => ?_)) <;> (try (exfalso; omega))) | (with_reducible refine imp_intro (fun hc => ?_)) | refine vcq (k := ?_) | refine dr 1 (k := ?_) | refine dr 2 (k := ?_) | refine dr 3 (k := ?_) | refine dr 4 (k := ?_) | refine dr 5 (k := ?_) | refine dr 6 (k := ?_) | refine dr 7 (k := ?_) | refine dr 8 (k := ?_) | refine dr 9 (k := ?_) | refine dr 10 (k := ?_) | refine dr 11 (k := ?_) | refine dr 12 (k := ?_) | refine dr 1001 (k := ?_) | refine dr 1002 (k := ?_) | refine dr 1003 (k := ?_) | refine dr 1004 (k := ?_) | refine dr 1005 (k := ?_) | refine dr 1006 (k := ?_) | refine dr 1007 (k := ?_) | refine dr 1008 (k := ?_) | refine dr 1009 (k := ?_) | refine dr 1010 (k := ?_) | refine dr 1011 (k := ?_) | refine dr 1012 (k := ?_) | refine dr 1013 (k := ?_) | refine dr 1014 (k := ?_) | refine dr 1015 (k := ?_) | refine dr 1016 (k := ?_) | fail))); (all_goals (try (conv => whnf))); (all_goals (try (with_reducible exact trivial)))
    · rw [if_neg (fun h => hc h.2), if_neg hc]
      refine ⟨_, rfl, ?_⟩
      (repeat' ((conv => whnf); (first | ((with_reducible refine spl (fun hc => ?_) (fun hc => ?_)) <;> (try (exfalso; omega))) | ((with_reducible refine spl' (fun hc => ?_) (fun hc => ?_)) <;> (try (exfalso; omega))) | (with_reducible refine imp_intro (fun hc => ?_)) | refine vcq (k := ?_) | refine dr 1 (k := ?_) | refine dr 2 (k := ?_) | refine dr 3 (k := ?_) | refine dr 4 (k := ?_) | refine dr 5 (k := ?_) | refine dr 6 (k := ?_) | refine dr 7 (k := ?_) | refine dr 8 (k := ?_) | refine dr 9 (k := ?_) | refine dr 10 (k := ?_) | refine dr 11 (k := ?_) | refine dr 12 (k := ?_) | refine dr 1001 (k := ?_) | refine dr 1002 (k := ?_) | refine dr 1003 (k := ?_) | refine dr 1004 (k := ?_) | refine dr 1005 (k := ?_) | refine dr 1006 (k := ?_) | refine dr 1007 (k := ?_) | refine dr 1008 (k := ?_) | refine dr 1009 (k := ?_) | refine dr 1010 (k := ?_) | refine dr 1011 (k := ?_) | refine dr 1012 (k := ?_) | refine dr 1013 (k := ?_) | refine dr 1014 (k := ?_) | refine dr 1015 (k := ?_) | refine dr 1016 (k := ?_) | fail))); (all_goals (try (conv => whnf))); (all_goals (try (with_reducible exact trivial)))
    · have hn := Classical.not_not.1 hc
      rw [if_pos ⟨hz, hn⟩, if_pos hn]
      refine callee_new (run38 b hb l hl h2.inB) rfl ?_
      rintro _ _ ⟨g, rfl, rfl⟩
      have q1 := o2.1
      have q2 := o2.2
      have q3 := o2.3
      have q4 := (write_small hb o2 (w := (n, 0))).1
      (repeat' ((conv => whnf); (first | ((with_reducible refine spl (fun hc => ?_) (fun hc => ?_)) <;> (try (exfalso; omega))) | ((with_reducible refine spl' (fun hc => ?_) (fun hc => ?_)) <;> (try (exfalso; omega))) | (with_reducible refine imp_intro (fun hc => ?_)) | refine vcq (k := ?_) | refine dr 1 (k := ?_) | refine dr 2 (k := ?_) | refine dr 3 (k := ?_) | refine dr 4 (k := ?_) | refine dr 5 (k := ?_) | refine dr 6 (k := ?_) | refine dr 7 (k := ?_) | refine dr 8 (k := ?_) | refine dr 9 (k := ?_) | refine dr 10 (k := ?_) | refine dr 11 (k := ?_) | refine dr 12 (k := ?_) | refine dr 1001 (k := ?_) | refine dr 1002 (k := ?_) | refine dr 1003 (k := ?_) | refine dr 1004 (k := ?_) | refine dr 1005 (k := ?_) | refine dr 1006 (k := ?_) | refine dr 1007 (k := ?_) | refine dr 1008 (k := ?_) | refine dr 1009 (k := ?_) | refine dr 1010 (k := ?_) | refine dr 1011 (k := ?_) | refine dr 1012 (k := ?_) | refine dr 1013 (k := ?_) | refine dr 1014 (k := ?_) | refine dr 1015 (k := ?_) | refine dr 1016 (k := ?_) | fail))); (all_goals (try (conv => whnf))); (all_goals (try (with_reducible exact trivial)))
      refine callee_frame [1, 2, 3, 4] (write44 b hb _ o1 ⟨by omega, by omega, by omega⟩ g (n, 0) hn) rfl ?_ ?_
      · (repeat' ((conv => whnf); (first | ((with_reducible refine spl (fun hc => ?_) (fun hc => ?_)) <;> (try (exfalso; omega))) | ((with_reducible refine spl' (fun hc => ?_) (fun hc => ?_)) <;> (try (exfalso; omega))) | (with_reducible refine imp_intro (fun hc => ?_)) | refine vcq (k := ?_) | refine dr 1 (k := ?_) | refine dr 2 (k := ?_) | refine dr 3 (k := ?_) | refine dr 4 (k := ?_) | refine dr 5 (k := ?_) | refine dr 6 (k := ?_) | refine dr 7 (k := ?_) | refine dr 8 (k := ?_) | refine dr 9 (k := ?_) | refine dr 10 (k := ?_) | refine dr 11 (k := ?_) | refine dr 12 (k := ?_) | refine dr 1001 (k := ?_) | refine dr 1002 (k := ?_) | refine dr 1003 (k := ?_) | refine dr 1004 (k := ?_) | refine dr 1005 (k := ?_) | refine dr 1006 (k := ?_) | refine dr 1007 (k := ?_) | refine dr 1008 (k := ?_) | refine dr 1009 (k := ?_) | refine dr 1010 (k := ?_) | refine dr 1011 (k := ?_) | refine dr 1012 (k := ?_) | refine dr 1013 (k := ?_) | refine dr 1014 (k := ?_) | refine dr 1015 (k := ?_) | refine dr 1016 (k := ?_) | fail))); (all_goals (try (conv => whnf))); (all_goals (try (with_reducible exact trivial)))
      · rintro _ _ ⟨rfl, g', rfl⟩
        (repeat' ((conv => whnf); (first | ((with_reducible refine spl (fun hc => ?_) (fun hc => ?_)) <;> (try (exfalso; omega))) | ((with_reducible refine spl' (fun hc => ?_) (fun hc => ?_)) <;> (try (exfalso; omega))) | (with_reducible refine imp_intro (fun hc => ?_)) | refine vcq (k := ?_) | refine dr 1 (k := ?_) | refine dr 2 (k := ?_) | refine dr 3 (k := ?_) | refine dr 4 (k := ?_) | refine dr 5 (k := ?_) | refine dr 6 (k := ?_) | refine dr 7 (k := ?_) | refine dr 8 (k := ?_) | refine dr 9 (k := ?_) | refine dr 10 (k := ?_) | refine dr 11 (k := ?_) | refine dr 12 (k := ?_) | refine dr 1001 (k := ?_) | refine dr 1002 (k := ?_) | refine dr 1003 (k := ?_) | refine dr 1004 (k := ?_) | refine dr 1005 (k := ?_) | refine dr 1006 (k := ?_) | refine dr 1007 (k := ?_) | refine dr 1008 (k := ?_) | refine dr 1009 (k := ?_) | refine dr 1010 (k := ?_) | refine dr 1011 (k := ?_) | refine dr 1012 (k := ?_) | refine dr 1013 (k := ?_) | refine dr 1014 (k := ?_) | refine dr 1015 (k := ?_) | refine dr 1016 (k := ?_) | fail))); (all_goals (try (conv => whnf))); (all_goals (try (with_reducible exact trivial)))
        refine ⟨_, rfl, ?_⟩
        (repeat' ((conv => whnf); (first | ((with_reducible refine spl (fun hc => ?_) (fun hc => ?_)) <;> (try (exfalso; omega))) | ((with_reducible refine spl' (fun hc => ?_) (fun hc => ?_)) <;> (try (exfalso; omega))) | (with_reducible refine imp_intro (fun hc => ?_)) | refine vcq (k := ?_) | refine dr 1 (k := ?_) | refine dr 2 (k := ?_) | refine dr 3 (k := ?_) | refine dr 4 (k := ?_) | refine dr 5 (k := ?_) | refine dr 6 (k := ?_) | refine dr 7 (k := ?_) | refine dr 8 (k := ?_) | refine dr 9 (k := ?_) | refine dr 10 (k := ?_) | refine dr 11 (k := ?_) | refine dr 12 (k := ?_) | refine dr 1001 (k := ?_) | refine dr 1002 (k := ?_) | refine dr 1003 (k := ?_) | refine dr 1004 (k := ?_) | refine dr 1005 (k := ?_) | refine dr 1006 (k := ?_) | refine dr 1007 (k := ?_) | refine dr 1008 (k := ?_) | refine dr 1009 (k := ?_) | refine dr 1010 (k := ?_) | refine dr 1011 (k := ?_) | refine dr 1012 (k := ?_) | refine dr 1013 (k := ?_) | refine dr 1014 (k := ?_) | refine dr 1015 (k := ?_) | refine dr 1016 (k := ?_) | fail))); (all_goals (try (conv => whnf))); (all_goals (try (with_reducible exact trivial)))

theorem lowest_filter {b : Bands} {band band' : Int} (h : band' ≠ band) : ∀ ks : List Int, b.lowest band' (ks.filter (fun n => !(b.bd n == band))) = b.lowest band' ks
  | [] => rfl
  | x :: ks => by
    have ih := lowest_filter (b := b) h ks
    by_cases hx : b.bd x = band
    · rw [List.filter_cons_of_neg (by simp [hx]), ih]
      simp only [Bands.lowest]
      rw [if_neg (by omega)]
    · rw [List.filter_cons_of_pos (by simp [hx])]
      simp only [Bands.lowest, ih]

theorem slots_filter {b : Bands} {band band' : Int} (h : band' ≠ band) : ∀ ks : List Int, b.slots band' (ks.filter (fun n => !(b.bd n == band))) = b.slots band' ks
  | [] => rfl
  | x :: ks => by
    have ih := slots_filter (b := b) h ks
    by_cases hx : b.bd x = band
    · rw [List.filter_cons_of_neg (by simp [hx]), ih]
      simp only [Bands.slots]
      rw [if_neg (by omega)]
    · rw [List.filter_cons_of_pos (by simp [hx])]
      simp only [Bands.slots, ih]

theorem clean_keys {b : Bands} {s : St} {band : Int} : (s.clean b band).keys = s.keys.filter (fun n => !(b.bd n == band)) := by
  unfold St.keys
  rw [clean_cch]
  induction s.cch with
  | nil => rfl
  | cons x l ih =>
    by_cases hx : b.bd x.1 = band
    · rw [List.filter_cons_of_neg (by simp [hx]), ih, List.map_cons, List.filter_cons_of_neg (by simp [hx])]
    · rw [List.filter_cons_of_pos (by simp [hx]), List.map_cons, ih, List.map_cons, List.filter_cons_of_pos (by simp [hx])]

/-- all bands with blocks in the cache are cleaned -/
def St.flush (b : Bands) (s : St) : St := (b.jobs s.keys).foldl (fun s j => s.clean b j.1) s

theorem jobs_mem {b : Bands} {ks : List Int} {j : Job} (h : j ∈ b.jobs ks) : ∃ i : Nat, (i : Int) < b.B ∧ b.slots i ks ≠ 0 ∧ j = ((i : Int), b.costOf ks i, b.slots i ks) := by
  obtain ⟨h1, h2⟩ := List.mem_filter.1 h
  obtain ⟨i, hi, rfl⟩ := List.mem_map.1 h1
  have hs := has_jobOf.1 h2
  refine ⟨i, by have := List.mem_range.1 hi; omega, hs, ?_⟩
  unfold Bands.jobOf
  rw [if_neg hs]

theorem jobs_distinct {b : Bands} {ks : List Int} : (b.jobs ks).Pairwise (fun j j' => j.1 ≠ j'.1) := by
  unfold Bands.jobs
  rw [List.filter_map, List.pairwise_map]
  have h0 : (List.range b.B.toNat).Pairwise (fun i j => i < j) := List.pairwise_lt_range
  refine List.Pairwise.imp_of_mem ?_ (h0.filter _)
  intro i j hi hj hij
  have hi' := has_jobOf.1 (List.mem_filter.1 hi).2
  have hj' := has_jobOf.1 (List.mem_filter.1 hj).2
  unfold Bands.jobOf
  simp only [hi', hj', if_false]
  omega

theorem drop_getD {α : Type} {l : List α} (d : α) {i : Nat} (h : i < l.length) : l.drop i = l.getD i d :: l.drop (i + 1) := by
  rw [List.drop_eq_getElem_cons h, List.getD_eq_getElem?_getD, List.getElem?_eq_getElem h]
  rfl

open Classical in
noncomputable def resF (b : Bands) (l : List (Int × Int)) : St := if chk b l = 0 then (St.run b l).flush b else St.begin

theorem flush17 (b : Bands) (l : List (Int × Int)) (hl : l.length ≤ 8000) : PureC Try.prog 17 false [b.v, .sl 2 l.length (rowOf wC (0, 0) l)] (· = .tup [stV (resN b l) (resB b l) (resF b l), .int .i64 (chk b l)]) := by
  refine pureC_of_exec Try.E_ok Try.func17 rfl (by kernel_rfl) ?_
  (repeat' ((conv => whnf); (first | ((with_reducible refine spl (fun hc => ?_) (fun hc => ?_)) <;> (try (exfalso; omega))) | ((with_reducible refine spl' (fun hc => ?_) (fun hc => ?_)) <;> (try (exfalso; omega))) | (with_reducible refine imp_intro (fun hc => ?_)) | refine vcq (k := ?_) | refine dr 1 (k := ?_) | refine dr 2 (k := ?_) | refine dr 3 (k := ?_) | refine dr 4 (k := ?_) | refine dr 5 (k := ?_) | refine dr 6 (k := ?_) | refine dr 7 (k := ?_) | refine dr 8 (k := ?_) | refine dr 9 (k := ?_) | refine dr 10 (k := ?_) | refine dr 11 (k := ?_) | refine dr 12 (k := ?_) | refine dr 1001 (k := ?_) | refine dr 1002 (k := ?_) | refine dr 1003 (k := ?_) | refine dr 1004 (k := ?_) | refine dr 1005 (k := ?_) | refine dr 1006 (k := ?_) | refine dr 1007 (k := ?_) | refine dr 1008 (k := ?_) | refine dr 1009 (k := ?_) | refine dr 1010 (k := ?_) | refine dr 1011 (k := ?_) | refine dr 1012 (k := ?_) | refine dr 1013 (k := ?_) | refine dr 1014 (k := ?_) | refine dr 1015 (k := ?_) | refine dr 1016 (k := ?_) | fail))); (all_goals (try (conv => whnf))); (all_goals (try (with_reducible exact trivial)))
  refine callee_fo (check28 b l hl) rfl ?_
  rintro _ rfl
  (repeat' ((conv => whnf); (first | ((with_reducible refine spl (fun hc => ?_) (fun hc => ?_)) <;> (try (exfalso; omega))) | ((with_reducible refine spl' (fun hc => ?_) (fun hc => ?_)) <;> (try (exfalso; omega))) | (with_reducible refine imp_intro (fun hc => ?_)) | refine vcq (k := ?_) | refine dr 1 (k := ?_) | refine dr 2 (k := ?_) | refine dr 3 (k := ?_) | refine dr 4 (k := ?_) | refine dr 5 (k := ?_) | refine dr 6 (k := ?_) | refine dr 7 (k := ?_) | refine dr 8 (k := ?_) | refine dr 9 (k := ?_) | refine dr 10 (k := ?_) | refine dr 11 (k := ?_) | refine dr 12 (k := ?_) | refine dr 1001 (k := ?_) | refine dr 1002 (k := ?_) | refine dr 1003 (k := ?_) | refine dr 1004 (k := ?_) | refine dr 1005 (k := ?_) | refine dr 1006 (k := ?_) | refine dr 1007 (k := ?_) | refine dr 1008 (k := ?_) | refine dr 1009 (k := ?_) | refine dr 1010 (k := ?_) | refine dr 1011 (k := ?_) | refine dr 1012 (k := ?_) | refine dr 1013 (k := ?_) | refine dr 1014 (k := ?_) | refine dr 1015 (k := ?_) | refine dr 1016 (k := ?_) | fail))); (all_goals (try (conv => whnf))); (all_goals (try (with_reducible exact trivial)))
  · unfold resN resB resF
    rw [if_neg hc, if_neg hc, if_neg hc]
    refine ⟨_, rfl, ?_⟩
    (repeat' ((conv => whnf); (first | ((with_reducible refine spl (fun hc => ?_) (fun hc => ?_)) <;> (try (exfalso; omega))) | ((with_reducible refine spl' (fun hc => ?_) (fun hc => ?_)) <;> (try (exfalso; omega))) | (with_reducible refine imp_intro (fun hc => ?_)) | refine vcq (k := ?_) | refine dr 1 (k := ?_) | refine dr 2 (k := ?_) | refine dr 3 (k := ?_) | refine dr 4 (k := ?_) | refine dr 5 (k := ?_) | refine dr 6 (k := ?_) | refine dr 7 (k := ?_) | refine dr 8 (k := ?_) | refine dr 9 (k := ?_) | refine dr 10 (k := ?_) | refine dr 11 (k := ?_) | refine dr 12 (k := ?_) | refine dr 1001 (k := ?_) | refine dr 1002 (k := ?_) | refine dr 1003 (k := ?_) | refine dr 1004 (k := ?_) | refine dr 1005 (k := ?_) | refine dr 1006 (k := ?_) | refine dr 1007 (k := ?_) | refine dr 1008 (k := ?_) | refine dr 1009 (k := ?_) | refine dr 1010 (k := ?_) | refine dr 1011 (k := ?_) | refine dr 1012 (k := ?_) | refine dr 1013 (k := ?_) | refine dr 1014 (k := ?_) | refine dr 1015 (k := ?_) | refine dr 1016 (k := ?_) | fail))); (all_goals (try (conv => whnf))); (all_goals (try (with_reducible exact trivial)))
  · have hz := Classical.not_not.1 hc
    obtain ⟨hb, h1, h2⟩ := chk_ok hz
    obtain ⟨o1, o2⟩ := run_ok hb h2.inB
    have hB := hb.B
    unfold resN resB resF
    rw [if_pos hz, if_pos hz, if_pos hz]
    refine callee_new (run38 b hb l hl h2.inB) rfl ?_
    rintro _ _ ⟨g, rfl, rfl⟩
    (repeat' ((conv => whnf); (first | ((with_reducible refine spl (fun hc => ?_) (fun hc => ?_)) <;> (try (exfalso; omega))) | ((with_reducible refine spl' (fun hc => ?_) (fun hc => ?_)) <;> (try (exfalso; omega))) | (with_reducible refine imp_intro (fun hc => ?_)) | refine vcq (k := ?_) | refine dr 1 (k := ?_) | refine dr 2 (k := ?_) | refine dr 3 (k := ?_) | refine dr 4 (k := ?_) | refine dr 5 (k := ?_) | refine dr 6 (k := ?_) | refine dr 7 (k := ?_) | refine dr 8 (k := ?_) | refine dr 9 (k := ?_) | refine dr 10 (k := ?_) | refine dr 11 (k := ?_) | refine dr 12 (k := ?_) | refine dr 1001 (k := ?_) | refine dr 1002 (k := ?_) | refine dr 1003 (k := ?_) | refine dr 1004 (k := ?_) | refine dr 1005 (k := ?_) | refine dr 1006 (k := ?_) | refine dr 1007 (k := ?_) | refine dr 1008 (k := ?_) | refine dr 1009 (k := ?_) | refine dr 1010 (k := ?_) | refine dr 1011 (k := ?_) | refine dr 1012 (k := ?_) | refine dr 1013 (k := ?_) | refine dr 1014 (k := ?_) | refine dr 1015 (k := ?_) | refine dr 1016 (k := ?_) | fail))); (all_goals (try (conv => whnf))); (all_goals (try (with_reducible exact trivial)))
    refine callee_frame [2, 3, 4, 5] (jobs40 b hb _ o1 g) rfl ?_ ?_
    · (repeat' ((conv => whnf); (first | ((with_reducible refine spl (fun hc => ?_) (fun hc => ?_)) <;> (try (exfalso; omega))) | ((with_reducible refine spl' (fun hc => ?_) (fun hc => ?_)) <;> (try (exfalso; omega))) | (with_reducible refine imp_intro (fun hc => ?_)) | refine vcq (k := ?_) | refine dr 1 (k := ?_) | refine dr 2 (k := ?_) | refine dr 3 (k := ?_) | refine dr 4 (k := ?_) | refine dr 5 (k := ?_) | refine dr 6 (k := ?_) | refine dr 7 (k := ?_) | refine dr 8 (k := ?_) | refine dr 9 (k := ?_) | refine dr 10 (k := ?_) | refine dr 11 (k := ?_) | refine dr 12 (k := ?_) | refine dr 1001 (k := ?_) | refine dr 1002 (k := ?_) | refine dr 1003 (k := ?_) | refine dr 1004 (k := ?_) | refine dr 1005 (k := ?_) | refine dr 1006 (k := ?_) | refine dr 1007 (k := ?_) | refine dr 1008 (k := ?_) | refine dr 1009 (k := ?_) | refine dr 1010 (k := ?_) | refine dr 1011 (k := ?_) | refine dr 1012 (k := ?_) | refine dr 1013 (k := ?_) | refine dr 1014 (k := ?_) | refine dr 1015 (k := ?_) | refine dr 1016 (k := ?_) | fail))); (all_goals (try (conv => whnf))); (all_goals (try (with_reducible exact trivial)))
    · rintro _ _ ⟨rfl, rfl⟩
      have hjl : (b.jobs (St.run b l).keys).length ≤ 6 := by
        have : (b.jobs (St.run b l).keys).length ≤ b.B.toNat := Nat.le_trans (List.length_filter_le _ _) (by simp)
        omega
      have hjm := fun j (h : j ∈ b.jobs (St.run b l).keys) => jobs_mem h
      have hjd := jobs_distinct (b := b) (ks := (St.run b l).keys)
      have hfl : (St.run b l).flush b = (b.jobs (St.run b l).keys).foldl (fun s j => s.clean b j.1) (St.run b l) := rfl
      have hcost : ∀ j ∈ b.jobs (St.run b l).keys, b.costOf (St.run b l).keys j.1 = j.2.1 := fun j hj => by
        obtain ⟨i, _, _, rfl⟩ := hjm j hj; rfl
      generalize b.jobs (St.run b l).keys = js at *
      rw [hfl]
      (repeat' ((conv => whnf); (first | ((with_reducible refine spl (fun hc => ?_) (fun hc => ?_)) <;> (try (exfalso; omega))) | ((with_reducible refine spl' (fun hc => ?_) (fun hc => ?_)) <;> (try (exfalso; omega))) | (with_reducible refine imp_intro (fun hc => ?_)) | refine vcq (k := ?_) | refine dr 1 (k := ?_) | refine dr 2 (k := ?_) | refine dr 3 (k := ?_) | refine dr 4 (k := ?_) | refine dr 5 (k := ?_) | refine dr 6 (k := ?_) | refine dr 7 (k := ?_) | refine dr 8 (k := ?_) | refine dr 9 (k := ?_) | refine dr 10 (k := ?_) | refine dr 11 (k := ?_) | refine dr 12 (k := ?_) | refine dr 1001 (k := ?_) | refine dr 1002 (k := ?_) | refine dr 1003 (k := ?_) | refine dr 1004 (k := ?_) | refine dr 1005 (k := ?_) | refine dr 1006 (k := ?_) | refine dr 1007 (k := ?_) | refine dr 1008 (k := ?_) | refine dr 1009 (k := ?_) | refine dr 1010 (k := ?_) | refine dr 1011 (k := ?_) | refine dr 1012 (k := ?_) | refine dr 1013 (k := ?_) | refine dr 1014 (k := ?_) | refine dr 1015 (k := ?_) | refine dr 1016 (k := ?_) | fail))); (all_goals (try (conv => whnf))); (all_goals (try (with_reducible exact trivial)))
      refine ⟨Nat × St, fun q => q.1 ≤ js.length ∧ q.2.Ok b ∧ q.2.Small (l.length + q.1) ∧ (∀ j ∈ js.drop q.1, b.costOf q.2.keys j.1 = j.2.1) ∧ (js.drop q.1).foldl (fun s j => s.clean b j.1) q.2 = js.foldl (fun s j => s.clean b j.1) (St.run b l), fun q => js.length - q.1, fun q => [(23, .int .i64 q.1)], fun q => [(2, .cells 70 [.int .i64 b.B, .int .i64 b.T, .int .i64 b.K, .int .i64 b.C, .int .i64 b.L, .osl 3 b.N.toNat, .lit (.slice none 0 0), .osl 4 b.B.toNat, .int .i64 q.2.cost, .int .i64 q.2.cleaned, .int .i64 q.2.refreshed, .map 5]), (3, q.2.o1 b), (4, q.2.o2 b), (5, q.2.o3 g)], fun _ => [], (0, St.run b l), ⟨⟨by simp, o1, by simpa using o2, by simpa using hcost, rfl⟩, some [some 0, some 1, some 2, some 3, some 4, some 5], ?_⟩, ?_⟩
      · (repeat' ((conv => whnf); (first | ((with_reducible refine spl (fun hc => ?_) (fun hc => ?_)) <;> (try (exfalso; omega))) | ((with_reducible refine spl' (fun hc => ?_) (fun hc => ?_)) <;> (try (exfalso; omega))) | (with_reducible refine imp_intro (fun hc => ?_)) | refine vcq (k := ?_) | refine dr 1 (k := ?_) | refine dr 2 (k := ?_) | refine dr 3 (k := ?_) | refine dr 4 (k := ?_) | refine dr 5 (k := ?_) | refine dr 6 (k := ?_) | refine dr 7 (k := ?_) | refine dr 8 (k := ?_) | refine dr 9 (k := ?_) | refine dr 10 (k := ?_) | refine dr 11 (k := ?_) | refine dr 12 (k := ?_) | refine dr 1001 (k := ?_) | refine dr 1002 (k := ?_) | refine dr 1003 (k := ?_) | refine dr 1004 (k := ?_) | refine dr 1005 (k := ?_) | refine dr 1006 (k := ?_) | refine dr 1007 (k := ?_) | refine dr 1008 (k := ?_) | refine dr 1009 (k := ?_) | refine dr 1010 (k := ?_) | refine dr 1011 (k := ?_) | refine dr 1012 (k := ?_) | refine dr 1013 (k := ?_) | refine dr 1014 (k := ?_) | refine dr 1015 (k := ?_) | refine dr 1016 (k := ?_) | fail))); (all_goals (try (conv => whnf))); (all_goals (try (with_reducible exact trivial)))
      · rintro ⟨k, s⟩ ⟨k1, k2, k3, k4, k5⟩
        dsimp only at k1 k2 k3 k4 k5
        have hti : (k : Int).toNat = k := Int.toNat_natCast k
        (repeat' ((conv => whnf); (first | ((with_reducible refine spl (fun hc => ?_) (fun hc => ?_)) <;> (try (exfalso; omega))) | ((with_reducible refine spl' (fun hc => ?_) (fun hc => ?_)) <;> (try (exfalso; omega))) | (with_reducible refine imp_intro (fun hc => ?_)) | refine vcq (k := ?_) | refine dr 1 (k := ?_) | refine dr 2 (k := ?_) | refine dr 3 (k := ?_) | refine dr 4 (k := ?_) | refine dr 5 (k := ?_) | refine dr 6 (k := ?_) | refine dr 7 (k := ?_) | refine dr 8 (k := ?_) | refine dr 9 (k := ?_) | refine dr 10 (k := ?_) | refine dr 11 (k := ?_) | refine dr 12 (k := ?_) | refine dr 1001 (k := ?_) | refine dr 1002 (k := ?_) | refine dr 1003 (k := ?_) | refine dr 1004 (k := ?_) | refine dr 1005 (k := ?_) | refine dr 1006 (k := ?_) | refine dr 1007 (k := ?_) | refine dr 1008 (k := ?_) | refine dr 1009 (k := ?_) | refine dr 1010 (k := ?_) | refine dr 1011 (k := ?_) | refine dr 1012 (k := ?_) | refine dr 1013 (k := ?_) | refine dr 1014 (k := ?_) | refine dr 1015 (k := ?_) | refine dr 1016 (k := ?_) | fail))); (all_goals (try (conv => whnf))); (all_goals (try (with_reducible exact trivial)))
        · have hk : k < js.length := by dsimp only at hc; omega
          have hdr := drop_getD (0, 0, 0) hk
          have hmem := getD_mem (d := (0, 0, 0)) hk
          obtain ⟨i, i1, i2, i3⟩ := hjm _ hmem
          have c0 := k4 (js.getD k (0, 0, 0)) (by rw [hdr]; exact List.mem_cons_self)
          have q1 := k3.1
          have q2 := k3.2
          have q3 := k3.3
          have e0 : js.getD (k : Int).toNat (0, 0, 0) = js.getD k (0, 0, 0) := by rw [hti]
          generalize hj : js.getD k (0, 0, 0) = j at *
          have ej : j.1 = (i : Int) := by rw [i3]
          rw [ej] at c0
          refine callee_frame [2, 3, 4, 5] (clean41 b hb s k2 ⟨by omega, by omega, by omega⟩ g i i1 (js.getD (k : Int).toNat (0, 0, 0)) (by rw [e0, ej]) (by rw [e0, c0])) rfl ?_ ?_
          · (repeat' ((conv => whnf); (first | ((with_reducible refine spl (fun hc => ?_) (fun hc => ?_)) <;> (try (exfalso; omega))) | ((with_reducible refine spl' (fun hc => ?_) (fun hc => ?_)) <;> (try (exfalso; omega))) | (with_reducible refine imp_intro (fun hc => ?_)) | refine vcq (k := ?_) | refine dr 1 (k := ?_) | refine dr 2 (k := ?_) | refine dr 3 (k := ?_) | refine dr 4 (k := ?_) | refine dr 5 (k := ?_) | refine dr 6 (k := ?_) | refine dr 7 (k := ?_) | refine dr 8 (k := ?_) | refine dr 9 (k := ?_) | refine dr 10 (k := ?_) | refine dr 11 (k := ?_) | refine dr 12 (k := ?_) | refine dr 1001 (k := ?_) | refine dr 1002 (k := ?_) | refine dr 1003 (k := ?_) | refine dr 1004 (k := ?_) | refine dr 1005 (k := ?_) | refine dr 1006 (k := ?_) | refine dr 1007 (k := ?_) | refine dr 1008 (k := ?_) | refine dr 1009 (k := ?_) | refine dr 1010 (k := ?_) | refine dr 1011 (k := ?_) | refine dr 1012 (k := ?_) | refine dr 1013 (k := ?_) | refine dr 1014 (k := ?_) | refine dr 1015 (k := ?_) | refine dr 1016 (k := ?_) | fail))); (all_goals (try (conv => whnf))); (all_goals (try (with_reducible exact trivial)))
          · rintro _ _ ⟨rfl, rfl⟩
            (repeat' ((conv => whnf); (first | ((with_reducible refine spl (fun hc => ?_) (fun hc => ?_)) <;> (try (exfalso; omega))) | ((with_reducible refine spl' (fun hc => ?_) (fun hc => ?_)) <;> (try (exfalso; omega))) | (with_reducible refine imp_intro (fun hc => ?_)) | refine vcq (k := ?_) | refine dr 1 (k := ?_) | refine dr 2 (k := ?_) | refine dr 3 (k := ?_) | refine dr 4 (k := ?_) | refine dr 5 (k := ?_) | refine dr 6 (k := ?_) | refine dr 7 (k := ?_) | refine dr 8 (k := ?_) | refine dr 9 (k := ?_) | refine dr 10 (k := ?_) | refine dr 11 (k := ?_) | refine dr 12 (k := ?_) | refine dr 1001 (k := ?_) | refine dr 1002 (k := ?_) | refine dr 1003 (k := ?_) | refine dr 1004 (k := ?_) | refine dr 1005 (k := ?_) | refine dr 1006 (k := ?_) | refine dr 1007 (k := ?_) | refine dr 1008 (k := ?_) | refine dr 1009 (k := ?_) | refine dr 1010 (k := ?_) | refine dr 1011 (k := ?_) | refine dr 1012 (k := ?_) | refine dr 1013 (k := ?_) | refine dr 1014 (k := ?_) | refine dr 1015 (k := ?_) | refine dr 1016 (k := ?_) | fail))); (all_goals (try (conv => whnf))); (all_goals (try (with_reducible exact trivial)))
            refine ⟨(k + 1, s.clean b i), ⟨⟨by dsimp only; omega, clean_ok hb k2 _, ?_, fun j' hj' => ?_, ?_⟩, by dsimp only; omega⟩, some [some 0, some 1, some 2, some 3, some 4, some 5], ?_⟩
            · have := clean_small hb k3 (i : Int)
              dsimp only
              rw [show (l.length : Int) + ((k + 1 : Nat) : Int) = l.length + k + 1 by omega]
              exact this
            · dsimp only at hj' ⊢
              rw [clean_keys]
              have hne : j'.1 ≠ (i : Int) := by
                have hp : (js.drop k).Pairwise (fun j j' => j.1 ≠ j'.1) := hjd.sublist (List.drop_sublist k js)
                rw [hdr] at hp
                have := (List.pairwise_cons.1 hp).1 j' hj'
                rw [ej] at this
                exact fun h => this h.symm
              unfold Bands.costOf
              rw [lowest_filter hne]
              exact k4 j' (by rw [hdr]; exact List.mem_cons_of_mem _ hj')
            · dsimp only
              rw [← k5, hdr, List.foldl_cons, ej]
            · (repeat' ((conv => whnf); (first | ((with_reducible refine spl (fun hc => ?_) (fun hc => ?_)) <;> (try (exfalso; omega))) | ((with_reducible refine spl' (fun hc => ?_) (fun hc => ?_)) <;> (try (exfalso; omega))) | (with_reducible refine imp_intro (fun hc => ?_)) | refine vcq (k := ?_) | refine dr 1 (k := ?_) | refine dr 2 (k := ?_) | refine dr 3 (k := ?_) | refine dr 4 (k := ?_) | refine dr 5 (k := ?_) | refine dr 6 (k := ?_) | refine dr 7 (k := ?_) | refine dr 8 (k := ?_) | refine dr 9 (k := ?_) | refine dr 10 (k := ?_) | refine dr 11 (k := ?_) | refine dr 12 (k := ?_) | refine dr 1001 (k := ?_) | refine dr 1002 (k := ?_) | refine dr 1003 (k := ?_) | refine dr 1004 (k := ?_) | refine dr 1005 (k := ?_) | refine dr 1006 (k := ?_) | refine dr 1007 (k := ?_) | refine dr 1008 (k := ?_) | refine dr 1009 (k := ?_) | refine dr 1010 (k := ?_) | refine dr 1011 (k := ?_) | refine dr 1012 (k := ?_) | refine dr 1013 (k := ?_) | refine dr 1014 (k := ?_) | refine dr 1015 (k := ?_) | refine dr 1016 (k := ?_) | fail))); (all_goals (try (conv => whnf))); (all_goals (try (with_reducible exact trivial)))
        · obtain rfl : k = js.length := by dsimp only at hc; omega
          rw [List.drop_length] at k5
          have k5 : s = js.foldl (fun s j => s.clean b j.1) (St.run b l) := k5
          subst k5
          refine callee_frame [2, 3, 4, 5] (state39 b hb _ k2 g) rfl ?_ ?_
          · (repeat' ((conv => whnf); (first | ((with_reducible refine spl (fun hc => ?_) (fun hc => ?_)) <;> (try (exfalso; omega))) | ((with_reducible refine spl' (fun hc => ?_) (fun hc => ?_)) <;> (try (exfalso; omega))) | (with_reducible refine imp_intro (fun hc => ?_)) | refine vcq (k := ?_) | refine dr 1 (k := ?_) | refine dr 2 (k := ?_) | refine dr 3 (k := ?_) | refine dr 4 (k := ?_) | refine dr 5 (k := ?_) | refine dr 6 (k := ?_) | refine dr 7 (k := ?_) | refine dr 8 (k := ?_) | refine dr 9 (k := ?_) | refine dr 10 (k := ?_) | refine dr 11 (k := ?_) | refine dr 12 (k := ?_) | refine dr 1001 (k := ?_) | refine dr 1002 (k := ?_) | refine dr 1003 (k := ?_) | refine dr 1004 (k := ?_) | refine dr 1005 (k := ?_) | refine dr 1006 (k := ?_) | refine dr 1007 (k := ?_) | refine dr 1008 (k := ?_) | refine dr 1009 (k := ?_) | refine dr 1010 (k := ?_) | refine dr 1011 (k := ?_) | refine dr 1012 (k := ?_) | refine dr 1013 (k := ?_) | refine dr 1014 (k := ?_) | refine dr 1015 (k := ?_) | refine dr 1016 (k := ?_) | fail))); (all_goals (try (conv => whnf))); (all_goals (try (with_reducible exact trivial)))
          · rintro _ _ ⟨rfl, rfl⟩
            (repeat' ((conv => whnf); (first | ((with_reducible refine spl (fun hc => ?_) (fun hc => ?_)) <;> (try (exfalso; omega))) | ((with_reducible refine spl' (fun hc => ?_) (fun hc => ?_)) <;> (try (exfalso; omega))) | (with_reducible refine imp_intro (fun hc => ?_)) | refine vcq (k := ?_) | refine dr 1 (k := ?_) | refine dr 2 (k := ?_) | refine dr 3 (k := ?_) | refine dr 4 (k := ?_) | refine dr 5 (k := ?_) | refine dr 6 (k := ?_) | refine dr 7 (k := ?_) | refine dr 8 (k := ?_) | refine dr 9 (k := ?_) | refine dr 10 (k := ?_) | refine dr 11 (k := ?_) | refine dr 12 (k := ?_) | refine dr 1001 (k := ?_) | refine dr 1002 (k := ?_) | refine dr 1003 (k := ?_) | refine dr 1004 (k := ?_) | refine dr 1005 (k := ?_) | refine dr 1006 (k := ?_) | refine dr 1007 (k := ?_) | refine dr 1008 (k := ?_) | refine dr 1009 (k := ?_) | refine dr 1010 (k := ?_) | refine dr 1011 (k := ?_) | refine dr 1012 (k := ?_) | refine dr 1013 (k := ?_) | refine dr 1014 (k := ?_) | refine dr 1015 (k := ?_) | refine dr 1016 (k := ?_) | fail))); (all_goals (try (conv => whnf))); (all_goals (try (with_reducible exact trivial)))
            refine ⟨_, rfl, ?_⟩
            (repeat' ((conv => whnf); (first | ((with_reducible refine spl (fun hc => ?_) (fun hc => ?_)) <;> (try (exfalso; omega))) | ((with_reducible refine spl' (fun hc => ?_) (fun hc => ?_)) <;> (try (exfalso; omega))) | (with_reducible refine imp_intro (fun hc => ?_)) | refine vcq (k := ?_) | refine dr 1 (k := ?_) | refine dr 2 (k := ?_) | refine dr 3 (k := ?_) | refine dr 4 (k := ?_) | refine dr 5 (k := ?_) | refine dr 6 (k := ?_) | refine dr 7 (k := ?_) | refine dr 8 (k := ?_) | refine dr 9 (k := ?_) | refine dr 10 (k := ?_) | refine dr 11 (k := ?_) | refine dr 12 (k := ?_) | refine dr 1001 (k := ?_) | refine dr 1002 (k := ?_) | refine dr 1003 (k := ?_) | refine dr 1004 (k := ?_) | refine dr 1005 (k := ?_) | refine dr 1006 (k := ?_) | refine dr 1007 (k := ?_) | refine dr 1008 (k := ?_) | refine dr 1009 (k := ?_) | refine dr 1010 (k := ?_) | refine dr 1011 (k := ?_) | refine dr 1012 (k := ?_) | refine dr 1013 (k := ?_) | refine dr 1014 (k := ?_) | refine dr 1015 (k := ?_) | refine dr 1016 (k := ?_) | fail))); (all_goals (try (conv => whnf))); (all_goals (try (with_reducible exact trivial)))
end Go.Proofs

namespace Go.Proofs
open Go Go.Sx
set_option maxRecDepth 100000
set_option maxHeartbeats 4000000
-- SxAid2

def bit (n i : Nat) : Bool := n / 2 ^ i % 2 == 1

theorem andNot64 : ∀ (x : Fin 64) (k : Fin 6), bitsI .andNot .i64 (x.val : Int) (1 * 2 ^ k.val) = ((if bit x.val k.val then x.val - 2 ^ k.val else x.val : Nat) : Int) := by decide +kernel
theorem bit_clear : ∀ (x : Fin 64) (k i : Fin 6), bit (if bit x.val k.val then x.val - 2 ^ k.val else x.val) i.val = (bit x.val i.val && !(i.val == k.val)) := by decide +kernel
theorem clear_lt : ∀ (x : Fin 64) (k : Fin 6), (if bit x.val k.val then x.val - 2 ^ k.val else x.val) < 64 := by decide +kernel
theorem and_one : ∀ x : Fin 64, bitsI .and .i64 (x.val : Int) 1 = ((x.val % 2 : Nat) : Int) := by decide +kernel
theorem no_bits : ∀ x : Fin 64, (∀ i : Fin 6, bit x.val i.val = false) → x.val = 0 := by decide +kernel
theorem bit_high : ∀ (x : Fin 64) (n i : Fin 7), x.val < 2 ^ n.val → n.val ≤ i.val → bit x.val i.val = false := by decide +kernel

namespace Bands
variable (b : Bands)
def sumC (ks : List Int) (set : Nat) : Nat → Int
  | 0 => 0
  | i + 1 => sumC ks set i + (if bit set i then b.costOf ks i else 0)
def sumS (ks : List Int) (set : Nat) : Nat → Int
  | 0 => 0
  | i + 1 => sumS ks set i + (if bit set i then b.slots i ks else 0)
def okSet (ks : List Int) (set : Nat) : Bool := (List.range b.B.toNat).all fun i => !bit set i || !(b.slots i ks == 0)
def fitSet (ks : List Int) (need : Int) (set : Nat) : Bool := b.okSet ks set && decide (need ≤ b.C - ks.length + b.sumS ks set b.B.toNat)
def stepSet (ks : List Int) (need : Int) (r : Int × Int × Bool) (set : Nat) : Int × Int × Bool :=
  if b.fitSet ks need set = true ∧ (r.2.2 = false ∨ b.sumC ks set b.B.toNat < r.2.1) then ((set : Int), b.sumC ks set b.B.toNat, true) else r
def best (ks : List Int) (need : Int) : Int × Int × Bool := (List.range (2 ^ b.B.toNat)).foldl (b.stepSet ks need) (0, 0, false)
end Bands

theorem sum_jobs {b : Bands} {ks : List Int} {set : Nat} (t : Job → Int) (u : Nat → Int) (h1 : ∀ i : Nat, b.slots i ks ≠ 0 → t (b.jobOf ks i) = if bit set i then u i else 0) (h2 : ∀ i : Nat, b.slots i ks = 0 → u i = 0)
    (S : Nat → Int) (hS0 : S 0 = 0) (hS : ∀ i, S (i + 1) = S i + (if bit set i then u i else 0)) : ∀ n, ((((List.range n).map (b.jobOf ks)).filter Job.has).map t).sum = S n
  | 0 => by simp [hS0]
  | n + 1 => by
    have ih := sum_jobs t u h1 h2 S hS0 hS n
    rw [List.range_succ, List.map_append, List.filter_append, List.map_append, List.sum_append, ih, hS]
    congr 1
    by_cases hn : b.slots n ks = 0
    · rw [List.map_cons, List.filter_cons_of_neg (by rw [has_jobOf]; simp [hn]), h2 n hn]
      simp
    · rw [List.map_cons, List.filter_cons_of_pos (has_jobOf.2 hn)]
      simp [h1 n hn]

theorem jobOf_fst {b : Bands} {ks : List Int} {i : Nat} (h : b.slots i ks ≠ 0) : (b.jobOf ks i).1 = i := by
  unfold Bands.jobOf
  rw [if_neg h]

theorem costOf_zero {b : Bands} {band : Int} : ∀ {ks : List Int}, b.slots band ks = 0 → b.costOf ks band = 0
  | [], _ => by simp [Bands.costOf, Bands.lowest]
  | x :: ks, h => by
    unfold Bands.slots at h
    have h0 := (slots_nonneg (b := b) band ks).1
    by_cases hx : b.bd x = band
    · rw [if_pos hx] at h; omega
    · rw [if_neg hx] at h
      have := costOf_zero h
      unfold Bands.costOf at this ⊢
      unfold Bands.lowest
      rw [if_neg hx]
      exact this

theorem jobs_sumC {b : Bands} {ks : List Int} (set : Nat) : ((b.jobs ks).map (fun j => if bit set j.1.toNat then j.2.1 else 0)).sum = b.sumC ks set b.B.toNat :=
  sum_jobs (set := set) (fun j => if bit set j.1.toNat then j.2.1 else 0) (fun i => b.costOf ks i) (fun i hi => by simp only [jobOf_fst hi, Int.toNat_natCast]; rfl) (fun i hi => costOf_zero hi) (b.sumC ks set) rfl (fun _ => rfl) _

theorem jobs_sumS {b : Bands} {ks : List Int} (set : Nat) : ((b.jobs ks).map (fun j => if bit set j.1.toNat then j.2.2 else 0)).sum = b.sumS ks set b.B.toNat :=
  sum_jobs (set := set) (fun j => if bit set j.1.toNat then j.2.2 else 0) (fun i => b.slots i ks) (fun i hi => by simp only [jobOf_fst hi, Int.toNat_natCast]; rfl) (fun i hi => hi) (b.sumS ks set) rfl (fun _ => rfl) _

theorem jobs_any {b : Bands} {ks : List Int} {i : Nat} (hi : (i : Int) < b.B) : (b.jobs ks).any (fun j => j.1 == (i : Int)) = true ↔ b.slots i ks ≠ 0 := by
  rw [List.any_eq_true]
  constructor
  · rintro ⟨j, hj, he⟩
    obtain ⟨k, _, h2, rfl⟩ := jobs_mem hj
    have : (k : Int) = i := by simpa using he
    rwa [← this]
  · intro h
    refine ⟨b.jobOf ks i, List.mem_filter.2 ⟨List.mem_map.2 ⟨i, List.mem_range.2 (by omega), rfl⟩, has_jobOf.2 h⟩, ?_⟩
    simp [jobOf_fst h]

theorem jobs_ok {b : Bands} (hb : b.Ok) {ks : List Int} {set left : Nat} (hset : set < 2 ^ b.B.toNat) (hl : left < 64) (h : ∀ i, i < 6 → bit left i = (bit set i && !(b.jobs ks).any (fun j => j.1 == (i : Int)))) : left = 0 ↔ b.okSet ks set = true := by
  have hB := hb.B
  have hs64 : set < 64 := Nat.lt_of_lt_of_le hset (by
    have : 2 ^ b.B.toNat ≤ 2 ^ 6 := Nat.pow_le_pow_right (by omega) (by omega)
    simpa using this)
  unfold Bands.okSet
  rw [List.all_eq_true]
  constructor
  · intro h0 i hi
    have hi := List.mem_range.1 hi
    have hb0 := h i (by omega)
    rw [h0] at hb0
    have hz : bit 0 i = false := by simp [bit]
    rw [hz] at hb0
    by_cases hbit : bit set i = true
    · rw [hbit] at hb0 ⊢
      have : (b.jobs ks).any (fun j => j.1 == (i : Int)) = true := by simpa using hb0.symm
      have := (jobs_any (by omega)).1 this
      simp [this]
    · simp [hbit]
  · intro hall
    refine no_bits ⟨left, hl⟩ fun i => ?_
    rw [h i.val i.isLt]
    by_cases hiB : (i.val : Int) < b.B
    · have := hall i.val (List.mem_range.2 (by omega))
      by_cases hbit : bit set i.val = true
      · rw [hbit] at this ⊢
        have hs : b.slots i.val ks ≠ 0 := by simpa using this
        rw [(jobs_any hiB).2 hs]
        rfl
      · simp [hbit]
    · rw [bit_high ⟨set, hs64⟩ ⟨b.B.toNat, by omega⟩ ⟨i.val, by omega⟩ hset (by dsimp only; omega)]
      rfl

theorem sumC_le {b : Bands} (hb : b.Ok) {ks : List Int} {set : Nat} : ∀ n, 0 ≤ b.sumC ks set n ∧ b.sumC ks set n ≤ 6 * n
  | 0 => by simp [Bands.sumC]
  | n + 1 => by
    have ih := sumC_le hb (ks := ks) (set := set) n
    have hl := lowest_le hb n ks
    have hT := hb.T
    unfold Bands.sumC
    have : 0 ≤ b.costOf ks n ∧ b.costOf ks n ≤ 6 := by unfold Bands.costOf; omega
    split <;> omega

open Classical in
noncomputable def clRes (b : Bands) (l : List (Int × Int)) (need : Int) : Int × Int × Int :=
  if chk b l ≠ 0 then (0, 0, chk b l) else if need < 0 ∨ b.C < need then (0, 0, 1) else ((b.best (St.run b l).keys need).1, (b.best (St.run b l).keys need).2.1, 0)

theorem clean20 (b : Bands) (l : List (Int × Int)) (hl : l.length ≤ 8000) (need : Int) : PureC Try.prog 20 false [b.v, .sl 2 l.length (rowOf wC (0, 0) l), .int .i64 need] (· = .tup [.int .i64 (clRes b l need).1, .int .i64 (clRes b l need).2.1, .int .i64 (clRes b l need).2.2]) := by
  refine pureC_of_exec Try.E_ok Try.func20 rfl (by kernel_rfl) ?_
  (repeat' ((conv => whnf); (first | ((with_reducible refine spl (fun hc => ?_) (fun hc => ?_)) <;> (try (exfalso; omega))) | ((with_reducible refine spl' (fun hc => ?_) (fun hc => ?_)) <;> (try (exfalso; omega))) | (with_reducible refine imp_intro (fun hc => ?_)) | refine vcq (k := ?_) | refine dr 9 (k := ?_) | fail))); (all_goals (try (conv => whnf))); (all_goals (try (with_reducible exact trivial)))
  refine callee_fo (check28 b l hl) rfl ?_
  rintro _ rfl
  (repeat' ((conv => whnf); (first | ((with_reducible refine spl (fun hc => ?_) (fun hc => ?_)) <;> (try (exfalso; omega))) | ((with_reducible refine spl' (fun hc => ?_) (fun hc => ?_)) <;> (try (exfalso; omega))) | (with_reducible refine imp_intro (fun hc => ?_)) | refine vcq (k := ?_) | refine dr 9 (k := ?_) | fail))); (all_goals (try (conv => whnf))); (all_goals (try (with_reducible exact trivial)))
  · have e : clRes b l need = (0, 0, chk b l) := by unfold clRes; rw [if_pos hc]
    rw [e]
    refine ⟨_, rfl, ?_⟩
    (repeat' ((conv => whnf); (first | ((with_reducible refine spl (fun hc => ?_) (fun hc => ?_)) <;> (try (exfalso; omega))) | ((with_reducible refine spl' (fun hc => ?_) (fun hc => ?_)) <;> (try (exfalso; omega))) | (with_reducible refine imp_intro (fun hc => ?_)) | refine vcq (k := ?_) | refine dr 9 (k := ?_) | fail))); (all_goals (try (conv => whnf))); (all_goals (try (with_reducible exact trivial)))
  · have e : clRes b l need = (0, 0, 1) := by rename_i hz; unfold clRes; rw [if_neg hz, if_pos hc]
    rw [e]
    refine ⟨_, rfl, ?_⟩
    (repeat' ((conv => whnf); (first | ((with_reducible refine spl (fun hc => ?_) (fun hc => ?_)) <;> (try (exfalso; omega))) | ((with_reducible refine spl' (fun hc => ?_) (fun hc => ?_)) <;> (try (exfalso; omega))) | (with_reducible refine imp_intro (fun hc => ?_)) | refine vcq (k := ?_) | refine dr 9 (k := ?_) | fail))); (all_goals (try (conv => whnf))); (all_goals (try (with_reducible exact trivial)))
  · rename_i hz0
    have hz := Classical.not_not.1 hz0
    obtain ⟨hb, h1, h2⟩ := chk_ok hz
    obtain ⟨o1, o2⟩ := run_ok hb h2.inB
    have hB := hb.B
    have hC := hb.C
    have e : clRes b l need = ((b.best (St.run b l).keys need).1, (b.best (St.run b l).keys need).2.1, 0) := by unfold clRes; rw [if_neg hz0, if_neg hc]
    rw [e]
    refine callee_new (run38 b hb l hl h2.inB) rfl ?_
    rintro _ _ ⟨g, rfl, rfl⟩
    (repeat' ((conv => whnf); (first | ((with_reducible refine spl (fun hc => ?_) (fun hc => ?_)) <;> (try (exfalso; omega))) | ((with_reducible refine spl' (fun hc => ?_) (fun hc => ?_)) <;> (try (exfalso; omega))) | (with_reducible refine imp_intro (fun hc => ?_)) | refine vcq (k := ?_) | refine dr 9 (k := ?_) | fail))); (all_goals (try (conv => whnf))); (all_goals (try (with_reducible exact trivial)))
    refine callee_frame [1, 2, 3, 4] (jobs40 b hb _ o1 g) rfl ?_ ?_
    · (repeat' ((conv => whnf); (first | ((with_reducible refine spl (fun hc => ?_) (fun hc => ?_)) <;> (try (exfalso; omega))) | ((with_reducible refine spl' (fun hc => ?_) (fun hc => ?_)) <;> (try (exfalso; omega))) | (with_reducible refine imp_intro (fun hc => ?_)) | refine vcq (k := ?_) | refine dr 9 (k := ?_) | fail))); (all_goals (try (conv => whnf))); (all_goals (try (with_reducible exact trivial)))
    · rintro _ _ ⟨rfl, rfl⟩
      have hjl : (b.jobs (St.run b l).keys).length ≤ 6 := by
        have : (b.jobs (St.run b l).keys).length ≤ b.B.toNat := Nat.le_trans (List.length_filter_le _ _) (by simp)
        omega
      have hpow : 1 ≤ 2 ^ b.B.toNat ∧ 2 ^ b.B.toNat ≤ 64 := ⟨Nat.one_le_two_pow, by
        have : 2 ^ b.B.toNat ≤ 2 ^ 6 := Nat.pow_le_pow_right (by omega) (by omega)
        simpa using this⟩
      have hp2 : (1 : Int) * 2 ^ b.B.toNat = ((2 ^ b.B.toNat : Nat) : Int) := by simp
      have hlen : (St.run b l).keys.length = (St.run b l).cch.length := by simp [St.keys]
      have hcl := o1.len
      have hjm := fun j (h : j ∈ b.jobs (St.run b l).keys) => jobs_mem h
      have hsC := fun set => jobs_sumC (b := b) (ks := (St.run b l).keys) set
      have hsS := fun set => jobs_sumS (b := b) (ks := (St.run b l).keys) set
      have hok := fun set left => jobs_ok hb (ks := (St.run b l).keys) (set := set) (left := left)
      have hslot : ∀ i : Nat, b.slots i (St.run b l).keys ≤ 12 := fun i => by have := (slots_nonneg (b := b) i (St.run b l).keys).2; omega
      have hslot0 : ∀ i : Nat, 0 ≤ b.slots i (St.run b l).keys := fun i => (slots_nonneg (b := b) i (St.run b l).keys).1
      have hcost : ∀ i : Nat, 0 ≤ b.costOf (St.run b l).keys i ∧ b.costOf (St.run b l).keys i ≤ 6 := fun i => by have := lowest_le hb i (St.run b l).keys; have := hb.T; unfold Bands.costOf; omega
      generalize hjs : b.jobs (St.run b l).keys = js at *
      generalize hM : 2 ^ b.B.toNat = M at *
      (repeat' ((conv => whnf); (first | ((with_reducible refine spl (fun hc => ?_) (fun hc => ?_)) <;> (try (exfalso; omega))) | ((with_reducible refine spl' (fun hc => ?_) (fun hc => ?_)) <;> (try (exfalso; omega))) | (with_reducible refine imp_intro (fun hc => ?_)) | refine vcq (k := ?_) | refine dr 9 (k := ?_) | fail))); (all_goals (try (conv => whnf))); (all_goals (try (with_reducible exact trivial)))
      refine ⟨⟨by omega, by show b.B.toNat ≤ 64; omega, by rw [hp2]; exact inR64 (by omega) (by omega)⟩, ?_⟩
      rw [hp2]
      (repeat' ((conv => whnf); (first | ((with_reducible refine spl (fun hc => ?_) (fun hc => ?_)) <;> (try (exfalso; omega))) | ((with_reducible refine spl' (fun hc => ?_) (fun hc => ?_)) <;> (try (exfalso; omega))) | (with_reducible refine imp_intro (fun hc => ?_)) | refine vcq (k := ?_) | refine dr 9 (k := ?_) | fail))); (all_goals (try (conv => whnf))); (all_goals (try (with_reducible exact trivial)))
      refine ⟨Nat × Int × Int × Bool, fun q => q.1 ≤ M ∧ q.2 = (List.range q.1).foldl (b.stepSet (St.run b l).keys need) (0, 0, false), fun q => M - q.1, fun q => [(29, .any), (41, .int .i64 q.1), (6, .int .i64 q.2.1), (7, .int .i64 q.2.2.1), (12, .prop (q.2.2.2 = true) inferInstance)], fun _ => [], fun _ => [], (0, 0, 0, false), ⟨⟨by simp, rfl⟩, some [some 0, some 1, some 2, some 3, some 4], ?_⟩, ?_⟩
      · (repeat' ((conv => whnf); (first | ((with_reducible refine spl (fun hc => ?_) (fun hc => ?_)) <;> (try (exfalso; omega))) | ((with_reducible refine spl' (fun hc => ?_) (fun hc => ?_)) <;> (try (exfalso; omega))) | (with_reducible refine imp_intro (fun hc => ?_)) | refine vcq (k := ?_) | refine dr 9 (k := ?_) | fail))); (all_goals (try (conv => whnf))); (all_goals (try (with_reducible exact trivial)))
        refine ⟨by simp, ?_⟩
        (repeat' ((conv => whnf); (first | ((with_reducible refine spl (fun hc => ?_) (fun hc => ?_)) <;> (try (exfalso; omega))) | ((with_reducible refine spl' (fun hc => ?_) (fun hc => ?_)) <;> (try (exfalso; omega))) | (with_reducible refine imp_intro (fun hc => ?_)) | refine vcq (k := ?_) | refine dr 9 (k := ?_) | fail))); (all_goals (try (conv => whnf))); (all_goals (try (with_reducible exact trivial)))
      · rintro ⟨set, r1, r2, r3⟩ ⟨q1, q2⟩
        dsimp only at q1 q2
        (repeat' ((conv => whnf); (first | ((with_reducible refine spl (fun hc => ?_) (fun hc => ?_)) <;> (try (exfalso; omega))) | ((with_reducible refine spl' (fun hc => ?_) (fun hc => ?_)) <;> (try (exfalso; omega))) | (with_reducible refine imp_intro (fun hc => ?_)) | refine vcq (k := ?_) | refine dr 9 (k := ?_) | fail))); (all_goals (try (conv => whnf))); (all_goals (try (with_reducible exact trivial)))
        · have hset : set < M := by dsimp only at hc; omega
          refine ⟨Nat × Nat × Int × Int, fun p => p.1 ≤ js.length ∧ p.2.1 < 64 ∧ (∀ i, i < 6 → bit p.2.1 i = (bit set i && !(js.take p.1).any (fun j => j.1 == (i : Int)))) ∧ (p.2.2.1 = b.C - (St.run b l).cch.length + ((js.take p.1).map (fun j => if bit set j.1.toNat then j.2.2 else 0)).sum ∧ 0 ≤ p.2.2.1 ∧ p.2.2.1 ≤ 12 + 12 * p.1) ∧ (p.2.2.2 = ((js.take p.1).map (fun j => if bit set j.1.toNat then j.2.1 else 0)).sum ∧ 0 ≤ p.2.2.2 ∧ p.2.2.2 ≤ 6 * p.1), fun p => js.length - p.1,
            fun p => [(55, .int .i64 p.1), (14, .int .i64 p.2.1), (16, .int .i64 p.2.2.1), (15, .int .i64 p.2.2.2)], fun _ => [], fun _ => [], (0, set, b.C - (St.run b l).cch.length, 0), ⟨⟨by simp, by dsimp only; omega, fun i _ => by simp, ⟨by simp, by dsimp only; omega, by dsimp only; omega⟩, by simp⟩, some [some 0, some 1, some 2, some 3, some 4], ?_⟩, ?_⟩
          · (repeat' ((conv => whnf); (first | ((with_reducible refine spl (fun hc => ?_) (fun hc => ?_)) <;> (try (exfalso; omega))) | ((with_reducible refine spl' (fun hc => ?_) (fun hc => ?_)) <;> (try (exfalso; omega))) | (with_reducible refine imp_intro (fun hc => ?_)) | refine vcq (k := ?_) | refine dr 9 (k := ?_) | fail))); (all_goals (try (conv => whnf))); (all_goals (try (with_reducible exact trivial)))
          · rintro ⟨k, left, free, price⟩ ⟨p1, p2, p3, p4, p5⟩
            dsimp only at p1 p2 p3 p4 p5
            have hti : (k : Int).toNat = k := Int.toNat_natCast k
            by_cases hk : k < js.length
            · obtain ⟨i, i1, i2, i3⟩ := hjm _ (getD_mem (d := (0, 0, 0)) hk)
              have e0 : js.getD (k : Int).toNat (0, 0, 0) = ((i : Int), b.costOf (St.run b l).keys i, b.slots i (St.run b l).keys) := by rw [hti, i3]
              have f1 : 0 ≤ (js.getD (k : Int).toNat (0, 0, 0)).1 ∧ (js.getD (k : Int).toNat (0, 0, 0)).1.toNat ≤ 6 := by rw [e0]; dsimp only; omega
              have f2 : 0 ≤ (js.getD (k : Int).toNat (0, 0, 0)).2.1 ∧ (js.getD (k : Int).toNat (0, 0, 0)).2.1 ≤ 6 := by rw [e0]; exact hcost i
              have f3 : 0 ≤ (js.getD (k : Int).toNat (0, 0, 0)).2.2 ∧ (js.getD (k : Int).toNat (0, 0, 0)).2.2 ≤ 12 := by rw [e0]; exact ⟨hslot0 i, hslot i⟩
              have hi6 : i < 6 := by omega
              have f4 : inR .i64 (1 * 2 ^ (js.getD (k : Int).toNat (0, 0, 0)).1.toNat) := by
                rw [e0]
                have : (1 : Int) * 2 ^ ((i : Int).toNat) = ((2 ^ i : Nat) : Int) := by simp
                have h2 : 2 ^ i ≤ 2 ^ 6 := Nat.pow_le_pow_right (by omega) (by omega)
                have h3 : 1 ≤ 2 ^ i := Nat.one_le_two_pow
                dsimp only
                rw [this]
                exact inR64 (by omega) (by omega)
              have hbit : bitsI .and .i64 ((set : Int).fdiv (2 ^ (js.getD (k : Int).toNat (0, 0, 0)).1.toNat)) 1 = 1 ↔ bit set i = true := by
                rw [e0]
                have e1 : (set : Int).fdiv (2 ^ ((i : Int).toNat)) = ((set / 2 ^ i : Nat) : Int) := by
                  rw [Int.toNat_natCast, Int.fdiv_eq_ediv_of_nonneg _ (Int.pow_nonneg (by omega))]
                  simp
                dsimp only
                rw [e1, and_one ⟨set / 2 ^ i, Nat.lt_of_le_of_lt (Nat.div_le_self _ _) (by omega)⟩]
                unfold bit
                simp only [beq_iff_eq]
                omega
              have htake : js.take (k + 1) = js.take k ++ [js.getD k (0, 0, 0)] := take_succ_getD (0, 0, 0) hk
              rw [i3] at htake
              (repeat' ((conv => whnf); (first | ((with_reducible refine spl (fun hc => ?_) (fun hc => ?_)) <;> (try (exfalso; omega))) | ((with_reducible refine spl' (fun hc => ?_) (fun hc => ?_)) <;> (try (exfalso; omega))) | (with_reducible refine imp_intro (fun hc => ?_)) | refine vcq (k := ?_) | refine dr 9 (k := ?_) | fail))); (all_goals (try (conv => whnf))); (all_goals (try (with_reducible exact trivial)))
              refine ⟨⟨f1.1, Nat.le_trans f1.2 (by decide)⟩, ?_⟩
              (repeat' ((conv => whnf); (first | ((with_reducible refine spl (fun hc => ?_) (fun hc => ?_)) <;> (try (exfalso; omega))) | ((with_reducible refine spl' (fun hc => ?_) (fun hc => ?_)) <;> (try (exfalso; omega))) | (with_reducible refine imp_intro (fun hc => ?_)) | refine vcq (k := ?_) | refine dr 9 (k := ?_) | fail))); (all_goals (try (conv => whnf))); (all_goals (try (with_reducible exact trivial)))
              · refine ⟨⟨f1.1, Nat.le_trans f1.2 (by decide), f4⟩, ?_⟩
                (repeat' ((conv => whnf); (first | ((with_reducible refine spl (fun hc => ?_) (fun hc => ?_)) <;> (try (exfalso; omega))) | ((with_reducible refine spl' (fun hc => ?_) (fun hc => ?_)) <;> (try (exfalso; omega))) | (with_reducible refine imp_intro (fun hc => ?_)) | refine vcq (k := ?_) | refine dr 9 (k := ?_) | fail))); (all_goals (try (conv => whnf))); (all_goals (try (with_reducible exact trivial)))
                have hb1 : bit set i = true := hbit.1 hc
                have hany : ∀ n : Nat, (js.take (k + 1)).any (fun j => j.1 == (n : Int)) = ((js.take k).any (fun j => j.1 == (n : Int)) || (n == i)) := fun n => by
                  rw [htake, List.any_append]
                  congr 1
                  simp only [List.any_cons, List.any_nil, Bool.or_false]
                  rw [Bool.eq_iff_iff]
                  simp only [beq_iff_eq]
                  omega
                have hcl2 : bitsI .andNot .i64 (left : Int) (1 * 2 ^ (js.getD (k : Int).toNat (0, 0, 0)).1.toNat) = ((if bit left i then left - 2 ^ i else left : Nat) : Int) := by
                  rw [e0]
                  exact andNot64 ⟨left, p2⟩ ⟨i, hi6⟩
                have hcl3 := clear_lt ⟨left, p2⟩ ⟨i, hi6⟩
                have hcl4 := fun n (hn : n < 6) => bit_clear ⟨left, p2⟩ ⟨i, hi6⟩ ⟨n, hn⟩
                dsimp only at hcl3 hcl4
                generalize (if bit left i then left - 2 ^ i else left : Nat) = left' at *
                refine ⟨(k + 1, left', free + (js.getD (k : Int).toNat (0, 0, 0)).2.2, price + (js.getD (k : Int).toNat (0, 0, 0)).2.1), ⟨⟨by dsimp only; omega, hcl3, fun n hn => ?_, ⟨?_, by dsimp only; omega, by dsimp only; omega⟩, ?_, by dsimp only; omega, by dsimp only; omega⟩, by dsimp only; omega⟩, some [some 0, some 1, some 2, some 3, some 4], ?_⟩
                · dsimp only
                  rw [hcl4 n hn, hany, p3 n hn]
                  cases bit set n <;> cases (js.take k).any (fun j => j.1 == (n : Int)) <;> cases (n == i) <;> rfl
                · dsimp only
                  rw [htake, List.map_append, List.sum_append, p4.1, e0]
                  simp only [List.map_cons, List.map_nil, List.sum_cons, List.sum_nil, Int.toNat_natCast, hb1, if_true]
                  omega
                · dsimp only
                  rw [htake, List.map_append, List.sum_append, p5.1, e0]
                  simp only [List.map_cons, List.map_nil, List.sum_cons, List.sum_nil, Int.toNat_natCast, hb1, if_true]
                  omega
                · dsimp only
                  rw [hcl2]
                  (repeat' ((conv => whnf); (first | ((with_reducible refine spl (fun hc => ?_) (fun hc => ?_)) <;> (try (exfalso; omega))) | ((with_reducible refine spl' (fun hc => ?_) (fun hc => ?_)) <;> (try (exfalso; omega))) | (with_reducible refine imp_intro (fun hc => ?_)) | refine vcq (k := ?_) | refine dr 9 (k := ?_) | fail))); (all_goals (try (conv => whnf))); (all_goals (try (with_reducible exact trivial)))
              · have hb1 : bit set i = false := by simpa using fun h => hc (hbit.2 h)
                have hany : ∀ n : Nat, (js.take (k + 1)).any (fun j => j.1 == (n : Int)) = ((js.take k).any (fun j => j.1 == (n : Int)) || (n == i)) := fun n => by
                  rw [htake, List.any_append]
                  congr 1
                  simp only [List.any_cons, List.any_nil, Bool.or_false]
                  rw [Bool.eq_iff_iff]
                  simp only [beq_iff_eq]
                  omega
                refine ⟨(k + 1, left, free, price), ⟨⟨by dsimp only; omega, p2, fun n hn => ?_, ⟨?_, by dsimp only; omega, by dsimp only; omega⟩, ?_, by dsimp only; omega, by dsimp only; omega⟩, by dsimp only; omega⟩, some [some 0, some 1, some 2, some 3, some 4], ?_⟩
                · dsimp only
                  rw [hany, p3 n hn]
                  by_cases hni : n = i
                  · subst hni; simp [hb1]
                  · have e9 : (n == i) = false := by simpa using hni
                    rw [e9, Bool.or_false]
                · dsimp only
                  rw [htake, List.map_append, List.sum_append, p4.1]
                  simp [hb1]
                · dsimp only
                  rw [htake, List.map_append, List.sum_append, p5.1]
                  simp [hb1]
                · (repeat' ((conv => whnf); (first | ((with_reducible refine spl (fun hc => ?_) (fun hc => ?_)) <;> (try (exfalso; omega))) | ((with_reducible refine spl' (fun hc => ?_) (fun hc => ?_)) <;> (try (exfalso; omega))) | (with_reducible refine imp_intro (fun hc => ?_)) | refine vcq (k := ?_) | refine dr 9 (k := ?_) | fail))); (all_goals (try (conv => whnf))); (all_goals (try (with_reducible exact trivial)))
            · obtain rfl : k = js.length := by omega
              rw [List.take_length] at p3 p4 p5
              have hzero := hok set left hset p2 p3
              have hfit : (left ≠ 0 ∨ free < need) ↔ ¬ b.fitSet (St.run b l).keys need set = true := by
                unfold Bands.fitSet
                rw [Bool.and_eq_true, ← hzero, decide_eq_true_eq, hlen, ← hsS]
                omega
              have hprice : price = b.sumC (St.run b l).keys set b.B.toNat := by rw [p5.1, hsC]
              have hnext : (List.range (set + 1)).foldl (b.stepSet (St.run b l).keys need) (0, 0, false) = b.stepSet (St.run b l).keys need (r1, r2, r3) set := by
                rw [List.range_succ, List.foldl_append, ← q2]
                rfl
              (repeat' ((conv => whnf); (first | ((with_reducible refine spl (fun hc => ?_) (fun hc => ?_)) <;> (try (exfalso; omega))) | ((with_reducible refine spl' (fun hc => ?_) (fun hc => ?_)) <;> (try (exfalso; omega))) | (with_reducible refine imp_intro (fun hc => ?_)) | refine vcq (k := ?_) | refine dr 9 (k := ?_) | fail))); (all_goals (try (conv => whnf))); (all_goals (try (with_reducible exact trivial)))
              · dsimp only at hc
                have hno : ¬ (b.fitSet (St.run b l).keys need set = true ∧ (r3 = false ∨ b.sumC (St.run b l).keys set b.B.toNat < r2)) := by
                  rintro ⟨h1, h2⟩
                  rcases hc with hc | hc
                  · exact hfit.1 (by omega) h1
                  · rcases h2 with h2 | h2
                    · rw [h2] at hc; simp at hc
                    · omega
                refine ⟨(set + 1, r1, r2, r3), ⟨⟨by dsimp only; omega, ?_⟩, by dsimp only; omega⟩, some [some 0, some 1, some 2, some 3, some 4], ?_⟩
                · dsimp only
                  rw [hnext, Bands.stepSet, if_neg hno]
                · (repeat' ((conv => whnf); (first | ((with_reducible refine spl (fun hc => ?_) (fun hc => ?_)) <;> (try (exfalso; omega))) | ((with_reducible refine spl' (fun hc => ?_) (fun hc => ?_)) <;> (try (exfalso; omega))) | (with_reducible refine imp_intro (fun hc => ?_)) | refine vcq (k := ?_) | refine dr 9 (k := ?_) | fail))); (all_goals (try (conv => whnf))); (all_goals (try (with_reducible exact trivial)))
              · dsimp only at hc
                have hyes : b.fitSet (St.run b l).keys need set = true ∧ (r3 = false ∨ b.sumC (St.run b l).keys set b.B.toNat < r2) := by
                  refine ⟨Classical.byContradiction fun h => hc (.inl (by have := hfit.2 h; omega)), ?_⟩
                  cases hr : r3
                  · exact .inl rfl
                  · right
                    rw [← hprice]
                    have : ¬ (r2 ≤ price) := fun h => hc (.inr ⟨hr, h⟩)
                    omega
                refine ⟨(set + 1, (set : Int), price, true), ⟨⟨by dsimp only; omega, ?_⟩, by dsimp only; omega⟩, some [some 0, some 1, some 2, some 3, some 4], ?_⟩
                · dsimp only
                  rw [hnext, Bands.stepSet, if_pos hyes, hprice]
                · (repeat' ((conv => whnf); (first | ((with_reducible refine spl (fun hc => ?_) (fun hc => ?_)) <;> (try (exfalso; omega))) | ((with_reducible refine spl' (fun hc => ?_) (fun hc => ?_)) <;> (try (exfalso; omega))) | (with_reducible refine imp_intro (fun hc => ?_)) | refine vcq (k := ?_) | refine dr 9 (k := ?_) | fail))); (all_goals (try (conv => whnf))); (all_goals (try (with_reducible exact trivial)))
        · obtain rfl : set = M := by dsimp only at hc; omega
          have hbest : b.best (St.run b l).keys need = (r1, r2, r3) := by unfold Bands.best; rw [hM, ← q2]
          rw [hbest]
          refine ⟨_, rfl, ?_⟩
          (repeat' ((conv => whnf); (first | ((with_reducible refine spl (fun hc => ?_) (fun hc => ?_)) <;> (try (exfalso; omega))) | ((with_reducible refine spl' (fun hc => ?_) (fun hc => ?_)) <;> (try (exfalso; omega))) | (with_reducible refine imp_intro (fun hc => ?_)) | refine vcq (k := ?_) | refine dr 9 (k := ?_) | fail))); (all_goals (try (conv => whnf))); (all_goals (try (with_reducible exact trivial)))
end Go.Proofs

namespace Go.Proofs
open Go Go.Sx
set_option maxRecDepth 100000
set_option maxHeartbeats 4000000
-- SxAid2

theorem within35 (n x y : Int) : PureC Try.prog 35 false [.int .i64 n, .int .i64 x, .int .i64 y] (· = .prop (x ≤ n ∧ n ≤ y) inferInstance) := by
  refine pureC_of_exec Try.E_ok Try.func35 rfl (by kernel_rfl) ?_
  (repeat' ((conv => whnf); (first | ((with_reducible refine spl (fun hc => ?_) (fun hc => ?_)) <;> (try (exfalso; omega))) | ((with_reducible refine spl' (fun hc => ?_) (fun hc => ?_)) <;> (try (exfalso; omega))) | (with_reducible refine imp_intro (fun hc => ?_)) | refine vcq (k := ?_) | refine dr 1 (k := ?_) | refine dr 2 (k := ?_) | refine dr 3 (k := ?_) | refine dr 4 (k := ?_) | refine dr 5 (k := ?_) | refine dr 6 (k := ?_) | refine dr 7 (k := ?_) | refine dr 8 (k := ?_) | refine dr 9 (k := ?_) | refine dr 10 (k := ?_) | refine dr 11 (k := ?_) | refine dr 12 (k := ?_) | refine dr 1001 (k := ?_) | refine dr 1002 (k := ?_) | refine dr 1003 (k := ?_) | refine dr 1004 (k := ?_) | refine dr 1005 (k := ?_) | refine dr 1006 (k := ?_) | refine dr 1007 (k := ?_) | refine dr 1008 (k := ?_) | refine dr 1009 (k := ?_) | refine dr 1010 (k := ?_) | refine dr 1011 (k := ?_) | refine dr 1012 (k := ?_) | refine dr 1013 (k := ?_) | refine dr 1014 (k := ?_) | refine dr 1015 (k := ?_) | refine dr 1016 (k := ?_) | fail))); (all_goals (try (conv => whnf))); (all_goals (try (with_reducible exact trivial)))
  refine ⟨_, rfl, ?_⟩
  (repeat' ((conv => whnf); (first | ((with_reducible refine spl (fun hc => ?_) (fun hc => ?_)) <;> (try (exfalso; omega))) | ((with_reducible refine spl' (fun hc => ?_) (fun hc => ?_)) <;> (try (exfalso; omega))) | (with_reducible refine imp_intro (fun hc => ?_)) | refine vcq (k := ?_) | refine dr 1 (k := ?_) | refine dr 2 (k := ?_) | refine dr 3 (k := ?_) | refine dr 4 (k := ?_) | refine dr 5 (k := ?_) | refine dr 6 (k := ?_) | refine dr 7 (k := ?_) | refine dr 8 (k := ?_) | refine dr 9 (k := ?_) | refine dr 10 (k := ?_) | refine dr 11 (k := ?_) | refine dr 12 (k := ?_) | refine dr 1001 (k := ?_) | refine dr 1002 (k := ?_) | refine dr 1003 (k := ?_) | refine dr 1004 (k := ?_) | refine dr 1005 (k := ?_) | refine dr 1006 (k := ?_) | refine dr 1007 (k := ?_) | refine dr 1008 (k := ?_) | refine dr 1009 (k := ?_) | refine dr 1010 (k := ?_) | refine dr 1011 (k := ?_) | refine dr 1012 (k := ?_) | refine dr 1013 (k := ?_) | refine dr 1014 (k := ?_) | refine dr 1015 (k := ?_) | refine dr 1016 (k := ?_) | fail))); (all_goals (try (conv => whnf))); (all_goals (try (with_reducible exact trivial)))

theorem many18 (b : Bands) (hb : b.Ok) : PureC Try.prog 18 false [b.v] (· = .int .i64 b.N) := by
  have hNb := N_bounds hb
  have h1 : b.B * b.T * b.K = b.N := rfl
  refine pureC_of_exec Try.E_ok Try.func18 rfl (by kernel_rfl) ?_
  (repeat' ((conv => whnf); (first | ((with_reducible refine spl (fun hc => ?_) (fun hc => ?_)) <;> (try (exfalso; omega))) | ((with_reducible refine spl' (fun hc => ?_) (fun hc => ?_)) <;> (try (exfalso; omega))) | (with_reducible refine imp_intro (fun hc => ?_)) | refine vcq (k := ?_) | refine dr 1 (k := ?_) | refine dr 2 (k := ?_) | refine dr 3 (k := ?_) | refine dr 4 (k := ?_) | refine dr 5 (k := ?_) | refine dr 6 (k := ?_) | refine dr 7 (k := ?_) | refine dr 8 (k := ?_) | refine dr 9 (k := ?_) | refine dr 10 (k := ?_) | refine dr 11 (k := ?_) | refine dr 12 (k := ?_) | refine dr 1001 (k := ?_) | refine dr 1002 (k := ?_) | refine dr 1003 (k := ?_) | refine dr 1004 (k := ?_) | refine dr 1005 (k := ?_) | refine dr 1006 (k := ?_) | refine dr 1007 (k := ?_) | refine dr 1008 (k := ?_) | refine dr 1009 (k := ?_) | refine dr 1010 (k := ?_) | refine dr 1011 (k := ?_) | refine dr 1012 (k := ?_) | refine dr 1013 (k := ?_) | refine dr 1014 (k := ?_) | refine dr 1015 (k := ?_) | refine dr 1016 (k := ?_) | fail))); (all_goals (try (conv => whnf))); (all_goals (try (with_reducible exact trivial)))
  refine ⟨_, rfl, ?_⟩
  (repeat' ((conv => whnf); (first | ((with_reducible refine spl (fun hc => ?_) (fun hc => ?_)) <;> (try (exfalso; omega))) | ((with_reducible refine spl' (fun hc => ?_) (fun hc => ?_)) <;> (try (exfalso; omega))) | (with_reducible refine imp_intro (fun hc => ?_)) | refine vcq (k := ?_) | refine dr 1 (k := ?_) | refine dr 2 (k := ?_) | refine dr 3 (k := ?_) | refine dr 4 (k := ?_) | refine dr 5 (k := ?_) | refine dr 6 (k := ?_) | refine dr 7 (k := ?_) | refine dr 8 (k := ?_) | refine dr 9 (k := ?_) | refine dr 10 (k := ?_) | refine dr 11 (k := ?_) | refine dr 12 (k := ?_) | refine dr 1001 (k := ?_) | refine dr 1002 (k := ?_) | refine dr 1003 (k := ?_) | refine dr 1004 (k := ?_) | refine dr 1005 (k := ?_) | refine dr 1006 (k := ?_) | refine dr 1007 (k := ?_) | refine dr 1008 (k := ?_) | refine dr 1009 (k := ?_) | refine dr 1010 (k := ?_) | refine dr 1011 (k := ?_) | refine dr 1012 (k := ?_) | refine dr 1013 (k := ?_) | refine dr 1014 (k := ?_) | refine dr 1015 (k := ?_) | refine dr 1016 (k := ?_) | fail))); (all_goals (try (conv => whnf))); (all_goals (try (with_reducible exact trivial)))

theorem isBlock12 (b : Bands) (hb : b.Ok) (n : Int) : PureC Try.prog 12 false [b.v, .int .i64 n] (· = .prop (0 ≤ n ∧ n < b.N) inferInstance) := by
  have hNb := N_bounds hb
  refine pureC_of_exec Try.E_ok Try.func12 rfl (by kernel_rfl) ?_
  (repeat' ((conv => whnf); (first | ((with_reducible refine spl (fun hc => ?_) (fun hc => ?_)) <;> (try (exfalso; omega))) | ((with_reducible refine spl' (fun hc => ?_) (fun hc => ?_)) <;> (try (exfalso; omega))) | (with_reducible refine imp_intro (fun hc => ?_)) | refine vcq (k := ?_) | refine dr 1 (k := ?_) | refine dr 2 (k := ?_) | refine dr 3 (k := ?_) | refine dr 4 (k := ?_) | refine dr 5 (k := ?_) | refine dr 6 (k := ?_) | refine dr 7 (k := ?_) | refine dr 8 (k := ?_) | refine dr 9 (k := ?_) | refine dr 10 (k := ?_) | refine dr 11 (k := ?_) | refine dr 12 (k := ?_) | refine dr 1001 (k := ?_) | refine dr 1002 (k := ?_) | refine dr 1003 (k := ?_) | refine dr 1004 (k := ?_) | refine dr 1005 (k := ?_) | refine dr 1006 (k := ?_) | refine dr 1007 (k := ?_) | refine dr 1008 (k := ?_) | refine dr 1009 (k := ?_) | refine dr 1010 (k := ?_) | refine dr 1011 (k := ?_) | refine dr 1012 (k := ?_) | refine dr 1013 (k := ?_) | refine dr 1014 (k := ?_) | refine dr 1015 (k := ?_) | refine dr 1016 (k := ?_) | fail))); (all_goals (try (conv => whnf))); (all_goals (try (with_reducible exact trivial))); (repeat' ((first | (refine callee_fo (many18 b hb) rfl ?_; rintro _ rfl) | (refine pcall_intro (many18 b hb) rfl ?_) | (refine pcall_soft (fun _ => many18 b hb) rfl ?_) | (refine callee_fo (within35 n 0 (b.N - 1)) rfl ?_; rintro _ rfl) | (refine pcall_intro (within35 n 0 (b.N - 1)) rfl ?_) | (refine pcall_soft (fun _ => within35 n 0 (b.N - 1)) rfl ?_)); (repeat' ((conv => whnf); (first | ((with_reducible refine spl (fun hc => ?_) (fun hc => ?_)) <;> (try (exfalso; omega))) | ((with_reducible refine spl' (fun hc => ?_) (fun hc => ?_)) <;> (try (exfalso; omega))) | (with_reducible refine imp_intro (fun hc => ?_)) | refine vcq (k := ?_) | refine dr 1 (k := ?_) | refine dr 2 (k := ?_) | refine dr 3 (k := ?_) | refine dr 4 (k := ?_) | refine dr 5 (k := ?_) | refine dr 6 (k := ?_) | refine dr 7 (k := ?_) | refine dr 8 (k := ?_) | refine dr 9 (k := ?_) | refine dr 10 (k := ?_) | refine dr 11 (k := ?_) | refine dr 12 (k := ?_) | refine dr 1001 (k := ?_) | refine dr 1002 (k := ?_) | refine dr 1003 (k := ?_) | refine dr 1004 (k := ?_) | refine dr 1005 (k := ?_) | refine dr 1006 (k := ?_) | refine dr 1007 (k := ?_) | refine dr 1008 (k := ?_) | refine dr 1009 (k := ?_) | refine dr 1010 (k := ?_) | refine dr 1011 (k := ?_) | refine dr 1012 (k := ?_) | refine dr 1013 (k := ?_) | refine dr 1014 (k := ?_) | refine dr 1015 (k := ?_) | refine dr 1016 (k := ?_) | fail))); (all_goals (try (conv => whnf))); (all_goals (try (with_reducible exact trivial))))); (all_goals (try (refine ⟨_, rfl, ?_⟩; (repeat' ((conv => whnf); (first | ((with_reducible refine spl (fun hc => ?_) (fun hc => ?_)) <;> (try (exfalso; omega))) | ((with_reducible refine spl' (fun hc => ?_) (fun hc => ?_)) <;> (try (exfalso; omega))) | (with_reducible refine imp_intro (fun hc => ?_)) | refine vcq (k := ?_) | refine dr 1 (k := ?_) | refine dr 2 (k := ?_) | refine dr 3 (k := ?_) | refine dr 4 (k := ?_) | refine dr 5 (k := ?_) | refine dr 6 (k := ?_) | refine dr 7 (k := ?_) | refine dr 8 (k := ?_) | refine dr 9 (k := ?_) | refine dr 10 (k := ?_) | refine dr 11 (k := ?_) | refine dr 12 (k := ?_) | refine dr 1001 (k := ?_) | refine dr 1002 (k := ?_) | refine dr 1003 (k := ?_) | refine dr 1004 (k := ?_) | refine dr 1005 (k := ?_) | refine dr 1006 (k := ?_) | refine dr 1007 (k := ?_) | refine dr 1008 (k := ?_) | refine dr 1009 (k := ?_) | refine dr 1010 (k := ?_) | refine dr 1011 (k := ?_) | refine dr 1012 (k := ?_) | refine dr 1013 (k := ?_) | refine dr 1014 (k := ?_) | refine dr 1015 (k := ?_) | refine dr 1016 (k := ?_) | fail))); (all_goals (try (conv => whnf))); (all_goals (try (with_reducible exact trivial))))))

theorem isBands46 (b : Bands) : PureC Try.prog 46 false [b.v] (· = .prop b.Ok (Classical.propDecidable _)) := by
  refine pureC_of_exec Try.E_ok Try.func46 rfl (by kernel_rfl) ?_
  (repeat' ((conv => whnf); (first | ((with_reducible refine spl (fun hc => ?_) (fun hc => ?_)) <;> (try (exfalso; omega))) | ((with_reducible refine spl' (fun hc => ?_) (fun hc => ?_)) <;> (try (exfalso; omega))) | (with_reducible refine imp_intro (fun hc => ?_)) | refine vcq (k := ?_) | refine dr 1 (k := ?_) | refine dr 2 (k := ?_) | refine dr 3 (k := ?_) | refine dr 4 (k := ?_) | refine dr 5 (k := ?_) | refine dr 6 (k := ?_) | refine dr 7 (k := ?_) | refine dr 8 (k := ?_) | refine dr 9 (k := ?_) | refine dr 10 (k := ?_) | refine dr 11 (k := ?_) | refine dr 12 (k := ?_) | refine dr 1001 (k := ?_) | refine dr 1002 (k := ?_) | refine dr 1003 (k := ?_) | refine dr 1004 (k := ?_) | refine dr 1005 (k := ?_) | refine dr 1006 (k := ?_) | refine dr 1007 (k := ?_) | refine dr 1008 (k := ?_) | refine dr 1009 (k := ?_) | refine dr 1010 (k := ?_) | refine dr 1011 (k := ?_) | refine dr 1012 (k := ?_) | refine dr 1013 (k := ?_) | refine dr 1014 (k := ?_) | refine dr 1015 (k := ?_) | refine dr 1016 (k := ?_) | fail))); (all_goals (try (conv => whnf))); (all_goals (try (with_reducible exact trivial))); (repeat' ((first | (refine callee_fo (within35 b.B 1 6) rfl ?_; rintro _ rfl) | (refine pcall_intro (within35 b.B 1 6) rfl ?_) | (refine pcall_soft (fun _ => within35 b.B 1 6) rfl ?_) | (refine callee_fo (within35 b.T 1 6) rfl ?_; rintro _ rfl) | (refine pcall_intro (within35 b.T 1 6) rfl ?_) | (refine pcall_soft (fun _ => within35 b.T 1 6) rfl ?_) | (refine callee_fo (within35 b.K 1 4) rfl ?_; rintro _ rfl) | (refine pcall_intro (within35 b.K 1 4) rfl ?_) | (refine pcall_soft (fun _ => within35 b.K 1 4) rfl ?_) | (refine callee_fo (within35 b.C 1 12) rfl ?_; rintro _ rfl) | (refine pcall_intro (within35 b.C 1 12) rfl ?_) | (refine pcall_soft (fun _ => within35 b.C 1 12) rfl ?_) | (refine callee_fo (within35 b.L 1 20) rfl ?_; rintro _ rfl) | (refine pcall_intro (within35 b.L 1 20) rfl ?_) | (refine pcall_soft (fun _ => within35 b.L 1 20) rfl ?_)); (repeat' ((conv => whnf); (first | ((with_reducible refine spl (fun hc => ?_) (fun hc => ?_)) <;> (try (exfalso; omega))) | ((with_reducible refine spl' (fun hc => ?_) (fun hc => ?_)) <;> (try (exfalso; omega))) | (with_reducible refine imp_intro (fun hc => ?_)) | refine vcq (k := ?_) | refine dr 1 (k := ?_) | refine dr 2 (k := ?_) | refine dr 3 (k := ?_) | refine dr 4 (k := ?_) | refine dr 5 (k := ?_) | refine dr 6 (k := ?_) | refine dr 7 (k := ?_) | refine dr 8 (k := ?_) | refine dr 9 (k := ?_) | refine dr 10 (k := ?_) | refine dr 11 (k := ?_) | refine dr 12 (k := ?_) | refine dr 1001 (k := ?_) | refine dr 1002 (k := ?_) | refine dr 1003 (k := ?_) | refine dr 1004 (k := ?_) | refine dr 1005 (k := ?_) | refine dr 1006 (k := ?_) | refine dr 1007 (k := ?_) | refine dr 1008 (k := ?_) | refine dr 1009 (k := ?_) | refine dr 1010 (k := ?_) | refine dr 1011 (k := ?_) | refine dr 1012 (k := ?_) | refine dr 1013 (k := ?_) | refine dr 1014 (k := ?_) | refine dr 1015 (k := ?_) | refine dr 1016 (k := ?_) | fail))); (all_goals (try (conv => whnf))); (all_goals (try (with_reducible exact trivial))))); (all_goals (try (refine ⟨_, rfl, ?_⟩; (repeat' ((conv => whnf); (first | ((with_reducible refine spl (fun hc => ?_) (fun hc => ?_)) <;> (try (exfalso; omega))) | ((with_reducible refine spl' (fun hc => ?_) (fun hc => ?_)) <;> (try (exfalso; omega))) | (with_reducible refine imp_intro (fun hc => ?_)) | refine vcq (k := ?_) | refine dr 1 (k := ?_) | refine dr 2 (k := ?_) | refine dr 3 (k := ?_) | refine dr 4 (k := ?_) | refine dr 5 (k := ?_) | refine dr 6 (k := ?_) | refine dr 7 (k := ?_) | refine dr 8 (k := ?_) | refine dr 9 (k := ?_) | refine dr 10 (k := ?_) | refine dr 11 (k := ?_) | refine dr 12 (k := ?_) | refine dr 1001 (k := ?_) | refine dr 1002 (k := ?_) | refine dr 1003 (k := ?_) | refine dr 1004 (k := ?_) | refine dr 1005 (k := ?_) | refine dr 1006 (k := ?_) | refine dr 1007 (k := ?_) | refine dr 1008 (k := ?_) | refine dr 1009 (k := ?_) | refine dr 1010 (k := ?_) | refine dr 1011 (k := ?_) | refine dr 1012 (k := ?_) | refine dr 1013 (k := ?_) | refine dr 1014 (k := ?_) | refine dr 1015 (k := ?_) | refine dr 1016 (k := ?_) | fail))); (all_goals (try (conv => whnf))); (all_goals (try (with_reducible exact trivial))))))
  · exact ⟨⟨fun h => ⟨by assumption, by assumption, by assumption, by assumption, h⟩, fun h => h.L⟩, trivial⟩
  · exact ⟨fun h => hc h.C, trivial⟩
  · exact ⟨fun h => hc h.K, trivial⟩
  · exact ⟨fun h => hc h.T, trivial⟩
  · exact ⟨fun h => hc h.B, trivial⟩

theorem areWrites47 (b : Bands) (hb : b.Ok) (l : List (Int × Int)) (hl : l.length ≤ 8000) : PureC Try.prog 47 false [b.v, .sl 2 l.length (rowOf wC (0, 0) l)] (· = .prop (AreW b l) (Classical.propDecidable _)) := by
  refine pureC_of_exec Try.E_ok Try.func47 rfl (by kernel_rfl) ?_
  (repeat' ((conv => whnf); (first | ((with_reducible refine spl (fun hc => ?_) (fun hc => ?_)) <;> (try (exfalso; omega))) | ((with_reducible refine spl' (fun hc => ?_) (fun hc => ?_)) <;> (try (exfalso; omega))) | (with_reducible refine imp_intro (fun hc => ?_)) | refine vcq (k := ?_) | refine dr 17 (k := ?_) | fail))); (all_goals (try (conv => whnf))); (all_goals (try (with_reducible exact trivial)))
  refine ⟨Nat, fun i => i ≤ l.length ∧ AreW b (l.take i), fun i => l.length - i, fun i => [(5, .int .i64 i)], fun _ => [], fun _ => [], 0, ⟨⟨by omega, fun w hw => by simp at hw⟩, some [some 0], ?_⟩, ?_⟩
  · (repeat' ((conv => whnf); (first | ((with_reducible refine spl (fun hc => ?_) (fun hc => ?_)) <;> (try (exfalso; omega))) | ((with_reducible refine spl' (fun hc => ?_) (fun hc => ?_)) <;> (try (exfalso; omega))) | (with_reducible refine imp_intro (fun hc => ?_)) | refine vcq (k := ?_) | refine dr 17 (k := ?_) | fail))); (all_goals (try (conv => whnf))); (all_goals (try (with_reducible exact trivial)))
  · rintro i ⟨h1, h2⟩
    have hti : (i : Int).toNat = i := Int.toNat_natCast i
    (repeat' ((conv => whnf); (first | ((with_reducible refine spl (fun hc => ?_) (fun hc => ?_)) <;> (try (exfalso; omega))) | ((with_reducible refine spl' (fun hc => ?_) (fun hc => ?_)) <;> (try (exfalso; omega))) | (with_reducible refine imp_intro (fun hc => ?_)) | refine vcq (k := ?_) | refine dr 17 (k := ?_) | fail))); (all_goals (try (conv => whnf))); (all_goals (try (with_reducible exact trivial))); (repeat' ((first | (refine callee_fo (isBlock12 b hb (l.getD (i : Int).toNat (0, 0)).1) rfl ?_; rintro _ rfl) | (refine pcall_intro (isBlock12 b hb (l.getD (i : Int).toNat (0, 0)).1) rfl ?_) | (refine pcall_soft (fun _ => isBlock12 b hb (l.getD (i : Int).toNat (0, 0)).1) rfl ?_) | (refine callee_fo (within35 (l.getD (i : Int).toNat (0, 0)).2 0 999) rfl ?_; rintro _ rfl) | (refine pcall_intro (within35 (l.getD (i : Int).toNat (0, 0)).2 0 999) rfl ?_) | (refine pcall_soft (fun _ => within35 (l.getD (i : Int).toNat (0, 0)).2 0 999) rfl ?_)); (repeat' ((conv => whnf); (first | ((with_reducible refine spl (fun hc => ?_) (fun hc => ?_)) <;> (try (exfalso; omega))) | ((with_reducible refine spl' (fun hc => ?_) (fun hc => ?_)) <;> (try (exfalso; omega))) | (with_reducible refine imp_intro (fun hc => ?_)) | refine vcq (k := ?_) | refine dr 17 (k := ?_) | fail))); (all_goals (try (conv => whnf))); (all_goals (try (with_reducible exact trivial))))); (all_goals (try (refine ⟨_, rfl, ?_⟩; (repeat' ((conv => whnf); (first | ((with_reducible refine spl (fun hc => ?_) (fun hc => ?_)) <;> (try (exfalso; omega))) | ((with_reducible refine spl' (fun hc => ?_) (fun hc => ?_)) <;> (try (exfalso; omega))) | (with_reducible refine imp_intro (fun hc => ?_)) | refine vcq (k := ?_) | refine dr 17 (k := ?_) | fail))); (all_goals (try (conv => whnf))); (all_goals (try (with_reducible exact trivial))))))
    · rw [hti] at hc
      rename_i hlt
      have hi : i < l.length := by omega
      refine ⟨fun h => ?_, trivial⟩
      have := h _ (getD_mem (d := (0, 0)) hi)
      omega
    · rw [hti] at hc
      rename_i hlt
      have hi : i < l.length := by omega
      refine ⟨i + 1, ⟨⟨by omega, fun w hw => ?_⟩, by dsimp only; omega⟩, some [some 0], ?_⟩
      · rw [take_succ_getD (0, 0) hi] at hw
        rcases List.mem_append.1 hw with hw | hw
        · exact h2 w hw
        · rw [List.mem_singleton.1 hw]
          omega
      · (repeat' ((conv => whnf); (first | ((with_reducible refine spl (fun hc => ?_) (fun hc => ?_)) <;> (try (exfalso; omega))) | ((with_reducible refine spl' (fun hc => ?_) (fun hc => ?_)) <;> (try (exfalso; omega))) | (with_reducible refine imp_intro (fun hc => ?_)) | refine vcq (k := ?_) | refine dr 17 (k := ?_) | fail))); (all_goals (try (conv => whnf))); (all_goals (try (with_reducible exact trivial)))
    · obtain rfl : i = l.length := by omega
      rw [List.take_length] at h2
      exact ⟨h2, trivial⟩

theorem check29 (b : Bands) (l : List (Int × Int)) (hl : l.length ≤ 8000) : PureC Try.prog 29 false [b.v, .sl 2 l.length (rowOf wC (0, 0) l)] (· = .int .i64 (chk b l)) := by
  refine pureC_of_exec Try.E_ok Try.func29 rfl (by kernel_rfl) ?_
  (repeat' ((conv => whnf); (first | ((with_reducible refine spl (fun hc => ?_) (fun hc => ?_)) <;> (try (exfalso; omega))) | ((with_reducible refine spl' (fun hc => ?_) (fun hc => ?_)) <;> (try (exfalso; omega))) | (with_reducible refine imp_intro (fun hc => ?_)) | refine vcq (k := ?_) | refine dr 17 (k := ?_) | fail))); (all_goals (try (conv => whnf))); (all_goals (try (with_reducible exact trivial))); (repeat' ((first | (refine callee_fo (isBands46 b) rfl ?_; rintro _ rfl) | (refine pcall_intro (isBands46 b) rfl ?_) | (refine pcall_soft (fun _ => isBands46 b) rfl ?_)); (repeat' ((conv => whnf); (first | ((with_reducible refine spl (fun hc => ?_) (fun hc => ?_)) <;> (try (exfalso; omega))) | ((with_reducible refine spl' (fun hc => ?_) (fun hc => ?_)) <;> (try (exfalso; omega))) | (with_reducible refine imp_intro (fun hc => ?_)) | refine vcq (k := ?_) | refine dr 17 (k := ?_) | fail))); (all_goals (try (conv => whnf))); (all_goals (try (with_reducible exact trivial))))); (all_goals (try (refine ⟨_, rfl, ?_⟩; (repeat' ((conv => whnf); (first | ((with_reducible refine spl (fun hc => ?_) (fun hc => ?_)) <;> (try (exfalso; omega))) | ((with_reducible refine spl' (fun hc => ?_) (fun hc => ?_)) <;> (try (exfalso; omega))) | (with_reducible refine imp_intro (fun hc => ?_)) | refine vcq (k := ?_) | refine dr 17 (k := ?_) | fail))); (all_goals (try (conv => whnf))); (all_goals (try (with_reducible exact trivial))))))
  · refine ⟨?_, trivial⟩
    unfold chk
    rw [if_pos hc]
  · rename_i h1
    have hok := Classical.not_not.1 h1
    refine ⟨?_, trivial⟩
    unfold chk
    rw [if_neg (fun h => h hok), if_pos (by omega)]
  · rename_i h1
    have hok := Classical.not_not.1 h1
    (repeat' ((conv => whnf); (first | ((with_reducible refine spl (fun hc => ?_) (fun hc => ?_)) <;> (try (exfalso; omega))) | ((with_reducible refine spl' (fun hc => ?_) (fun hc => ?_)) <;> (try (exfalso; omega))) | (with_reducible refine imp_intro (fun hc => ?_)) | refine vcq (k := ?_) | refine dr 17 (k := ?_) | fail))); (all_goals (try (conv => whnf))); (all_goals (try (with_reducible exact trivial))); (repeat' ((first | (refine callee_fo (areWrites47 b hok l hl) rfl ?_; rintro _ rfl) | (refine pcall_intro (areWrites47 b hok l hl) rfl ?_) | (refine pcall_soft (fun _ => areWrites47 b hok l hl) rfl ?_)); (repeat' ((conv => whnf); (first | ((with_reducible refine spl (fun hc => ?_) (fun hc => ?_)) <;> (try (exfalso; omega))) | ((with_reducible refine spl' (fun hc => ?_) (fun hc => ?_)) <;> (try (exfalso; omega))) | (with_reducible refine imp_intro (fun hc => ?_)) | refine vcq (k := ?_) | refine dr 17 (k := ?_) | fail))); (all_goals (try (conv => whnf))); (all_goals (try (with_reducible exact trivial))))); (all_goals (try (refine ⟨_, rfl, ?_⟩; (repeat' ((conv => whnf); (first | ((with_reducible refine spl (fun hc => ?_) (fun hc => ?_)) <;> (try (exfalso; omega))) | ((with_reducible refine spl' (fun hc => ?_) (fun hc => ?_)) <;> (try (exfalso; omega))) | (with_reducible refine imp_intro (fun hc => ?_)) | refine vcq (k := ?_) | refine dr 17 (k := ?_) | fail))); (all_goals (try (conv => whnf))); (all_goals (try (with_reducible exact trivial))))))
    · refine ⟨?_, trivial⟩
      unfold chk
      rw [if_neg (fun h => h hok), if_neg (by omega), if_pos hc]
    · refine ⟨?_, trivial⟩
      unfold chk
      rw [if_neg (fun h => h hok), if_neg (by omega), if_neg hc]

theorem ready11 (b : Bands) (l : List (Int × Int)) (hl : l.length ≤ 9223372036854775807) : PureC Try.prog 11 false [b.v, .sl 2 l.length (rowOf wC (0, 0) l)] (· = .prop (chk b l = 0) (Classical.propDecidable _)) := by
  refine pureC_of_exec Try.E_ok Try.func11 rfl (by kernel_rfl) ?_
  (repeat' ((conv => whnf); (first | ((with_reducible refine spl (fun hc => ?_) (fun hc => ?_)) <;> (try (exfalso; omega))) | ((with_reducible refine spl' (fun hc => ?_) (fun hc => ?_)) <;> (try (exfalso; omega))) | (with_reducible refine imp_intro (fun hc => ?_)) | refine vcq (k := ?_) | refine dr 17 (k := ?_) | fail))); (all_goals (try (conv => whnf))); (all_goals (try (with_reducible exact trivial)))
  · refine callee_fo (check29 b l (by omega)) rfl ?_
    rintro _ rfl
    (repeat' ((conv => whnf); (first | ((with_reducible refine spl (fun hc => ?_) (fun hc => ?_)) <;> (try (exfalso; omega))) | ((with_reducible refine spl' (fun hc => ?_) (fun hc => ?_)) <;> (try (exfalso; omega))) | (with_reducible refine imp_intro (fun hc => ?_)) | refine vcq (k := ?_) | refine dr 17 (k := ?_) | fail))); (all_goals (try (conv => whnf))); (all_goals (try (with_reducible exact trivial)))
    refine ⟨_, rfl, ?_⟩
    (repeat' ((conv => whnf); (first | ((with_reducible refine spl (fun hc => ?_) (fun hc => ?_)) <;> (try (exfalso; omega))) | ((with_reducible refine spl' (fun hc => ?_) (fun hc => ?_)) <;> (try (exfalso; omega))) | (with_reducible refine imp_intro (fun hc => ?_)) | refine vcq (k := ?_) | refine dr 17 (k := ?_) | fail))); (all_goals (try (conv => whnf))); (all_goals (try (with_reducible exact trivial)))
  · refine ⟨_, rfl, ?_⟩
    exact ⟨fun h => by have := (chk_ok h).2.1; omega, trivial⟩

/-! the example -/
def exB : Bands := ⟨3, 2, 2, 3, 2⟩
def exL : List (Int × Int) := [(0, 5), (3, 6), (5, 7), (0, 8), (8, 9), (4, 1), (7, 2)]

theorem exB_ok : exB.Ok := ⟨by decide, by decide, by decide, by decide, by decide⟩

theorem ex_chk : chk exB exL = 0 := by
  unfold chk
  rw [if_neg (fun h => h exB_ok), if_neg (by decide), if_neg (fun h => h (by unfold AreW; decide))]

theorem example36 : PureC Try.prog 36 false [] (· = .tup [exB.v, .sl 2 exL.length (rowOf wC (0, 0) exL)]) := by
  refine pureC_of_exec Try.E_ok Try.func36 rfl (by kernel_rfl) ?_
  (repeat' ((conv => whnf); (first | ((with_reducible refine spl (fun hc => ?_) (fun hc => ?_)) <;> (try (exfalso; omega))) | ((with_reducible refine spl' (fun hc => ?_) (fun hc => ?_)) <;> (try (exfalso; omega))) | (with_reducible refine imp_intro (fun hc => ?_)) | refine vcq (k := ?_) | refine dr 17 (k := ?_) | fail))); (all_goals (try (conv => whnf))); (all_goals (try (with_reducible exact trivial)))
  refine ⟨_, rfl, ?_⟩
  (repeat' ((conv => whnf); (first | ((with_reducible refine spl (fun hc => ?_) (fun hc => ?_)) <;> (try (exfalso; omega))) | ((with_reducible refine spl' (fun hc => ?_) (fun hc => ?_)) <;> (try (exfalso; omega))) | (with_reducible refine imp_intro (fun hc => ?_)) | refine vcq (k := ?_) | refine dr 17 (k := ?_) | fail))); (all_goals (try (conv => whnf))); (all_goals (try (with_reducible exact trivial)))
  refine ⟨fun i hi => ?_, .inr fun i _ => rfl, ?_⟩
  · match i, hi with
    | 0, _ => rfl
    | 1, _ => rfl
    | 2, _ => rfl
    | 3, _ => rfl
    | 4, _ => rfl
    | 5, _ => rfl
    | 6, _ => rfl
  · (repeat' ((conv => whnf); (first | ((with_reducible refine spl (fun hc => ?_) (fun hc => ?_)) <;> (try (exfalso; omega))) | ((with_reducible refine spl' (fun hc => ?_) (fun hc => ?_)) <;> (try (exfalso; omega))) | (with_reducible refine imp_intro (fun hc => ?_)) | refine vcq (k := ?_) | refine dr 17 (k := ?_) | fail))); (all_goals (try (conv => whnf))); (all_goals (try (with_reducible exact trivial)))

theorem ex_flush : ((St.run exB exL).flush exB).cost = 9 ∧ ((St.run exB exL).flush exB).cleaned = 4 ∧ ((St.run exB exL).flush exB).refreshed = 1 := by decide +kernel
theorem ex_read : (St.run exB exL).read 8 = 9 := by decide +kernel
theorem ex_best : (exB.best (St.run exB exL).keys 2).1 = 2 ∧ (exB.best (St.run exB exL).keys 2).2.1 = 1 := by decide +kernel

theorem works13 : PureC Try.prog 13 false [] (· = .prop True inferInstance) := by
  refine pureC_of_exec Try.E_ok Try.func13 rfl (by kernel_rfl) ?_
  (repeat' ((conv => whnf); (first | ((with_reducible refine spl (fun hc => ?_) (fun hc => ?_)) <;> (try (exfalso; omega))) | ((with_reducible refine spl' (fun hc => ?_) (fun hc => ?_)) <;> (try (exfalso; omega))) | (with_reducible refine imp_intro (fun hc => ?_)) | refine vcq (k := ?_) | refine dr 17 (k := ?_) | fail))); (all_goals (try (conv => whnf))); (all_goals (try (with_reducible exact trivial)))
  refine callee_fo example36 rfl ?_
  rintro _ rfl
  (repeat' ((conv => whnf); (first | ((with_reducible refine spl (fun hc => ?_) (fun hc => ?_)) <;> (try (exfalso; omega))) | ((with_reducible refine spl' (fun hc => ?_) (fun hc => ?_)) <;> (try (exfalso; omega))) | (with_reducible refine imp_intro (fun hc => ?_)) | refine vcq (k := ?_) | refine dr 17 (k := ?_) | fail))); (all_goals (try (conv => whnf))); (all_goals (try (with_reducible exact trivial)))
  refine callee_fo (flush17 exB exL (by decide)) rfl ?_
  rintro _ rfl
  (repeat' ((conv => whnf); (first | ((with_reducible refine spl (fun hc => ?_) (fun hc => ?_)) <;> (try (exfalso; omega))) | ((with_reducible refine spl' (fun hc => ?_) (fun hc => ?_)) <;> (try (exfalso; omega))) | (with_reducible refine imp_intro (fun hc => ?_)) | refine vcq (k := ?_) | refine dr 17 (k := ?_) | fail))); (all_goals (try (conv => whnf))); (all_goals (try (with_reducible exact trivial)))
  refine callee_fo (read14 exB exL (by decide) 8) rfl ?_
  rintro _ rfl
  (repeat' ((conv => whnf); (first | ((with_reducible refine spl (fun hc => ?_) (fun hc => ?_)) <;> (try (exfalso; omega))) | ((with_reducible refine spl' (fun hc => ?_) (fun hc => ?_)) <;> (try (exfalso; omega))) | (with_reducible refine imp_intro (fun hc => ?_)) | refine vcq (k := ?_) | refine dr 17 (k := ?_) | fail))); (all_goals (try (conv => whnf))); (all_goals (try (with_reducible exact trivial)))
  refine callee_fo (clean20 exB exL (by decide) 2) rfl ?_
  rintro _ rfl
  (repeat' ((conv => whnf); (first | ((with_reducible refine spl (fun hc => ?_) (fun hc => ?_)) <;> (try (exfalso; omega))) | ((with_reducible refine spl' (fun hc => ?_) (fun hc => ?_)) <;> (try (exfalso; omega))) | (with_reducible refine imp_intro (fun hc => ?_)) | refine vcq (k := ?_) | refine dr 17 (k := ?_) | fail))); (all_goals (try (conv => whnf))); (all_goals (try (with_reducible exact trivial)))
  refine ⟨_, rfl, ?_⟩
  have e1 : resF exB exL = (St.run exB exL).flush exB := by unfold resF; rw [if_pos ex_chk]
  have e2 : rdRes exB exL 8 = ((St.run exB exL).read 8, 0) := by unfold rdRes; rw [if_neg (fun h => h ex_chk), if_neg (by decide)]
  have e3 : clRes exB exL 2 = ((exB.best (St.run exB exL).keys 2).1, (exB.best (St.run exB exL).keys 2).2.1, 0) := by unfold clRes; rw [if_neg (fun h => h ex_chk), if_neg (by decide)]
  refine ⟨⟨fun _ => trivial, fun _ => ?_⟩, trivial⟩
  rw [e1, e2, e3]
  obtain ⟨f1, f2, f3⟩ := ex_flush
  exact ⟨⟨⟨⟨⟨⟨⟨⟨ex_chk, rfl⟩, rfl⟩, f1⟩, f2⟩, f3⟩, ex_read⟩, ex_best.1⟩, ex_best.2⟩

/-- the value that was written last to a block -/
def lastW (l : List (Int × Int)) (n : Int) : Int := l.foldl (fun a w => if w.1 = n then w.2 else a) 0

theorem last_snoc {l : List (Int × Int)} {i : Nat} (h : i < l.length) (n : Int) : lastW (l.take (i + 1)) n = if (l.getD i (0, 0)).1 = n then (l.getD i (0, 0)).2 else lastW (l.take i) n := by
  unfold lastW
  rw [take_succ_getD (0, 0) h, List.foldl_append]
  rfl

theorem last15 (l : List (Int × Int)) (hl : l.length ≤ 8000) (n : Int) : PureC Try.prog 15 false [.sl 2 l.length (rowOf wC (0, 0) l), .int .i64 n] (· = .int .i64 (lastW l n)) := by
  refine pureC_of_exec Try.E_ok Try.func15 rfl (by kernel_rfl) ?_
  (repeat' ((conv => whnf); (first | ((with_reducible refine spl (fun hc => ?_) (fun hc => ?_)) <;> (try (exfalso; omega))) | ((with_reducible refine spl' (fun hc => ?_) (fun hc => ?_)) <;> (try (exfalso; omega))) | (with_reducible refine imp_intro (fun hc => ?_)) | refine vcq (k := ?_) | refine dr 17 (k := ?_) | fail))); (all_goals (try (conv => whnf))); (all_goals (try (with_reducible exact trivial)))
  refine ⟨Nat × Int, fun i => i.1 ≤ l.length ∧ i.2 = lastW (l.take i.1) n, fun i => l.length - i.1, fun i => [(6, .int .i64 i.1), (5, .int .i64 i.2)], fun _ => [], fun _ => [], (0, 0), ⟨⟨by simp, by simp [lastW]⟩, none, ?_⟩, ?_⟩
  · (repeat' ((conv => whnf); (first | ((with_reducible refine spl (fun hc => ?_) (fun hc => ?_)) <;> (try (exfalso; omega))) | ((with_reducible refine spl' (fun hc => ?_) (fun hc => ?_)) <;> (try (exfalso; omega))) | (with_reducible refine imp_intro (fun hc => ?_)) | refine vcq (k := ?_) | refine dr 17 (k := ?_) | fail))); (all_goals (try (conv => whnf))); (all_goals (try (with_reducible exact trivial)))
  · rintro ⟨i, a⟩ ⟨h1, h2⟩
    dsimp only at h1 h2
    have hti : (i : Int).toNat = i := Int.toNat_natCast i
    (repeat' ((conv => whnf); (first | ((with_reducible refine spl (fun hc => ?_) (fun hc => ?_)) <;> (try (exfalso; omega))) | ((with_reducible refine spl' (fun hc => ?_) (fun hc => ?_)) <;> (try (exfalso; omega))) | (with_reducible refine imp_intro (fun hc => ?_)) | refine vcq (k := ?_) | refine dr 17 (k := ?_) | fail))); (all_goals (try (conv => whnf))); (all_goals (try (with_reducible exact trivial)))
    · have hi : i < l.length := by rename_i h; dsimp only at h; omega
      dsimp only at hc
      refine ⟨(i + 1, (l.getD (i : Int).toNat (0, 0)).2), ⟨⟨by dsimp only; omega, ?_⟩, by dsimp only; omega⟩, none, ?_⟩
      · dsimp only
        rw [hti] at hc ⊢
        rw [last_snoc hi, if_pos hc]
      · (repeat' ((conv => whnf); (first | ((with_reducible refine spl (fun hc => ?_) (fun hc => ?_)) <;> (try (exfalso; omega))) | ((with_reducible refine spl' (fun hc => ?_) (fun hc => ?_)) <;> (try (exfalso; omega))) | (with_reducible refine imp_intro (fun hc => ?_)) | refine vcq (k := ?_) | refine dr 17 (k := ?_) | fail))); (all_goals (try (conv => whnf))); (all_goals (try (with_reducible exact trivial)))
    · have hi : i < l.length := by rename_i h; dsimp only at h; omega
      dsimp only at hc
      refine ⟨(i + 1, a), ⟨⟨by dsimp only; omega, ?_⟩, by dsimp only; omega⟩, none, ?_⟩
      · dsimp only
        rw [hti] at hc
        rw [last_snoc hi, if_neg hc, h2]
      · (repeat' ((conv => whnf); (first | ((with_reducible refine spl (fun hc => ?_) (fun hc => ?_)) <;> (try (exfalso; omega))) | ((with_reducible refine spl' (fun hc => ?_) (fun hc => ?_)) <;> (try (exfalso; omega))) | (with_reducible refine imp_intro (fun hc => ?_)) | refine vcq (k := ?_) | refine dr 17 (k := ?_) | fail))); (all_goals (try (conv => whnf))); (all_goals (try (with_reducible exact trivial)))
    · obtain rfl : i = l.length := by dsimp only at hc; omega
      rw [List.take_length] at h2
      refine ⟨_, rfl, ?_⟩
      rw [← h2]
      (repeat' ((conv => whnf); (first | ((with_reducible refine spl (fun hc => ?_) (fun hc => ?_)) <;> (try (exfalso; omega))) | ((with_reducible refine spl' (fun hc => ?_) (fun hc => ?_)) <;> (try (exfalso; omega))) | (with_reducible refine imp_intro (fun hc => ?_)) | refine vcq (k := ?_) | refine dr 17 (k := ?_) | fail))); (all_goals (try (conv => whnf))); (all_goals (try (with_reducible exact trivial)))

theorem read_clean {b : Bands} {s : St} {band n : Int} (hn : 0 ≤ n) : (s.clean b band).read n = s.read n := by
  unfold St.read
  have h1 : (s.clean b band).med = (s.clean0 b band).med := (sqz_same _ _ _).1
  rw [clean_keys, clean_cch, h1]
  have hcast : ((n.toNat : Nat) : Int) = n := by omega
  by_cases hk : n ∈ s.keys
  · by_cases hbd : b.bd n = band
    · have hnot : n ∉ s.keys.filter (fun n => !(b.bd n == band)) := by simp [hbd]
      rw [if_neg hnot, if_pos hk]
      simp only [St.clean0, hcast]
      rw [if_pos ⟨hk, hbd⟩]
    · have hin : n ∈ s.keys.filter (fun n => !(b.bd n == band)) := List.mem_filter.2 ⟨hk, by simp [hbd]⟩
      rw [if_pos hin, if_pos hk]
      exact look_filter (p := fun m => !(b.bd m == band)) (by simp [hbd]) s.cch
  · have hnot : n ∉ s.keys.filter (fun n => !(b.bd n == band)) := fun h => hk (List.mem_filter.1 h).1
    rw [if_neg hnot, if_neg hk]
    simp only [St.clean0, hcast]
    rw [if_neg (fun h => hk h.1)]

theorem read_ins {s : St} (h : Asc s.cch) {w : Int × Int} {n : Int} : St.read { s with cch := ins w s.cch } n = if n = w.1 then w.2 else s.read n := by
  unfold St.read St.keys
  dsimp only
  rw [look_ins h]
  by_cases hn : n = w.1
  · rw [if_pos ((mem_ins h n).2 (.inl hn)), if_pos hn, if_pos hn]
  · rw [if_neg hn, if_neg hn]
    by_cases hk : n ∈ s.cch.map Prod.fst
    · rw [if_pos ((mem_ins h n).2 (.inr hk)), if_pos hk]
    · rw [if_neg (fun h2 => ((mem_ins h n).1 h2).elim hn hk), if_neg hk]

theorem read_write {b : Bands} (hb : b.Ok) {s : St} (hs : s.Ok b) {w : Int × Int} {n : Int} (hn : 0 ≤ n) : (s.write b w).read n = if n = w.1 then w.2 else s.read n := by
  unfold St.write
  split
  · exact read_ins hs.asc
  · split
    · rw [show St.read { s.clean b (b.choose s.keys) with cch := ins w (s.clean b (b.choose s.keys)).cch } n = _ from read_ins (clean_ok hb hs _).asc, read_clean hn]
    · exact read_ins hs.asc

theorem read_foldl {b : Bands} (hb : b.Ok) {n : Int} (hn : 0 ≤ n) : ∀ (l : List (Int × Int)) (s : St), s.Ok b → InB b l → (l.foldl (St.write b) s).read n = l.foldl (fun a w => if w.1 = n then w.2 else a) (s.read n)
  | [], _, _, _ => rfl
  | w :: l, s, hs, h => by
    simp only [List.foldl_cons]
    rw [read_foldl hb hn l _ (write_ok hb hs (h w List.mem_cons_self)) (fun x hx => h x (List.mem_cons_of_mem _ hx)), read_write hb hs hn]
    congr 1
    by_cases hw : n = w.1
    · rw [if_pos hw, if_pos hw.symm]
    · rw [if_neg hw, if_neg (fun h => hw h.symm)]

/-- the stage's theorem -/
theorem read_last {b : Bands} (hb : b.Ok) {l : List (Int × Int)} (h : InB b l) {n : Int} (hn : 0 ≤ n) : (St.run b l).read n = lastW l n := by
  unfold St.run lastW
  rw [read_foldl hb hn l _ (begin_ok hb) h]
  rfl

theorem rdRes_ok {b : Bands} {l : List (Int × Int)} {n : Int} (h : chk b l = 0) (hn : 0 ≤ n ∧ n < b.N) : rdRes b l n = (lastW l n, 0) := by
  unfold rdRes
  rw [if_neg (fun g => g h), if_neg (fun g => g hn), read_last (chk_ok h).1 (chk_ok h).2.2.inB hn.1]

theorem keeps3 (b : Bands) (l : List (Int × Int)) (hl : l.length ≤ 9223372036854775807) (o : Bands) (n : Int) : PureC Try.prog 3 false [b.v, .sl 2 l.length (rowOf wC (0, 0) l), .agg [.int .i64 o.B, .int .i64 o.T, .int .i64 o.K, .int .i64 o.C, .int .i64 o.L, .int .i64 n]] (· = .prop True inferInstance) := by
  refine pureC_of_exec Try.E_ok Try.func3 rfl (by kernel_rfl) ?_
  (repeat' ((conv => whnf); (first | ((with_reducible refine spl (fun hc => ?_) (fun hc => ?_)) <;> (try (exfalso; omega))) | ((with_reducible refine spl' (fun hc => ?_) (fun hc => ?_)) <;> (try (exfalso; omega))) | (with_reducible refine imp_intro (fun hc => ?_)) | refine vcq (k := ?_) | refine dr 17 (k := ?_) | fail))); (all_goals (try (conv => whnf))); (all_goals (try (with_reducible exact trivial)))
  refine callee_fo (ready11 b l hl) rfl ?_
  rintro _ rfl
  by_cases hz : chk b l = 0
  · obtain ⟨hb, h1, h2⟩ := chk_ok hz
    have hl8 : l.length ≤ 8000 := by omega
    (repeat' ((conv => whnf); (first | ((with_reducible refine spl (fun hc => ?_) (fun hc => ?_)) <;> (try (exfalso; omega))) | ((with_reducible refine spl' (fun hc => ?_) (fun hc => ?_)) <;> (try (exfalso; omega))) | (with_reducible refine imp_intro (fun hc => ?_)) | refine vcq (k := ?_) | refine dr 17 (k := ?_) | fail))); (all_goals (try (conv => whnf))); (all_goals (try (with_reducible exact trivial))); (repeat' ((first | (refine callee_fo (isBlock12 b hb n) rfl ?_; rintro _ rfl) | (refine pcall_intro (isBlock12 b hb n) rfl ?_) | (refine pcall_soft (fun _ => isBlock12 b hb n) rfl ?_) | (refine callee_fo (works13) rfl ?_; rintro _ rfl) | (refine pcall_intro (works13) rfl ?_) | (refine pcall_soft (fun _ => works13) rfl ?_)); (repeat' ((conv => whnf); (first | ((with_reducible refine spl (fun hc => ?_) (fun hc => ?_)) <;> (try (exfalso; omega))) | ((with_reducible refine spl' (fun hc => ?_) (fun hc => ?_)) <;> (try (exfalso; omega))) | (with_reducible refine imp_intro (fun hc => ?_)) | refine vcq (k := ?_) | refine dr 17 (k := ?_) | fail))); (all_goals (try (conv => whnf))); (all_goals (try (with_reducible exact trivial))))); (all_goals (try (refine ⟨_, rfl, ?_⟩; (repeat' ((conv => whnf); (first | ((with_reducible refine spl (fun hc => ?_) (fun hc => ?_)) <;> (try (exfalso; omega))) | ((with_reducible refine spl' (fun hc => ?_) (fun hc => ?_)) <;> (try (exfalso; omega))) | (with_reducible refine imp_intro (fun hc => ?_)) | refine vcq (k := ?_) | refine dr 17 (k := ?_) | fail))); (all_goals (try (conv => whnf))); (all_goals (try (with_reducible exact trivial))))))
    have hn := Classical.not_not.1 hc
    have hr := read14 b l hl8 n
    rw [rdRes_ok hz hn] at hr
    refine callee_fo hr rfl ?_
    rintro _ rfl
    (repeat' ((conv => whnf); (first | ((with_reducible refine spl (fun hc => ?_) (fun hc => ?_)) <;> (try (exfalso; omega))) | ((with_reducible refine spl' (fun hc => ?_) (fun hc => ?_)) <;> (try (exfalso; omega))) | (with_reducible refine imp_intro (fun hc => ?_)) | refine vcq (k := ?_) | refine dr 17 (k := ?_) | fail))); (all_goals (try (conv => whnf))); (all_goals (try (with_reducible exact trivial))); (repeat' ((first | (refine callee_fo (last15 l hl8 n) rfl ?_; rintro _ rfl) | (refine pcall_intro (last15 l hl8 n) rfl ?_) | (refine pcall_soft (fun _ => last15 l hl8 n) rfl ?_)); (repeat' ((conv => whnf); (first | ((with_reducible refine spl (fun hc => ?_) (fun hc => ?_)) <;> (try (exfalso; omega))) | ((with_reducible refine spl' (fun hc => ?_) (fun hc => ?_)) <;> (try (exfalso; omega))) | (with_reducible refine imp_intro (fun hc => ?_)) | refine vcq (k := ?_) | refine dr 17 (k := ?_) | fail))); (all_goals (try (conv => whnf))); (all_goals (try (with_reducible exact trivial))))); (all_goals (try (refine ⟨_, rfl, ?_⟩; (repeat' ((conv => whnf); (first | ((with_reducible refine spl (fun hc => ?_) (fun hc => ?_)) <;> (try (exfalso; omega))) | ((with_reducible refine spl' (fun hc => ?_) (fun hc => ?_)) <;> (try (exfalso; omega))) | (with_reducible refine imp_intro (fun hc => ?_)) | refine vcq (k := ?_) | refine dr 17 (k := ?_) | fail))); (all_goals (try (conv => whnf))); (all_goals (try (with_reducible exact trivial))))))
    refine callee_fo (ready11 o l hl) rfl ?_
    rintro _ rfl
    by_cases hz2 : chk o l = 0
    · obtain ⟨ho, _, h4⟩ := chk_ok hz2
      (repeat' ((conv => whnf); (first | ((with_reducible refine spl (fun hc => ?_) (fun hc => ?_)) <;> (try (exfalso; omega))) | ((with_reducible refine spl' (fun hc => ?_) (fun hc => ?_)) <;> (try (exfalso; omega))) | (with_reducible refine imp_intro (fun hc => ?_)) | refine vcq (k := ?_) | refine dr 17 (k := ?_) | fail))); (all_goals (try (conv => whnf))); (all_goals (try (with_reducible exact trivial))); (repeat' ((first | (refine callee_fo (isBlock12 o ho n) rfl ?_; rintro _ rfl) | (refine pcall_intro (isBlock12 o ho n) rfl ?_) | (refine pcall_soft (fun _ => isBlock12 o ho n) rfl ?_) | (refine callee_fo (works13) rfl ?_; rintro _ rfl) | (refine pcall_intro (works13) rfl ?_) | (refine pcall_soft (fun _ => works13) rfl ?_)); (repeat' ((conv => whnf); (first | ((with_reducible refine spl (fun hc => ?_) (fun hc => ?_)) <;> (try (exfalso; omega))) | ((with_reducible refine spl' (fun hc => ?_) (fun hc => ?_)) <;> (try (exfalso; omega))) | (with_reducible refine imp_intro (fun hc => ?_)) | refine vcq (k := ?_) | refine dr 17 (k := ?_) | fail))); (all_goals (try (conv => whnf))); (all_goals (try (with_reducible exact trivial))))); (all_goals (try (refine ⟨_, rfl, ?_⟩; (repeat' ((conv => whnf); (first | ((with_reducible refine spl (fun hc => ?_) (fun hc => ?_)) <;> (try (exfalso; omega))) | ((with_reducible refine spl' (fun hc => ?_) (fun hc => ?_)) <;> (try (exfalso; omega))) | (with_reducible refine imp_intro (fun hc => ?_)) | refine vcq (k := ?_) | refine dr 17 (k := ?_) | fail))); (all_goals (try (conv => whnf))); (all_goals (try (with_reducible exact trivial))))))
      have hm := Classical.not_not.1 hc
      have hr2 := read14 o l hl8 n
      rw [rdRes_ok hz2 hm] at hr2
      refine callee_fo hr2 rfl ?_
      rintro _ rfl
      (repeat' ((conv => whnf); (first | ((with_reducible refine spl (fun hc => ?_) (fun hc => ?_)) <;> (try (exfalso; omega))) | ((with_reducible refine spl' (fun hc => ?_) (fun hc => ?_)) <;> (try (exfalso; omega))) | (with_reducible refine imp_intro (fun hc => ?_)) | refine vcq (k := ?_) | refine dr 17 (k := ?_) | fail))); (all_goals (try (conv => whnf))); (all_goals (try (with_reducible exact trivial))); (repeat' ((first | (refine callee_fo (works13) rfl ?_; rintro _ rfl) | (refine pcall_intro (works13) rfl ?_) | (refine pcall_soft (fun _ => works13) rfl ?_)); (repeat' ((conv => whnf); (first | ((with_reducible refine spl (fun hc => ?_) (fun hc => ?_)) <;> (try (exfalso; omega))) | ((with_reducible refine spl' (fun hc => ?_) (fun hc => ?_)) <;> (try (exfalso; omega))) | (with_reducible refine imp_intro (fun hc => ?_)) | refine vcq (k := ?_) | refine dr 17 (k := ?_) | fail))); (all_goals (try (conv => whnf))); (all_goals (try (with_reducible exact trivial))))); (all_goals (try (refine ⟨_, rfl, ?_⟩; (repeat' ((conv => whnf); (first | ((with_reducible refine spl (fun hc => ?_) (fun hc => ?_)) <;> (try (exfalso; omega))) | ((with_reducible refine spl' (fun hc => ?_) (fun hc => ?_)) <;> (try (exfalso; omega))) | (with_reducible refine imp_intro (fun hc => ?_)) | refine vcq (k := ?_) | refine dr 17 (k := ?_) | fail))); (all_goals (try (conv => whnf))); (all_goals (try (with_reducible exact trivial))))))
    · (repeat' ((conv => whnf); (first | ((with_reducible refine spl (fun hc => ?_) (fun hc => ?_)) <;> (try (exfalso; omega))) | ((with_reducible refine spl' (fun hc => ?_) (fun hc => ?_)) <;> (try (exfalso; omega))) | (with_reducible refine imp_intro (fun hc => ?_)) | refine vcq (k := ?_) | refine dr 17 (k := ?_) | fail))); (all_goals (try (conv => whnf))); (all_goals (try (with_reducible exact trivial))); (repeat' ((first | (refine callee_fo (works13) rfl ?_; rintro _ rfl) | (refine pcall_intro (works13) rfl ?_) | (refine pcall_soft (fun _ => works13) rfl ?_)); (repeat' ((conv => whnf); (first | ((with_reducible refine spl (fun hc => ?_) (fun hc => ?_)) <;> (try (exfalso; omega))) | ((with_reducible refine spl' (fun hc => ?_) (fun hc => ?_)) <;> (try (exfalso; omega))) | (with_reducible refine imp_intro (fun hc => ?_)) | refine vcq (k := ?_) | refine dr 17 (k := ?_) | fail))); (all_goals (try (conv => whnf))); (all_goals (try (with_reducible exact trivial))))); (all_goals (try (refine ⟨_, rfl, ?_⟩; (repeat' ((conv => whnf); (first | ((with_reducible refine spl (fun hc => ?_) (fun hc => ?_)) <;> (try (exfalso; omega))) | ((with_reducible refine spl' (fun hc => ?_) (fun hc => ?_)) <;> (try (exfalso; omega))) | (with_reducible refine imp_intro (fun hc => ?_)) | refine vcq (k := ?_) | refine dr 17 (k := ?_) | fail))); (all_goals (try (conv => whnf))); (all_goals (try (with_reducible exact trivial))))))
  · (repeat' ((conv => whnf); (first | ((with_reducible refine spl (fun hc => ?_) (fun hc => ?_)) <;> (try (exfalso; omega))) | ((with_reducible refine spl' (fun hc => ?_) (fun hc => ?_)) <;> (try (exfalso; omega))) | (with_reducible refine imp_intro (fun hc => ?_)) | refine vcq (k := ?_) | refine dr 17 (k := ?_) | fail))); (all_goals (try (conv => whnf))); (all_goals (try (with_reducible exact trivial))); (repeat' ((first | (refine callee_fo (works13) rfl ?_; rintro _ rfl) | (refine pcall_intro (works13) rfl ?_) | (refine pcall_soft (fun _ => works13) rfl ?_)); (repeat' ((conv => whnf); (first | ((with_reducible refine spl (fun hc => ?_) (fun hc => ?_)) <;> (try (exfalso; omega))) | ((with_reducible refine spl' (fun hc => ?_) (fun hc => ?_)) <;> (try (exfalso; omega))) | (with_reducible refine imp_intro (fun hc => ?_)) | refine vcq (k := ?_) | refine dr 17 (k := ?_) | fail))); (all_goals (try (conv => whnf))); (all_goals (try (with_reducible exact trivial))))); (all_goals (try (refine ⟨_, rfl, ?_⟩; (repeat' ((conv => whnf); (first | ((with_reducible refine spl (fun hc => ?_) (fun hc => ?_)) <;> (try (exfalso; omega))) | ((with_reducible refine spl' (fun hc => ?_) (fun hc => ?_)) <;> (try (exfalso; omega))) | (with_reducible refine imp_intro (fun hc => ?_)) | refine vcq (k := ?_) | refine dr 17 (k := ?_) | fail))); (all_goals (try (conv => whnf))); (all_goals (try (with_reducible exact trivial))))))
end Go.Proofs

namespace Go.Proofs
open Go Go.Sx
set_option maxRecDepth 100000
set_option maxHeartbeats 4000000
-- SxAid2

/-- the place of a block -/
def findW : List (Int × Int) → Int → Int
  | [], _ => -1
  | x :: l, n => if x.1 = n then 0 else if findW l n < 0 then -1 else findW l n + 1

theorem findW_at {n : Int} : ∀ {l : List (Int × Int)} {i : Nat}, i < l.length → (∀ k, k < i → (l.getD k (0, 0)).1 ≠ n) → (l.getD i (0, 0)).1 = n → findW l n = i
  | [], i, h, _, _ => by simp at h
  | x :: l, 0, _, _, h => by
    unfold findW
    rw [if_pos (by simpa using h)]
    rfl
  | x :: l, i + 1, h, h1, h2 => by
    have h0 := h1 0 (by omega)
    have ih := findW_at (n := n) (l := l) (i := i) (by simpa using h) (fun k hk => by have := h1 (k + 1) (by omega); simpa using this) (by simpa using h2)
    unfold findW
    rw [if_neg (by simpa using h0), ih, if_neg (by omega)]
    omega

theorem findW_none {n : Int} : ∀ {l : List (Int × Int)}, (∀ k, k < l.length → (l.getD k (0, 0)).1 ≠ n) → findW l n = -1
  | [], _ => rfl
  | x :: l, h => by
    have h0 := h 0 (by simp)
    have ih := findW_none (n := n) (l := l) (fun k hk => by have := h (k + 1) (by simpa using hk); simpa using this)
    unfold findW
    rw [if_neg (by simpa using h0), ih]
    rfl

theorem findW_spec {n : Int} : ∀ (l : List (Int × Int)), (findW l n = -1 ∧ n ∉ l.map Prod.fst) ∨ (0 ≤ findW l n ∧ findW l n < l.length ∧ (l.getD (findW l n).toNat (0, 0)).1 = n ∧ n ∈ l.map Prod.fst)
  | [] => .inl ⟨rfl, by simp⟩
  | x :: l => by
    unfold findW
    by_cases hx : x.1 = n
    · rw [if_pos hx]
      exact .inr ⟨by omega, by simp only [List.length_cons]; omega, by simpa using hx, by simp [hx]⟩
    · rw [if_neg hx]
      rcases findW_spec (n := n) l with ⟨h1, h2⟩ | ⟨h1, h2, h3, h4⟩
      · rw [h1]
        refine .inl ⟨rfl, ?_⟩
        simp only [List.map_cons, List.mem_cons, not_or]
        exact ⟨fun h => hx h.symm, h2⟩
      · rw [if_neg (by omega)]
        refine .inr ⟨by omega, by simp only [List.length_cons]; omega, ?_, by simp [h4]⟩
        rw [show (findW l n + 1).toNat = (findW l n).toNat + 1 by omega, List.getD_cons_succ]
        exact h3

theorem find19 (l : List (Int × Int)) (hl : l.length ≤ 8000) (n : Int) : PureC Try.prog 19 false [.sl 2 l.length (rowOf wC (0, 0) l), .int .i64 n] (· = .int .i64 (findW l n)) := by
  refine pureC_of_exec Try.E_ok Try.func19 rfl (by kernel_rfl) ?_
  (repeat' ((conv => whnf); (first | ((with_reducible refine spl (fun hc => ?_) (fun hc => ?_)) <;> (try (exfalso; omega))) | ((with_reducible refine spl' (fun hc => ?_) (fun hc => ?_)) <;> (try (exfalso; omega))) | (with_reducible refine imp_intro (fun hc => ?_)) | refine vcq (k := ?_) | refine dr 1 (k := ?_) | refine dr 2 (k := ?_) | refine dr 3 (k := ?_) | refine dr 4 (k := ?_) | refine dr 5 (k := ?_) | refine dr 6 (k := ?_) | refine dr 7 (k := ?_) | refine dr 8 (k := ?_) | refine dr 9 (k := ?_) | refine dr 10 (k := ?_) | refine dr 11 (k := ?_) | refine dr 12 (k := ?_) | refine dr 1001 (k := ?_) | refine dr 1002 (k := ?_) | refine dr 1003 (k := ?_) | refine dr 1004 (k := ?_) | refine dr 1005 (k := ?_) | refine dr 1006 (k := ?_) | refine dr 1007 (k := ?_) | refine dr 1008 (k := ?_) | refine dr 1009 (k := ?_) | refine dr 1010 (k := ?_) | refine dr 1011 (k := ?_) | refine dr 1012 (k := ?_) | refine dr 1013 (k := ?_) | refine dr 1014 (k := ?_) | refine dr 1015 (k := ?_) | refine dr 1016 (k := ?_) | fail))); (all_goals (try (conv => whnf))); (all_goals (try (with_reducible exact trivial)))
  refine ⟨Nat, fun i => i ≤ l.length ∧ ∀ k, k < i → (l.getD k (0, 0)).1 ≠ n, fun i => l.length - i, fun i => [(5, .int .i64 i)], fun _ => [], fun _ => [], 0, ⟨⟨by omega, fun k hk => by omega⟩, none, ?_⟩, ?_⟩
  · (repeat' ((conv => whnf); (first | ((with_reducible refine spl (fun hc => ?_) (fun hc => ?_)) <;> (try (exfalso; omega))) | ((with_reducible refine spl' (fun hc => ?_) (fun hc => ?_)) <;> (try (exfalso; omega))) | (with_reducible refine imp_intro (fun hc => ?_)) | refine vcq (k := ?_) | refine dr 1 (k := ?_) | refine dr 2 (k := ?_) | refine dr 3 (k := ?_) | refine dr 4 (k := ?_) | refine dr 5 (k := ?_) | refine dr 6 (k := ?_) | refine dr 7 (k := ?_) | refine dr 8 (k := ?_) | refine dr 9 (k := ?_) | refine dr 10 (k := ?_) | refine dr 11 (k := ?_) | refine dr 12 (k := ?_) | refine dr 1001 (k := ?_) | refine dr 1002 (k := ?_) | refine dr 1003 (k := ?_) | refine dr 1004 (k := ?_) | refine dr 1005 (k := ?_) | refine dr 1006 (k := ?_) | refine dr 1007 (k := ?_) | refine dr 1008 (k := ?_) | refine dr 1009 (k := ?_) | refine dr 1010 (k := ?_) | refine dr 1011 (k := ?_) | refine dr 1012 (k := ?_) | refine dr 1013 (k := ?_) | refine dr 1014 (k := ?_) | refine dr 1015 (k := ?_) | refine dr 1016 (k := ?_) | fail))); (all_goals (try (conv => whnf))); (all_goals (try (with_reducible exact trivial)))
  · rintro i ⟨h1, h2⟩
    have hti : (i : Int).toNat = i := Int.toNat_natCast i
    (repeat' ((conv => whnf); (first | ((with_reducible refine spl (fun hc => ?_) (fun hc => ?_)) <;> (try (exfalso; omega))) | ((with_reducible refine spl' (fun hc => ?_) (fun hc => ?_)) <;> (try (exfalso; omega))) | (with_reducible refine imp_intro (fun hc => ?_)) | refine vcq (k := ?_) | refine dr 1 (k := ?_) | refine dr 2 (k := ?_) | refine dr 3 (k := ?_) | refine dr 4 (k := ?_) | refine dr 5 (k := ?_) | refine dr 6 (k := ?_) | refine dr 7 (k := ?_) | refine dr 8 (k := ?_) | refine dr 9 (k := ?_) | refine dr 10 (k := ?_) | refine dr 11 (k := ?_) | refine dr 12 (k := ?_) | refine dr 1001 (k := ?_) | refine dr 1002 (k := ?_) | refine dr 1003 (k := ?_) | refine dr 1004 (k := ?_) | refine dr 1005 (k := ?_) | refine dr 1006 (k := ?_) | refine dr 1007 (k := ?_) | refine dr 1008 (k := ?_) | refine dr 1009 (k := ?_) | refine dr 1010 (k := ?_) | refine dr 1011 (k := ?_) | refine dr 1012 (k := ?_) | refine dr 1013 (k := ?_) | refine dr 1014 (k := ?_) | refine dr 1015 (k := ?_) | refine dr 1016 (k := ?_) | fail))); (all_goals (try (conv => whnf))); (all_goals (try (with_reducible exact trivial)))
    · rw [hti] at hc
      rename_i hlt
      refine ⟨_, rfl, ?_⟩
      rw [findW_at (i := i) (by omega) h2 hc]
      (repeat' ((conv => whnf); (first | ((with_reducible refine spl (fun hc => ?_) (fun hc => ?_)) <;> (try (exfalso; omega))) | ((with_reducible refine spl' (fun hc => ?_) (fun hc => ?_)) <;> (try (exfalso; omega))) | (with_reducible refine imp_intro (fun hc => ?_)) | refine vcq (k := ?_) | refine dr 1 (k := ?_) | refine dr 2 (k := ?_) | refine dr 3 (k := ?_) | refine dr 4 (k := ?_) | refine dr 5 (k := ?_) | refine dr 6 (k := ?_) | refine dr 7 (k := ?_) | refine dr 8 (k := ?_) | refine dr 9 (k := ?_) | refine dr 10 (k := ?_) | refine dr 11 (k := ?_) | refine dr 12 (k := ?_) | refine dr 1001 (k := ?_) | refine dr 1002 (k := ?_) | refine dr 1003 (k := ?_) | refine dr 1004 (k := ?_) | refine dr 1005 (k := ?_) | refine dr 1006 (k := ?_) | refine dr 1007 (k := ?_) | refine dr 1008 (k := ?_) | refine dr 1009 (k := ?_) | refine dr 1010 (k := ?_) | refine dr 1011 (k := ?_) | refine dr 1012 (k := ?_) | refine dr 1013 (k := ?_) | refine dr 1014 (k := ?_) | refine dr 1015 (k := ?_) | refine dr 1016 (k := ?_) | fail))); (all_goals (try (conv => whnf))); (all_goals (try (with_reducible exact trivial)))
    · rw [hti] at hc
      rename_i hlt
      refine ⟨i + 1, ⟨⟨by omega, fun k hk => ?_⟩, by dsimp only; omega⟩, none, ?_⟩
      · rcases Nat.lt_or_eq_of_le (show k ≤ i by omega) with h | rfl
        · exact h2 k h
        · exact hc
      · (repeat' ((conv => whnf); (first | ((with_reducible refine spl (fun hc => ?_) (fun hc => ?_)) <;> (try (exfalso; omega))) | ((with_reducible refine spl' (fun hc => ?_) (fun hc => ?_)) <;> (try (exfalso; omega))) | (with_reducible refine imp_intro (fun hc => ?_)) | refine vcq (k := ?_) | refine dr 1 (k := ?_) | refine dr 2 (k := ?_) | refine dr 3 (k := ?_) | refine dr 4 (k := ?_) | refine dr 5 (k := ?_) | refine dr 6 (k := ?_) | refine dr 7 (k := ?_) | refine dr 8 (k := ?_) | refine dr 9 (k := ?_) | refine dr 10 (k := ?_) | refine dr 11 (k := ?_) | refine dr 12 (k := ?_) | refine dr 1001 (k := ?_) | refine dr 1002 (k := ?_) | refine dr 1003 (k := ?_) | refine dr 1004 (k := ?_) | refine dr 1005 (k := ?_) | refine dr 1006 (k := ?_) | refine dr 1007 (k := ?_) | refine dr 1008 (k := ?_) | refine dr 1009 (k := ?_) | refine dr 1010 (k := ?_) | refine dr 1011 (k := ?_) | refine dr 1012 (k := ?_) | refine dr 1013 (k := ?_) | refine dr 1014 (k := ?_) | refine dr 1015 (k := ?_) | refine dr 1016 (k := ?_) | fail))); (all_goals (try (conv => whnf))); (all_goals (try (with_reducible exact trivial)))
    · obtain rfl : i = l.length := by omega
      refine ⟨_, rfl, ?_⟩
      rw [findW_none h2]
      (repeat' ((conv => whnf); (first | ((with_reducible refine spl (fun hc => ?_) (fun hc => ?_)) <;> (try (exfalso; omega))) | ((with_reducible refine spl' (fun hc => ?_) (fun hc => ?_)) <;> (try (exfalso; omega))) | (with_reducible refine imp_intro (fun hc => ?_)) | refine vcq (k := ?_) | refine dr 1 (k := ?_) | refine dr 2 (k := ?_) | refine dr 3 (k := ?_) | refine dr 4 (k := ?_) | refine dr 5 (k := ?_) | refine dr 6 (k := ?_) | refine dr 7 (k := ?_) | refine dr 8 (k := ?_) | refine dr 9 (k := ?_) | refine dr 10 (k := ?_) | refine dr 11 (k := ?_) | refine dr 12 (k := ?_) | refine dr 1001 (k := ?_) | refine dr 1002 (k := ?_) | refine dr 1003 (k := ?_) | refine dr 1004 (k := ?_) | refine dr 1005 (k := ?_) | refine dr 1006 (k := ?_) | refine dr 1007 (k := ?_) | refine dr 1008 (k := ?_) | refine dr 1009 (k := ?_) | refine dr 1010 (k := ?_) | refine dr 1011 (k := ?_) | refine dr 1012 (k := ?_) | refine dr 1013 (k := ?_) | refine dr 1014 (k := ?_) | refine dr 1015 (k := ?_) | refine dr 1016 (k := ?_) | fail))); (all_goals (try (conv => whnf))); (all_goals (try (with_reducible exact trivial)))

theorem foldl_clean_cch {b : Bands} : ∀ (js : List Job) (s : St), (js.foldl (fun s j => s.clean b j.1) s).cch = s.cch.filter (fun x => js.all (fun j => !(b.bd x.1 == j.1)))
  | [], s => (List.filter_eq_self.2 (fun _ _ => rfl)).symm
  | j :: js, s => by
    rw [List.foldl_cons, foldl_clean_cch js, clean_cch, List.filter_filter]
    apply List.filter_congr
    intro x _
    simp only [List.all_cons]
    rw [Bool.and_comm]

theorem flush_cch {b : Bands} (hb : b.Ok) {s : St} (hs : s.Ok b) : (s.flush b).cch = [] := by
  unfold St.flush
  rw [foldl_clean_cch, List.filter_eq_nil_iff]
  intro x hx
  have hk : x.1 ∈ s.keys := List.mem_map.2 ⟨x, hx, rfl⟩
  have hbd := bd_lt hb (keys_blk hs _ hk)
  have := (jobs_any (b := b) (ks := s.keys) (i := (b.bd x.1).toNat) (by omega)).2 (by rw [show ((b.bd x.1).toNat : Int) = b.bd x.1 by omega]; exact slots_pos hk)
  obtain ⟨j, h1, h2⟩ := List.any_eq_true.1 this
  intro hall
  have h3 := List.all_eq_true.1 hall j h1
  have h4 : j.1 = b.bd x.1 := by
    have : j.1 = ((b.bd x.1).toNat : Int) := by simpa using h2
    omega
  simp [h4] at h3

theorem flush_read {b : Bands} {s : St} {n : Int} (hn : 0 ≤ n) : (s.flush b).read n = s.read n := by
  unfold St.flush
  generalize b.jobs s.keys = js
  induction js generalizing s with
  | nil => rfl
  | cons j js ih => rw [List.foldl_cons, ih, read_clean hn]

theorem flush_med {b : Bands} (hb : b.Ok) {s : St} (hs : s.Ok b) {n : Int} (hn : 0 ≤ n) : (s.flush b).med n.toNat = s.read n := by
  rw [← flush_read (b := b) hn]
  unfold St.read St.keys
  rw [flush_cch hb hs]
  simp

theorem read_mem {s : St} {n : Int} (h : n ∈ s.keys) : s.read n = look s.cch n := by unfold St.read; rw [if_pos h]
theorem read_not {s : St} {n : Int} (h : n ∉ s.keys) : s.read n = s.med n.toNat := by unfold St.read; rw [if_neg h]

theorem cch_last {b : Bands} (hb : b.Ok) {l : List (Int × Int)} (h : InB b l) {i : Nat} (hi : i < (St.run b l).cch.length) : ((St.run b l).cch.getD i (0, 0)).2 = lastW l ((St.run b l).cch.getD i (0, 0)).1 := by
  have ho := (run_ok hb h).1
  have hm : ((St.run b l).cch.getD i (0, 0)).1 ∈ (St.run b l).keys := List.mem_map.2 ⟨_, getD_mem hi, rfl⟩
  rw [← read_last hb h (keys_blk ho _ hm).1, read_mem hm, look_getD ho.asc hi]

theorem asc_getD {l : List (Int × Int)} (h : Asc l) {i j : Nat} (hij : i < j) (hj : j < l.length) : (l.getD i (0, 0)).1 < (l.getD j (0, 0)).1 := by
  rw [List.getD_eq_getElem?_getD, List.getElem?_eq_getElem (by omega), List.getD_eq_getElem?_getD, List.getElem?_eq_getElem hj]
  exact List.pairwise_iff_getElem.1 h i j (by omega) hj hij

theorem flushed4 (b : Bands) (l : List (Int × Int)) (hl : l.length ≤ 9223372036854775807) (n : Int) : PureC Try.prog 4 false [b.v, .sl 2 l.length (rowOf wC (0, 0) l), .int .i64 n] (· = .prop True inferInstance) := by
  refine pureC_of_exec Try.E_ok Try.func4 rfl (by kernel_rfl) ?_
  (repeat' ((conv => whnf); (first | ((with_reducible refine spl (fun hc => ?_) (fun hc => ?_)) <;> (try (exfalso; omega))) | ((with_reducible refine spl' (fun hc => ?_) (fun hc => ?_)) <;> (try (exfalso; omega))) | (with_reducible refine imp_intro (fun hc => ?_)) | refine vcq (k := ?_) | refine dr 36 (k := ?_) | refine dr 46 (k := ?_) | fail))); (all_goals (try (conv => whnf))); (all_goals (try (with_reducible exact trivial)))
  refine callee_fo (ready11 b l hl) rfl ?_
  rintro _ rfl
  by_cases hz : chk b l = 0
  · obtain ⟨hb, h1, h2⟩ := chk_ok hz
    have hl8 : l.length ≤ 8000 := by omega
    obtain ⟨o1, o2⟩ := run_ok hb h2.inB
    have hr := run16 b l hl8
    have hf := flush17 b l hl8
    have e1 : resN b l = b.N.toNat := if_pos hz
    have e2 : resB b l = b.B.toNat := if_pos hz
    have e3 : resR b l = St.run b l := if_pos hz
    have e4 : resF b l = (St.run b l).flush b := if_pos hz
    rw [e1, e2, e3, hz] at hr
    rw [e1, e2, e4, hz] at hf
    have hNb := N_bounds hb
    have hcl := o1.len
    have hC := hb.C
    have hfl := flush_cch hb o1
    have hfm := fun n (hn : 0 ≤ n) => flush_med hb o1 (n := n) hn
    have hcla := fun i hi => cch_last hb h2.inB (l := l) (i := i) hi
    have hrla := fun n (hn : 0 ≤ n) => read_last hb h2.inB (n := n) hn
    generalize (St.run b l).flush b = F at *
    clear e1 e2 e3 e4
    generalize St.run b l = s at *
    (repeat' ((conv => whnf); (first | ((with_reducible refine spl (fun hc => ?_) (fun hc => ?_)) <;> (try (exfalso; omega))) | ((with_reducible refine spl' (fun hc => ?_) (fun hc => ?_)) <;> (try (exfalso; omega))) | (with_reducible refine imp_intro (fun hc => ?_)) | refine vcq (k := ?_) | refine dr 36 (k := ?_) | refine dr 46 (k := ?_) | fail))); (all_goals (try (conv => whnf))); (all_goals (try (with_reducible exact trivial)))
    refine callee_fo hr rfl ?_
    rintro _ rfl
    (repeat' ((conv => whnf); (first | ((with_reducible refine spl (fun hc => ?_) (fun hc => ?_)) <;> (try (exfalso; omega))) | ((with_reducible refine spl' (fun hc => ?_) (fun hc => ?_)) <;> (try (exfalso; omega))) | (with_reducible refine imp_intro (fun hc => ?_)) | refine vcq (k := ?_) | refine dr 36 (k := ?_) | refine dr 46 (k := ?_) | fail))); (all_goals (try (conv => whnf))); (all_goals (try (with_reducible exact trivial)))
    refine callee_fo hf rfl ?_
    rintro _ rfl
    (repeat' ((conv => whnf); (first | ((with_reducible refine spl (fun hc => ?_) (fun hc => ?_)) <;> (try (exfalso; omega))) | ((with_reducible refine spl' (fun hc => ?_) (fun hc => ?_)) <;> (try (exfalso; omega))) | (with_reducible refine imp_intro (fun hc => ?_)) | refine vcq (k := ?_) | refine dr 36 (k := ?_) | refine dr 46 (k := ?_) | fail))); (all_goals (try (conv => whnf))); (all_goals (try (with_reducible exact trivial))); (repeat' ((first | (refine callee_fo (many18 b hb) rfl ?_; rintro _ rfl) | (refine pcall_intro (many18 b hb) rfl ?_) | (refine pcall_soft (fun _ => many18 b hb) rfl ?_)); (repeat' ((conv => whnf); (first | ((with_reducible refine spl (fun hc => ?_) (fun hc => ?_)) <;> (try (exfalso; omega))) | ((with_reducible refine spl' (fun hc => ?_) (fun hc => ?_)) <;> (try (exfalso; omega))) | (with_reducible refine imp_intro (fun hc => ?_)) | refine vcq (k := ?_) | refine dr 36 (k := ?_) | refine dr 46 (k := ?_) | fail))); (all_goals (try (conv => whnf))); (all_goals (try (with_reducible exact trivial))))); (all_goals (try (refine ⟨_, rfl, ?_⟩; (repeat' ((conv => whnf); (first | ((with_reducible refine spl (fun hc => ?_) (fun hc => ?_)) <;> (try (exfalso; omega))) | ((with_reducible refine spl' (fun hc => ?_) (fun hc => ?_)) <;> (try (exfalso; omega))) | (with_reducible refine imp_intro (fun hc => ?_)) | refine vcq (k := ?_) | refine dr 36 (k := ?_) | refine dr 46 (k := ?_) | fail))); (all_goals (try (conv => whnf))); (all_goals (try (with_reducible exact trivial))))))
    · exfalso
      have : F.cch.length = 0 := by rw [hfl]; rfl
      omega
    · refine ⟨Nat, fun i => i ≤ s.cch.length, fun i => s.cch.length - i, fun i => [(38, .any), (41, .any), (46, .any), (52, .any), (60, .any), (11, .int .i64 i)], fun _ => [], fun _ => [], 0, ⟨by omega, some [some 0, some 1, some 2], ?_⟩, ?_⟩
      · (repeat' ((conv => whnf); (first | ((with_reducible refine spl (fun hc => ?_) (fun hc => ?_)) <;> (try (exfalso; omega))) | ((with_reducible refine spl' (fun hc => ?_) (fun hc => ?_)) <;> (try (exfalso; omega))) | (with_reducible refine imp_intro (fun hc => ?_)) | refine vcq (k := ?_) | refine dr 36 (k := ?_) | refine dr 46 (k := ?_) | fail))); (all_goals (try (conv => whnf))); (all_goals (try (with_reducible exact trivial)))
      · intro i hi
        have hti : (i : Int).toNat = i := Int.toNat_natCast i
        by_cases hlt : i < s.cch.length
        · have f1 := keys_blk o1 (s.cch.getD i (0, 0)).1 (List.mem_map.2 ⟨_, getD_mem hlt, rfl⟩)
          have f2 := hcla i hlt
          have f3 : 0 < i → (s.cch.getD (i - 1) (0, 0)).1 < (s.cch.getD i (0, 0)).1 := fun h0 => asc_getD o1.asc (by omega) hlt
          (repeat' ((conv => whnf); (first | ((with_reducible refine spl (fun hc => ?_) (fun hc => ?_)) <;> (try (exfalso; omega))) | ((with_reducible refine spl' (fun hc => ?_) (fun hc => ?_)) <;> (try (exfalso; omega))) | (with_reducible refine imp_intro (fun hc => ?_)) | refine vcq (k := ?_) | refine dr 36 (k := ?_) | refine dr 46 (k := ?_) | fail))); (all_goals (try (conv => whnf))); (all_goals (try (with_reducible exact trivial))); (repeat' ((first | (refine callee_fo (isBlock12 b hb (s.cch.getD (i : Int).toNat (0, 0)).1) rfl ?_; rintro _ rfl) | (refine pcall_intro (isBlock12 b hb (s.cch.getD (i : Int).toNat (0, 0)).1) rfl ?_) | (refine pcall_soft (fun _ => isBlock12 b hb (s.cch.getD (i : Int).toNat (0, 0)).1) rfl ?_) | (refine callee_fo (last15 l hl8 (s.cch.getD (i : Int).toNat (0, 0)).1) rfl ?_; rintro _ rfl) | (refine pcall_intro (last15 l hl8 (s.cch.getD (i : Int).toNat (0, 0)).1) rfl ?_) | (refine pcall_soft (fun _ => last15 l hl8 (s.cch.getD (i : Int).toNat (0, 0)).1) rfl ?_)); (repeat' ((conv => whnf); (first | ((with_reducible refine spl (fun hc => ?_) (fun hc => ?_)) <;> (try (exfalso; omega))) | ((with_reducible refine spl' (fun hc => ?_) (fun hc => ?_)) <;> (try (exfalso; omega))) | (with_reducible refine imp_intro (fun hc => ?_)) | refine vcq (k := ?_) | refine dr 36 (k := ?_) | refine dr 46 (k := ?_) | fail))); (all_goals (try (conv => whnf))); (all_goals (try (with_reducible exact trivial))))); (all_goals (try (refine ⟨_, rfl, ?_⟩; (repeat' ((conv => whnf); (first | ((with_reducible refine spl (fun hc => ?_) (fun hc => ?_)) <;> (try (exfalso; omega))) | ((with_reducible refine spl' (fun hc => ?_) (fun hc => ?_)) <;> (try (exfalso; omega))) | (with_reducible refine imp_intro (fun hc => ?_)) | refine vcq (k := ?_) | refine dr 36 (k := ?_) | refine dr 46 (k := ?_) | fail))); (all_goals (try (conv => whnf))); (all_goals (try (with_reducible exact trivial))))))
          · exfalso
            rw [hti] at hc
            rcases hc with (hc | hc) | hc
            · exact hc f1
            · have h0 : 0 < i := by omega
              rw [show ((i : Int) - 1).toNat = i - 1 by omega] at hc
              have := f3 h0
              omega
            · exact hc f2
          · refine ⟨i + 1, ⟨by omega, by dsimp only; omega⟩, some [some 0, some 1, some 2], ?_⟩
            (repeat' ((conv => whnf); (first | ((with_reducible refine spl (fun hc => ?_) (fun hc => ?_)) <;> (try (exfalso; omega))) | ((with_reducible refine spl' (fun hc => ?_) (fun hc => ?_)) <;> (try (exfalso; omega))) | (with_reducible refine imp_intro (fun hc => ?_)) | refine vcq (k := ?_) | refine dr 36 (k := ?_) | refine dr 46 (k := ?_) | fail))); (all_goals (try (conv => whnf))); (all_goals (try (with_reducible exact trivial)))
        · obtain rfl : i = s.cch.length := by omega
          (repeat' ((conv => whnf); (first | ((with_reducible refine spl (fun hc => ?_) (fun hc => ?_)) <;> (try (exfalso; omega))) | ((with_reducible refine spl' (fun hc => ?_) (fun hc => ?_)) <;> (try (exfalso; omega))) | (with_reducible refine imp_intro (fun hc => ?_)) | refine vcq (k := ?_) | refine dr 36 (k := ?_) | refine dr 46 (k := ?_) | fail))); (all_goals (try (conv => whnf))); (all_goals (try (with_reducible exact trivial))); (repeat' ((first | (refine callee_fo (isBlock12 b hb n) rfl ?_; rintro _ rfl) | (refine pcall_intro (isBlock12 b hb n) rfl ?_) | (refine pcall_soft (fun _ => isBlock12 b hb n) rfl ?_) | (refine callee_fo (works13) rfl ?_; rintro _ rfl) | (refine pcall_intro (works13) rfl ?_) | (refine pcall_soft (fun _ => works13) rfl ?_)); (repeat' ((conv => whnf); (first | ((with_reducible refine spl (fun hc => ?_) (fun hc => ?_)) <;> (try (exfalso; omega))) | ((with_reducible refine spl' (fun hc => ?_) (fun hc => ?_)) <;> (try (exfalso; omega))) | (with_reducible refine imp_intro (fun hc => ?_)) | refine vcq (k := ?_) | refine dr 36 (k := ?_) | refine dr 46 (k := ?_) | fail))); (all_goals (try (conv => whnf))); (all_goals (try (with_reducible exact trivial))))); (all_goals (try (refine ⟨_, rfl, ?_⟩; (repeat' ((conv => whnf); (first | ((with_reducible refine spl (fun hc => ?_) (fun hc => ?_)) <;> (try (exfalso; omega))) | ((with_reducible refine spl' (fun hc => ?_) (fun hc => ?_)) <;> (try (exfalso; omega))) | (with_reducible refine imp_intro (fun hc => ?_)) | refine vcq (k := ?_) | refine dr 36 (k := ?_) | refine dr 46 (k := ?_) | fail))); (all_goals (try (conv => whnf))); (all_goals (try (with_reducible exact trivial))))))
          have hn := Classical.not_not.1 hc
          have hrd := read14 b l hl8 n
          have hnt : (n.toNat : Int) = n := by omega
          rw [rdRes_ok hz hn, ← hrla n hn.1] at hrd
          refine callee_fo hrd rfl ?_
          rintro _ rfl
          have g1 := hfm n hn.1
          have g2 := findW_spec (n := n) s.cch
          (repeat' ((conv => whnf); (first | ((with_reducible refine spl (fun hc => ?_) (fun hc => ?_)) <;> (try (exfalso; omega))) | ((with_reducible refine spl' (fun hc => ?_) (fun hc => ?_)) <;> (try (exfalso; omega))) | (with_reducible refine imp_intro (fun hc => ?_)) | refine vcq (k := ?_) | refine dr 36 (k := ?_) | refine dr 46 (k := ?_) | fail))); (all_goals (try (conv => whnf))); (all_goals (try (with_reducible exact trivial))); (repeat' ((first | (refine callee_fo (find19 s.cch (by omega) n) rfl ?_; rintro _ rfl) | (refine pcall_intro (find19 s.cch (by omega) n) rfl ?_) | (refine pcall_soft (fun _ => find19 s.cch (by omega) n) rfl ?_) | (refine callee_fo (works13) rfl ?_; rintro _ rfl) | (refine pcall_intro (works13) rfl ?_) | (refine pcall_soft (fun _ => works13) rfl ?_)); (repeat' ((conv => whnf); (first | ((with_reducible refine spl (fun hc => ?_) (fun hc => ?_)) <;> (try (exfalso; omega))) | ((with_reducible refine spl' (fun hc => ?_) (fun hc => ?_)) <;> (try (exfalso; omega))) | (with_reducible refine imp_intro (fun hc => ?_)) | refine vcq (k := ?_) | refine dr 36 (k := ?_) | refine dr 46 (k := ?_) | fail))); (all_goals (try (conv => whnf))); (all_goals (try (with_reducible exact trivial))))); (all_goals (try (refine ⟨_, rfl, ?_⟩; (repeat' ((conv => whnf); (first | ((with_reducible refine spl (fun hc => ?_) (fun hc => ?_)) <;> (try (exfalso; omega))) | ((with_reducible refine spl' (fun hc => ?_) (fun hc => ?_)) <;> (try (exfalso; omega))) | (with_reducible refine imp_intro (fun hc => ?_)) | refine vcq (k := ?_) | refine dr 36 (k := ?_) | refine dr 46 (k := ?_) | fail))); (all_goals (try (conv => whnf))); (all_goals (try (with_reducible exact trivial))))))
          exfalso
          rcases g2 with ⟨g3, g4⟩ | ⟨g3, g4⟩
          · exact hc (.inr (read_not g4).symm)
          · exact hc (.inl g3)
  · (repeat' ((conv => whnf); (first | ((with_reducible refine spl (fun hc => ?_) (fun hc => ?_)) <;> (try (exfalso; omega))) | ((with_reducible refine spl' (fun hc => ?_) (fun hc => ?_)) <;> (try (exfalso; omega))) | (with_reducible refine imp_intro (fun hc => ?_)) | refine vcq (k := ?_) | refine dr 36 (k := ?_) | refine dr 46 (k := ?_) | fail))); (all_goals (try (conv => whnf))); (all_goals (try (with_reducible exact trivial))); (repeat' ((first | (refine callee_fo (works13) rfl ?_; rintro _ rfl) | (refine pcall_intro (works13) rfl ?_) | (refine pcall_soft (fun _ => works13) rfl ?_)); (repeat' ((conv => whnf); (first | ((with_reducible refine spl (fun hc => ?_) (fun hc => ?_)) <;> (try (exfalso; omega))) | ((with_reducible refine spl' (fun hc => ?_) (fun hc => ?_)) <;> (try (exfalso; omega))) | (with_reducible refine imp_intro (fun hc => ?_)) | refine vcq (k := ?_) | refine dr 36 (k := ?_) | refine dr 46 (k := ?_) | fail))); (all_goals (try (conv => whnf))); (all_goals (try (with_reducible exact trivial))))); (all_goals (try (refine ⟨_, rfl, ?_⟩; (repeat' ((conv => whnf); (first | ((with_reducible refine spl (fun hc => ?_) (fun hc => ?_)) <;> (try (exfalso; omega))) | ((with_reducible refine spl' (fun hc => ?_) (fun hc => ?_)) <;> (try (exfalso; omega))) | (with_reducible refine imp_intro (fun hc => ?_)) | refine vcq (k := ?_) | refine dr 36 (k := ?_) | refine dr 46 (k := ?_) | fail))); (all_goals (try (conv => whnf))); (all_goals (try (with_reducible exact trivial))))))
end Go.Proofs

namespace Go.Proofs
open Go Go.Sx

/-! the neighbours -/
theorem sqz_cnt {b : Bands} : ∀ (k i : Nat) (s : St) (j : Nat), (j < i → (s.sqz b k i).cnt j = s.cnt j) ∧ ((s.sqz b k i).cnt j = s.cnt j ∨ (s.sqz b k i).cnt j = s.cnt j + 1 ∨ (s.sqz b k i).cnt j = 0)
  | 0, _, _, _ => ⟨fun _ => rfl, .inl rfl⟩
  | k + 1, i, s, j => by
    unfold St.sqz
    split
    · dsimp only [upd]
      refine ⟨fun h => by rw [if_neg (by omega)], ?_⟩
      split
      · rename_i h; subst h; exact .inr (.inl rfl)
      · exact .inl rfl
    · have ih := sqz_cnt (b := b) k (i + 1) { s with cnt := upd s.cnt i 0, cost := s.cost + b.T, refreshed := s.refreshed + 1 } j
      dsimp only at ih
      by_cases hj : j = i
      · subst hj
        have h1 := ih.1 (by omega)
        have h2 : upd s.cnt j 0 j = 0 := if_pos rfl
        rw [h2] at h1
        exact ⟨fun h => by omega, .inr (.inr h1)⟩
      · have h2 : upd s.cnt i 0 j = s.cnt j := if_neg hj
        rw [h2] at ih
        exact ⟨fun h => ih.1 (by omega), ih.2⟩

theorem clean_cnt {b : Bands} {s : St} {band : Int} (j : Nat) : (s.clean b band).cnt j = s.cnt j ∨ (s.clean b band).cnt j = s.cnt j + 1 ∨ (s.clean b band).cnt j = 0 := by
  have h := sqz_cnt (b := b) (b.B.toNat - (band.toNat + 1)) (band.toNat + 1) (s.clean0 b band) j
  have e : (s.clean0 b band).cnt = if b.costOf s.keys band = b.T then upd s.cnt band.toNat 0 else s.cnt := rfl
  by_cases hj : j = band.toNat
  · have h1 := h.1 (by omega)
    unfold St.clean
    rw [h1, e]
    split
    · rw [hj]; exact .inr (.inr (if_pos rfl))
    · exact .inl rfl
  · have h2 : (s.clean0 b band).cnt j = s.cnt j := by
      rw [e]
      split
      · exact if_neg hj
      · rfl
    rw [h2] at h
    exact h.2

theorem write_cnt {b : Bands} {s : St} {w : Int × Int} (j : Nat) : (s.write b w).cnt j = s.cnt j ∨ (s.write b w).cnt j = s.cnt j + 1 ∨ (s.write b w).cnt j = 0 := by
  unfold St.write
  split
  · exact .inl rfl
  · split
    · exact clean_cnt j
    · exact .inl rfl

theorem run_append {b : Bands} {l : List (Int × Int)} {w : Int × Int} : St.run b (l ++ [w]) = (St.run b l).write b w := by
  unfold St.run
  rw [List.foldl_append]
  rfl

/-! the price -/
theorem write_cost0 {b : Bands} {s : St} {w : Int × Int} : (s.write b w).cost = (s.write b (w.1, 0)).cost := by
  unfold St.write
  split
  · rfl
  · split <;> rfl

theorem write_price {b : Bands} (hb : b.Ok) {s : St} (hs : s.Ok b) {w : Int × Int} : s.cost ≤ (s.write b w).cost ∧ (s.write b w).cost ≤ s.cost + b.B * b.T ∧
    ((w.1 ∈ s.keys ∨ (s.cch.length : Int) < b.C) → (s.write b w).cost = s.cost ∧ (s.write b w).cleaned = s.cleaned) ∧
    (w.1 ∉ s.keys → (s.cch.length : Int) = b.C → (s.write b w).cleaned = s.cleaned + 1) := by
  have hB := hb.B
  have hT := hb.T
  have hC := hb.C
  have h0 : 0 ≤ b.B * b.T := Int.mul_nonneg (by omega) (by omega)
  unfold St.write
  split
  · rename_i hk
    exact ⟨Int.le_refl _, by dsimp only; omega, fun _ => ⟨rfl, rfl⟩, fun h => absurd hk h⟩
  · rename_i hk
    split
    · rename_i hf
      have hne : s.keys ≠ [] := by
        intro h
        have : s.cch.length = 0 := by
          have := congrArg List.length h
          simpa [St.keys] using this
        omega
      obtain ⟨x, l, k, _, h2, _, h4, _⟩ := choose_spec hb hne (keys_blk hs)
      rw [h2]
      have h1 := sqz_cost hb (b.B.toNat - ((k : Int).toNat + 1)) ((k : Int).toNat + 1) (s.clean0 b (k : Int))
      have h5 := sqz_same (b := b) (b.B.toNat - ((k : Int).toNat + 1)) ((k : Int).toNat + 1) (s.clean0 b (k : Int))
      have h3 := lowest_le hb (k : Int) s.keys
      have e : (s.clean0 b (k : Int)).cost = s.cost + (b.T - b.lowest (k : Int) s.keys) := rfl
      have e3 : (s.clean0 b (k : Int)).cleaned = s.cleaned + 1 := rfl
      rw [e] at h1
      rw [e3] at h5
      have h6 : b.T * ((b.B.toNat - ((k : Int).toNat + 1) : Nat) : Int) ≤ b.T * (b.B - 1) := Int.mul_le_mul_of_nonneg_left (by omega) (by omega)
      have h7 : b.T * (b.B - 1) = b.B * b.T - b.T := by rw [Int.mul_sub, Int.mul_one, Int.mul_comm]
      unfold St.clean
      dsimp only
      refine ⟨by omega, by omega, fun h => ?_, fun _ _ => h5.2.2⟩
      rcases h with h | h
      · exact absurd h hk
      · omega
    · rename_i hf
      exact ⟨Int.le_refl _, by dsimp only; omega, fun _ => ⟨rfl, rfl⟩, fun _ h => absurd h hf⟩

/-! the same again -/
theorem ins_self : ∀ {l : List (Int × Int)}, Asc l → ∀ {w}, w ∈ l → ins w l = l
  | x :: l, h, w, hw => by
    have h1 := List.pairwise_cons.1 h
    unfold ins
    rcases List.mem_cons.1 hw with rfl | hw
    · rw [if_neg (by omega), if_pos rfl]
    · have := h1.1 w hw
      rw [if_pos this, ins_self h1.2 hw]

theorem write_same {b : Bands} {s : St} (hs : s.Ok b) {w : Int × Int} (h : w ∈ s.cch) : s.write b w = s := by
  unfold St.write
  have hk : w.1 ∈ s.keys := List.mem_map.2 ⟨w, h, rfl⟩
  rw [if_pos hk, ins_self hs.asc h]

/-- the writes of blocks that were not written before -/
def firsts : List (Int × Int) → List (Int × Int) := fun l => l.foldl (fun a w => if w.1 ∈ a.map Prod.fst then a else a ++ [w]) []

theorem firsts_snoc {l : List (Int × Int)} {i : Nat} (h : i < l.length) : firsts (l.take (i + 1)) = if (l.getD i (0, 0)).1 ∈ (firsts (l.take i)).map Prod.fst then firsts (l.take i) else firsts (l.take i) ++ [l.getD i (0, 0)] := by
  unfold firsts
  rw [take_succ_getD (0, 0) h, List.foldl_append]
  rfl

theorem firsts_mono {l : List (Int × Int)} {i : Nat} : (firsts (l.take i)).length ≤ (firsts l).length := by
  have key : ∀ (m a : List (Int × Int)), a.length ≤ (m.foldl (fun a w => if w.1 ∈ a.map Prod.fst then a else a ++ [w]) a).length := by
    intro m
    induction m with
    | nil => intro a; exact Nat.le_refl _
    | cons w m ih =>
      intro a
      rw [List.foldl_cons]
      refine Nat.le_trans ?_ (ih _)
      split
      · exact Nat.le_refl _
      · simp
  have h := List.take_append_drop i l
  unfold firsts
  conv => rhs; rw [← h, List.foldl_append]
  exact key _ _

theorem firsts_le : ∀ (l : List (Int × Int)), (firsts l).length ≤ l.length := by
  have key : ∀ (m a : List (Int × Int)), (m.foldl (fun a w => if w.1 ∈ a.map Prod.fst then a else a ++ [w]) a).length ≤ a.length + m.length := by
    intro m
    induction m with
    | nil => intro a; exact Nat.le_refl _
    | cons w m ih =>
      intro a
      rw [List.foldl_cons]
      refine Nat.le_trans (ih _) ?_
      split
      · simp only [List.length_cons]; omega
      · simp only [List.length_append, List.length_cons, List.length_nil]; omega
  intro l
  have := key l []
  simpa [firsts] using this

/-- as long as there is a slot for each block nothing is cleaned -/
theorem calm {b : Bands} (hb : b.Ok) {l : List (Int × Int)} (hin : InB b l) (hf : ((firsts l).length : Int) ≤ b.C) : ∀ i, i ≤ l.length →
    (St.run b (l.take i)).cost = 0 ∧ (St.run b (l.take i)).cleaned = 0 ∧ (St.run b (l.take i)).refreshed = 0 ∧ (∀ j, (St.run b (l.take i)).med j = 0) ∧ (St.run b (l.take i)).cch.length = (firsts (l.take i)).length ∧ ∀ n, n ∈ (St.run b (l.take i)).keys ↔ n ∈ (firsts (l.take i)).map Prod.fst
  | 0, _ => by simp [St.run, St.begin, firsts, St.keys]
  | i + 1, h => by
    obtain ⟨h1, h2, h3, h4, h5, h6⟩ := calm hb hin hf i (by omega)
    have ho := (run_ok hb (hin.take i)).1
    have hmono := firsts_mono (l := l) (i := i + 1)
    rw [run_snoc (by omega)]
    rw [firsts_snoc (by omega)] at hmono ⊢
    generalize hw : l.getD i (0, 0) = w at *
    generalize hs : St.run b (l.take i) = s at *
    have hl := ins_length (w := w) ho.asc
    have hm := mem_ins (w := w) ho.asc
    by_cases hk : w.1 ∈ s.keys
    · have hk2 := (h6 w.1).1 hk
      rw [if_pos hk2] at hmono ⊢
      unfold St.write
      rw [if_pos hk]
      refine ⟨h1, h2, h3, h4, ?_, fun n => ?_⟩
      · dsimp only
        rw [hl, if_pos (show w.1 ∈ s.cch.map Prod.fst from hk), h5]
      · show n ∈ (ins w s.cch).map Prod.fst ↔ _
        rw [hm, ← h6]
        constructor
        · rintro (h | h)
          · rw [h]; exact hk
          · exact h
        · exact .inr
    · have hk2 : ¬ w.1 ∈ (firsts (l.take i)).map Prod.fst := fun h => hk ((h6 w.1).2 h)
      rw [if_neg hk2] at hmono ⊢
      rw [List.length_append, List.length_singleton] at hmono
      unfold St.write
      rw [if_neg hk, if_neg (by omega)]
      refine ⟨h1, h2, h3, h4, ?_, fun n => ?_⟩
      · dsimp only
        rw [hl, if_neg (show ¬ w.1 ∈ s.cch.map Prod.fst from hk), h5]
        simp
      · show n ∈ (ins w s.cch).map Prod.fst ↔ _
        rw [hm, List.map_append, List.mem_append, ← h6]
        simp only [List.map_cons, List.map_nil, List.mem_singleton]
        exact Or.comm

/-! the cheapest cleaning -/
section
variable {b : Bands} {ks : List Int} {need : Int}

/-- the best of the first sets -/
theorem best_spec : ∀ n, (((List.range n).foldl (b.stepSet ks need) (0, 0, false)).2.2 = false ∧ (∀ x, x < n → b.fitSet ks need x = false)) ∨
    ∃ x, x < n ∧ b.fitSet ks need x = true ∧ (List.range n).foldl (b.stepSet ks need) (0, 0, false) = ((x : Int), b.sumC ks x b.B.toNat, true) ∧ ∀ y, y < n → b.fitSet ks need y = true → b.sumC ks x b.B.toNat < b.sumC ks y b.B.toNat ∨ (b.sumC ks x b.B.toNat = b.sumC ks y b.B.toNat ∧ x ≤ y)
  | 0 => .inl ⟨rfl, fun x h => by omega⟩
  | n + 1 => by
    rw [List.range_succ, List.foldl_append]
    rcases best_spec n with ⟨h1, h2⟩ | ⟨x, h1, h2, h3, h4⟩
    · by_cases hf : b.fitSet ks need n = true
      · right
        refine ⟨n, by omega, hf, ?_, fun y hy hfy => ?_⟩
        · simp only [List.foldl_cons, List.foldl_nil]
          unfold Bands.stepSet
          rw [if_pos ⟨hf, .inl h1⟩]
        · rcases Nat.lt_or_eq_of_le (show y ≤ n by omega) with h | rfl
          · rw [h2 y h] at hfy; cases hfy
          · exact .inr ⟨rfl, Nat.le_refl _⟩
      · left
        refine ⟨?_, fun x hx => ?_⟩
        · simp only [List.foldl_cons, List.foldl_nil]
          rw [Bands.stepSet, if_neg (fun h => hf h.1)]
          exact h1
        · rcases Nat.lt_or_eq_of_le (show x ≤ n by omega) with h | rfl
          · exact h2 x h
          · simpa using hf
    · right
      by_cases hc : b.fitSet ks need n = true ∧ b.sumC ks n b.B.toNat < b.sumC ks x b.B.toNat
      · refine ⟨n, by omega, hc.1, ?_, fun y hy hfy => ?_⟩
        · simp only [List.foldl_cons, List.foldl_nil]
          rw [h3, Bands.stepSet, if_pos ⟨hc.1, .inr hc.2⟩]
        · rcases Nat.lt_or_eq_of_le (show y ≤ n by omega) with h | rfl
          · have := h4 y h hfy
            left
            omega
          · exact .inr ⟨rfl, Nat.le_refl _⟩
      · refine ⟨x, by omega, h2, ?_, fun y hy hfy => ?_⟩
        · simp only [List.foldl_cons, List.foldl_nil]
          rw [h3, Bands.stepSet, if_neg]
          rintro ⟨g1, g2 | g2⟩
          · cases g2
          · exact hc ⟨g1, g2⟩
        · rcases Nat.lt_or_eq_of_le (show y ≤ n by omega) with h | rfl
          · exact h4 y h hfy
          · have : ¬ b.sumC ks y b.B.toNat < b.sumC ks x b.B.toNat := fun h => hc ⟨hfy, h⟩
            omega

/-- the set of all bands with blocks -/
def allSet (b : Bands) (ks : List Int) : Nat → Nat
  | 0 => 0
  | i + 1 => allSet b ks i + (if b.slots i ks = 0 then 0 else 2 ^ i)

theorem allSet_lt : ∀ n, allSet b ks n < 2 ^ n
  | 0 => by simp [allSet]
  | n + 1 => by
    have := allSet_lt n
    unfold allSet
    rw [Nat.pow_succ]
    split <;> omega

theorem bit_add_high {x i n : Nat} (h : i < n) : bit (x + 2 ^ n) i = bit x i := by
  unfold bit
  obtain ⟨d, rfl⟩ : ∃ d, n = i + 1 + d := ⟨n - i - 1, by omega⟩
  have : 2 ^ (i + 1 + d) = 2 ^ i * (2 * 2 ^ d) := by rw [Nat.pow_add, Nat.pow_succ, Nat.mul_assoc]
  rw [this, Nat.add_mul_div_left _ _ (by exact Nat.two_pow_pos i), Nat.add_mul_mod_self_left]

theorem bit_top {x n : Nat} (h : x < 2 ^ n) : bit x n = false := by
  unfold bit
  rw [Nat.div_eq_of_lt h]
  rfl

theorem bit_top1 {x n : Nat} (h : x < 2 ^ n) : bit (x + 2 ^ n) n = true := by
  unfold bit
  have : (x + 2 ^ n) / 2 ^ n = 1 := by
    rw [Nat.add_div_right _ (by exact Nat.two_pow_pos n), Nat.div_eq_of_lt h]
  rw [this]
  rfl

theorem allSet_bit : ∀ n i, i < n → bit (allSet b ks n) i = !(b.slots i ks == 0)
  | n + 1, i, h => by
    have hlt := allSet_lt (b := b) (ks := ks) n
    unfold allSet
    rcases Nat.lt_or_eq_of_le (show i ≤ n by omega) with hi | rfl
    · split
      · exact allSet_bit n i hi
      · rw [bit_add_high hi]; exact allSet_bit n i hi
    · split
      · rename_i hz
        rw [Nat.add_zero, bit_top hlt]
        simp [hz]
      · rename_i hz
        rw [bit_top1 hlt]
        simp [hz]

theorem sumS_all {set : Nat} : ∀ n, (∀ i, i < n → bit set i = !(b.slots i ks == 0)) → b.sumS ks set n = ((List.range n).map fun (i : Nat) => b.slots i ks).sum
  | 0, _ => rfl
  | n + 1, h => by
    unfold Bands.sumS
    rw [sumS_all n (fun i hi => h i (by omega)), h n (by omega), List.range_succ, List.map_append, List.sum_append]
    congr 1
    by_cases hz : b.slots n ks = 0 <;> simp [hz]

theorem sum_slots (hb : b.Ok) : ∀ {ks : List Int}, (∀ n ∈ ks, 0 ≤ n ∧ n < b.N) → ((List.range b.B.toNat).map fun (i : Nat) => b.slots i ks).sum = (ks.length : Int)
  | [], _ => by
    have : ∀ n, ((List.range n).map fun (i : Nat) => b.slots i []).sum = 0 := by
      intro n
      induction n with
      | zero => rfl
      | succ n ih => rw [List.range_succ, List.map_append, List.sum_append, ih]; rfl
    simpa using this _
  | x :: ks, h => by
    have ih := sum_slots hb (ks := ks) (fun n hn => h n (List.mem_cons_of_mem _ hn))
    have hbd := bd_lt hb (h x List.mem_cons_self)
    have : ∀ n, ((List.range n).map fun (i : Nat) => b.slots i (x :: ks)).sum = ((List.range n).map fun (i : Nat) => b.slots i ks).sum + (if b.bd x < n then 1 else 0) := by
      intro n
      induction n with
      | zero =>
        simp only [List.range_zero, List.map_nil, List.sum_nil]
        rw [if_neg (by omega)]
        rfl
      | succ n ihn =>
        rw [List.range_succ, List.map_append, List.sum_append, ihn, List.map_append, List.sum_append]
        simp only [List.map_cons, List.map_nil, List.sum_cons, List.sum_nil, Bands.slots]
        by_cases h1 : b.bd x = n
        · rw [if_pos h1, if_neg (by omega), if_pos (by omega)]; omega
        · rw [if_neg h1]
          by_cases h2 : b.bd x < n
          · rw [if_pos h2, if_pos (by omega)]; omega
          · rw [if_neg h2, if_neg (by omega)]; omega
    rw [this, ih, if_pos (by omega)]
    simp

theorem fit_all (hb : b.Ok) (hk : ∀ n ∈ ks, 0 ≤ n ∧ n < b.N) (hn : need ≤ b.C) : b.fitSet ks need (allSet b ks b.B.toNat) = true := by
  have h1 := fun i hi => allSet_bit (b := b) (ks := ks) b.B.toNat i hi
  unfold Bands.fitSet
  rw [sumS_all _ h1, sum_slots hb hk]
  simp only [Bool.and_eq_true, decide_eq_true_eq]
  refine ⟨?_, by omega⟩
  unfold Bands.okSet
  rw [List.all_eq_true]
  intro i hi
  rw [h1 i (List.mem_range.1 hi)]
  simp

/-- what the best set is -/
theorem best_is (hb : b.Ok) (hk : ∀ n ∈ ks, 0 ≤ n ∧ n < b.N) (hn : need ≤ b.C) : ∃ x, x < 2 ^ b.B.toNat ∧ b.fitSet ks need x = true ∧ b.best ks need = ((x : Int), b.sumC ks x b.B.toNat, true) ∧
    ∀ y, y < 2 ^ b.B.toNat → b.fitSet ks need y = true → b.sumC ks x b.B.toNat < b.sumC ks y b.B.toNat ∨ (b.sumC ks x b.B.toNat = b.sumC ks y b.B.toNat ∧ x ≤ y) := by
  rcases best_spec (b := b) (ks := ks) (need := need) (2 ^ b.B.toNat) with ⟨_, h⟩ | h
  · have := h _ (allSet_lt (b := b) (ks := ks) b.B.toNat)
    rw [fit_all hb hk hn] at this
    cases this
  · exact h
end
theorem chk_zero {b : Bands} {l : List (Int × Int)} (h1 : b.Ok) (h2 : l.length ≤ 60) (h3 : AreW b l) : chk b l = 0 := by
  unfold chk
  rw [if_neg (fun h => h h1), if_neg (by omega), if_neg (fun h => h h3)]

theorem chk_take {b : Bands} {l : List (Int × Int)} (h : chk b l = 0) (i : Nat) : chk b (l.take i) = 0 := by
  obtain ⟨h1, h2, h3⟩ := chk_ok h
  exact chk_zero h1 (by rw [List.length_take]; omega) (fun w hw => h3 w (List.mem_of_mem_take hw))

theorem run16s (b : Bands) (l : List (Int × Int)) (hz : chk b l = 0) : PureC Try.prog 16 false [b.v, .sl 2 l.length (rowOf wC (0, 0) l)] (· = .tup [stV b.N.toNat b.B.toNat (St.run b l), .int .i64 0]) := by
  have hr := run16 b l (by have := (chk_ok hz).2.1; omega)
  have e1 : resN b l = b.N.toNat := if_pos hz
  have e2 : resB b l = b.B.toNat := if_pos hz
  have e3 : resR b l = St.run b l := if_pos hz
  rwa [e1, e2, e3, hz] at hr

theorem price25s (b : Bands) (l : List (Int × Int)) (hz : chk b l = 0) (n : Int) (hn : 0 ≤ n ∧ n < b.N) (v : Int) : PureC Try.prog 25 false [b.v, .sl 2 l.length (rowOf wC (0, 0) l), .int .i64 n] (· = .tup [.int .i64 (((St.run b l).write b (n, v)).cost - (St.run b l).cost), .int .i64 0]) := by
  have hr := price25 b l (by have := (chk_ok hz).2.1; omega) n
  rw [if_pos ⟨hz, hn⟩, if_pos hz, if_pos hn] at hr
  rwa [write_cost0 (w := (n, v))]

theorem rowW_take {l : List (Int × Int)} {i k : Nat} (h : k < i) : rowOf wC (0, 0) (l.take i) k = rowOf wC (0, 0) l k := by
  unfold rowOf
  rw [getD_take h]

end Go.Proofs

namespace Go.Proofs
open Go Go.Sx
set_option maxRecDepth 100000
set_option maxHeartbeats 4000000
-- SxAid2

theorem bandOf58 (b : Bands) (hb : b.Ok) (n : Int) (h0 : 0 ≤ n) (h1 : n ≤ 1000000) : PureC Try.prog 58 false [b.v, .int .i64 n] (· = .tup [.int .i64 (b.bd n), .int .i64 (b.tr n)]) := by
  have hB := hb.B
  have hT := hb.T
  have hK := hb.K
  have e0 : n.tdiv b.K = n / b.K := Int.tdiv_eq_ediv_of_nonneg h0
  have e1 : 0 ≤ n / b.K := Int.ediv_nonneg h0 (by omega)
  have e2 : (n / b.K).tmod b.T = n / b.K % b.T := Int.tmod_eq_emod_of_nonneg e1
  have e3 : 1 ≤ b.K * b.T ∧ b.K * b.T ≤ 24 := ⟨Int.le_trans (by omega) (Int.mul_le_mul hK.1 hT.1 (by omega) (by omega)), Int.le_trans (Int.mul_le_mul hK.2 hT.2 (by omega) (by omega)) (by omega)⟩
  have e4 : n.tdiv (b.K * b.T) = n / b.K / b.T := by rw [Int.tdiv_eq_ediv_of_nonneg h0, Int.ediv_ediv_of_nonneg (by omega)]
  have e5 : 0 ≤ n / b.K / b.T ∧ n / b.K / b.T ≤ n := ⟨Int.ediv_nonneg e1 (by omega), Int.le_trans (Int.ediv_le_self _ e1) (Int.ediv_le_self _ h0)⟩
  have e6 : n / b.K ≤ n := Int.ediv_le_self _ h0
  unfold Bands.bd Bands.tr
  rw [← e4, ← e2, ← e0] at *
  refine pureC_of_exec Try.E_ok Try.func58 rfl (by kernel_rfl) ?_
  (repeat' ((conv => whnf); (first | ((with_reducible refine spl (fun hc => ?_) (fun hc => ?_)) <;> (try (exfalso; omega))) | ((with_reducible refine spl' (fun hc => ?_) (fun hc => ?_)) <;> (try (exfalso; omega))) | (with_reducible refine imp_intro (fun hc => ?_)) | refine vcq (k := ?_) | refine dr 1 (k := ?_) | refine dr 2 (k := ?_) | refine dr 3 (k := ?_) | refine dr 4 (k := ?_) | refine dr 5 (k := ?_) | refine dr 6 (k := ?_) | refine dr 7 (k := ?_) | refine dr 8 (k := ?_) | refine dr 9 (k := ?_) | refine dr 10 (k := ?_) | refine dr 11 (k := ?_) | refine dr 12 (k := ?_) | refine dr 1001 (k := ?_) | refine dr 1002 (k := ?_) | refine dr 1003 (k := ?_) | refine dr 1004 (k := ?_) | refine dr 1005 (k := ?_) | refine dr 1006 (k := ?_) | refine dr 1007 (k := ?_) | refine dr 1008 (k := ?_) | refine dr 1009 (k := ?_) | refine dr 1010 (k := ?_) | refine dr 1011 (k := ?_) | refine dr 1012 (k := ?_) | refine dr 1013 (k := ?_) | refine dr 1014 (k := ?_) | refine dr 1015 (k := ?_) | refine dr 1016 (k := ?_) | fail))); (all_goals (try (conv => whnf))); (all_goals (try (with_reducible exact trivial)))
  refine ⟨_, rfl, ?_⟩
  (repeat' ((conv => whnf); (first | ((with_reducible refine spl (fun hc => ?_) (fun hc => ?_)) <;> (try (exfalso; omega))) | ((with_reducible refine spl' (fun hc => ?_) (fun hc => ?_)) <;> (try (exfalso; omega))) | (with_reducible refine imp_intro (fun hc => ?_)) | refine vcq (k := ?_) | refine dr 1 (k := ?_) | refine dr 2 (k := ?_) | refine dr 3 (k := ?_) | refine dr 4 (k := ?_) | refine dr 5 (k := ?_) | refine dr 6 (k := ?_) | refine dr 7 (k := ?_) | refine dr 8 (k := ?_) | refine dr 9 (k := ?_) | refine dr 10 (k := ?_) | refine dr 11 (k := ?_) | refine dr 12 (k := ?_) | refine dr 1001 (k := ?_) | refine dr 1002 (k := ?_) | refine dr 1003 (k := ?_) | refine dr 1004 (k := ?_) | refine dr 1005 (k := ?_) | refine dr 1006 (k := ?_) | refine dr 1007 (k := ?_) | refine dr 1008 (k := ?_) | refine dr 1009 (k := ?_) | refine dr 1010 (k := ?_) | refine dr 1011 (k := ?_) | refine dr 1012 (k := ?_) | refine dr 1013 (k := ?_) | refine dr 1014 (k := ?_) | refine dr 1015 (k := ?_) | refine dr 1016 (k := ?_) | fail))); (all_goals (try (conv => whnf))); (all_goals (try (with_reducible exact trivial)))

/-- the blocks of a cache -/
def ksOf (c : List (Int × Int)) : List Int := c.map Prod.fst

theorem ksOf_snoc {c : List (Int × Int)} {i : Nat} (h : i < c.length) : (ksOf (c.take (i + 1))).Perm ((c.getD i (0, 0)).1 :: ksOf (c.take i)) := by
  unfold ksOf
  rw [take_succ_getD (0, 0) h, List.map_append]
  exact List.perm_append_comm

theorem costOf42 (b : Bands) (hb : b.Ok) (c : List (Int × Int)) (hl : c.length ≤ 8000) (hin : InB b c) (band : Int) : PureC Try.prog 42 false [b.v, .sl 2 c.length (rowOf wC (0, 0) c), .int .i64 band] (· = .tup [.int .i64 (b.costOf (ksOf c) band), .int .i64 (b.slots band (ksOf c))]) := by
  have hB := hb.B
  have hT := hb.T
  have hNb := N_bounds hb
  refine pureC_of_exec Try.E_ok Try.func42 rfl (by kernel_rfl) ?_
  (repeat' ((conv => whnf); (first | ((with_reducible refine spl (fun hc => ?_) (fun hc => ?_)) <;> (try (exfalso; omega))) | ((with_reducible refine spl' (fun hc => ?_) (fun hc => ?_)) <;> (try (exfalso; omega))) | (with_reducible refine imp_intro (fun hc => ?_)) | refine vcq (k := ?_) | refine dr 12 (k := ?_) | fail))); (all_goals (try (conv => whnf))); (all_goals (try (with_reducible exact trivial)))
  refine ⟨Nat, fun i => i ≤ c.length, fun i => c.length - i, fun i => [(9, .int .i64 i), (7, .int .i64 (b.slots band (ksOf (c.take i)))), (8, .int .i64 (b.lowest band (ksOf (c.take i))))], fun _ => [], fun _ => [], 0, ⟨by omega, some [some 0], ?_⟩, ?_⟩
  · (repeat' ((conv => whnf); (first | ((with_reducible refine spl (fun hc => ?_) (fun hc => ?_)) <;> (try (exfalso; omega))) | ((with_reducible refine spl' (fun hc => ?_) (fun hc => ?_)) <;> (try (exfalso; omega))) | (with_reducible refine imp_intro (fun hc => ?_)) | refine vcq (k := ?_) | refine dr 12 (k := ?_) | fail))); (all_goals (try (conv => whnf))); (all_goals (try (with_reducible exact trivial)))
  · intro i hi
    have hti : (i : Int).toNat = i := Int.toNat_natCast i
    have h1 := slots_nonneg (b := b) band (ksOf (c.take i))
    have h2 := lowest_le hb band (ksOf (c.take i))
    have h3 : (ksOf (c.take i)).length ≤ 8000 := by unfold ksOf; rw [List.length_map, List.length_take]; omega
    by_cases hlt : i < c.length
    · have hw := hin _ (getD_mem (d := (0, 0)) hlt)
      have hs := slots_perm (b := b) (band := band) (ksOf_snoc hlt)
      have hlo := lowest_perm (b := b) (band := band) (ksOf_snoc hlt)
      have hgd : c.getD i (0, 0) = c.getD ((i : Int).toNat) (0, 0) := by rw [hti]
      rw [hgd] at hw hs hlo
      simp only [Bands.slots, Bands.lowest] at hs hlo
      (repeat' ((conv => whnf); (first | ((with_reducible refine spl (fun hc => ?_) (fun hc => ?_)) <;> (try (exfalso; omega))) | ((with_reducible refine spl' (fun hc => ?_) (fun hc => ?_)) <;> (try (exfalso; omega))) | (with_reducible refine imp_intro (fun hc => ?_)) | refine vcq (k := ?_) | refine dr 12 (k := ?_) | fail))); (all_goals (try (conv => whnf))); (all_goals (try (with_reducible exact trivial))); (repeat' ((first | (refine callee_fo (bandOf58 b hb (c.getD ((i : Int).toNat) (0, 0)).1 (by omega) (by omega)) rfl ?_; rintro _ rfl) | (refine pcall_intro (bandOf58 b hb (c.getD ((i : Int).toNat) (0, 0)).1 (by omega) (by omega)) rfl ?_) | (refine pcall_soft (fun _ => bandOf58 b hb (c.getD ((i : Int).toNat) (0, 0)).1 (by omega) (by omega)) rfl ?_)); (repeat' ((conv => whnf); (first | ((with_reducible refine spl (fun hc => ?_) (fun hc => ?_)) <;> (try (exfalso; omega))) | ((with_reducible refine spl' (fun hc => ?_) (fun hc => ?_)) <;> (try (exfalso; omega))) | (with_reducible refine imp_intro (fun hc => ?_)) | refine vcq (k := ?_) | refine dr 12 (k := ?_) | fail))); (all_goals (try (conv => whnf))); (all_goals (try (with_reducible exact trivial))))); (all_goals (try (refine ⟨_, rfl, ?_⟩; (repeat' ((conv => whnf); (first | ((with_reducible refine spl (fun hc => ?_) (fun hc => ?_)) <;> (try (exfalso; omega))) | ((with_reducible refine spl' (fun hc => ?_) (fun hc => ?_)) <;> (try (exfalso; omega))) | (with_reducible refine imp_intro (fun hc => ?_)) | refine vcq (k := ?_) | refine dr 12 (k := ?_) | fail))); (all_goals (try (conv => whnf))); (all_goals (try (with_reducible exact trivial))))))
      · rw [if_pos hc] at hs hlo
        refine ⟨i + 1, ⟨by omega, by dsimp only; omega⟩, some [some 0], ?_⟩
        (repeat' ((conv => whnf); (first | ((with_reducible refine spl (fun hc => ?_) (fun hc => ?_)) <;> (try (exfalso; omega))) | ((with_reducible refine spl' (fun hc => ?_) (fun hc => ?_)) <;> (try (exfalso; omega))) | (with_reducible refine imp_intro (fun hc => ?_)) | refine vcq (k := ?_) | refine dr 12 (k := ?_) | fail))); (all_goals (try (conv => whnf))); (all_goals (try (with_reducible exact trivial)))
      · rw [if_neg hc] at hs hlo
        refine ⟨i + 1, ⟨by omega, by dsimp only; omega⟩, some [some 0], ?_⟩
        (repeat' ((conv => whnf); (first | ((with_reducible refine spl (fun hc => ?_) (fun hc => ?_)) <;> (try (exfalso; omega))) | ((with_reducible refine spl' (fun hc => ?_) (fun hc => ?_)) <;> (try (exfalso; omega))) | (with_reducible refine imp_intro (fun hc => ?_)) | refine vcq (k := ?_) | refine dr 12 (k := ?_) | fail))); (all_goals (try (conv => whnf))); (all_goals (try (with_reducible exact trivial)))
    · obtain rfl : i = c.length := by omega
      rw [List.take_length] at h1 h2
      have e1 : b.slots band (ksOf (c.take c.length)) = b.slots band (ksOf c) := by rw [List.take_length]
      have e2 : b.lowest band (ksOf (c.take c.length)) = b.lowest band (ksOf c) := by rw [List.take_length]
      (repeat' ((conv => whnf); (first | ((with_reducible refine spl (fun hc => ?_) (fun hc => ?_)) <;> (try (exfalso; omega))) | ((with_reducible refine spl' (fun hc => ?_) (fun hc => ?_)) <;> (try (exfalso; omega))) | (with_reducible refine imp_intro (fun hc => ?_)) | refine vcq (k := ?_) | refine dr 12 (k := ?_) | fail))); (all_goals (try (conv => whnf))); (all_goals (try (with_reducible exact trivial)))
      refine ⟨_, rfl, ?_⟩
      unfold Bands.costOf
      (repeat' ((conv => whnf); (first | ((with_reducible refine spl (fun hc => ?_) (fun hc => ?_)) <;> (try (exfalso; omega))) | ((with_reducible refine spl' (fun hc => ?_) (fun hc => ?_)) <;> (try (exfalso; omega))) | (with_reducible refine imp_intro (fun hc => ?_)) | refine vcq (k := ?_) | refine dr 12 (k := ?_) | fail))); (all_goals (try (conv => whnf))); (all_goals (try (with_reducible exact trivial)))

theorem sumS_le {b : Bands} {ks : List Int} {set : Nat} : ∀ n : Nat, 0 ≤ b.sumS ks set n ∧ b.sumS ks set n ≤ (ks.length : Int) * n
  | 0 => by simp [Bands.sumS]
  | n + 1 => by
    have ih := sumS_le (b := b) (ks := ks) (set := set) n
    have h2 := slots_nonneg (b := b) n ks
    have e : (ks.length : Int) * ((n + 1 : Nat) : Int) = ks.length * n + ks.length := by rw [Int.natCast_succ, Int.mul_add, Int.mul_one]
    unfold Bands.sumS
    split <;> omega

open Classical in
theorem costOfAll21 (b : Bands) (hb : b.Ok) (c : List (Int × Int)) (hl : c.length ≤ 8000) (hin : InB b c) (set : Nat) (hset : set < 64) : PureC Try.prog 21 false [b.v, .sl 2 c.length (rowOf wC (0, 0) c), .int .i64 set]
    (· = .tup [.int .i64 (if b.okSet (ksOf c) set then b.sumC (ksOf c) set b.B.toNat else 0), .int .i64 (if b.okSet (ksOf c) set then b.sumS (ksOf c) set b.B.toNat else 0), .prop (b.okSet (ksOf c) set = true) inferInstance]) := by
  have hB := hb.B
  have hT := hb.T
  have hokiff : b.okSet (ksOf c) set = true ↔ ∀ i, i < b.B.toNat → bit set i = true → b.slots i (ksOf c) ≠ 0 := by
    unfold Bands.okSet
    rw [List.all_eq_true]
    constructor
    · intro h i hi hb
      have := h i (List.mem_range.2 hi)
      simpa [hb] using this
    · intro h i hi
      by_cases hb : bit set i = true
      · simpa [hb] using h i (List.mem_range.1 hi) hb
      · simp [hb]
  refine pureC_of_exec Try.E_ok Try.func21 rfl (by kernel_rfl) ?_
  (repeat' ((conv => whnf); (first | ((with_reducible refine spl (fun hc => ?_) (fun hc => ?_)) <;> (try (exfalso; omega))) | ((with_reducible refine spl' (fun hc => ?_) (fun hc => ?_)) <;> (try (exfalso; omega))) | (with_reducible refine imp_intro (fun hc => ?_)) | refine vcq (k := ?_) | refine dr 12 (k := ?_) | fail))); (all_goals (try (conv => whnf))); (all_goals (try (with_reducible exact trivial)))
  refine ⟨Nat, fun i => i ≤ b.B.toNat ∧ (∀ j, j < i → bit set j = true → b.slots j (ksOf c) ≠ 0), fun i => b.B.toNat - i, fun i => [(9, .int .i64 i), (6, .int .i64 (b.sumC (ksOf c) set i)), (7, .int .i64 (b.sumS (ksOf c) set i))], fun _ => [], fun _ => [], 0, ⟨⟨by omega, fun j hj => by omega⟩, some [some 0], ?_⟩, ?_⟩
  · (repeat' ((conv => whnf); (first | ((with_reducible refine spl (fun hc => ?_) (fun hc => ?_)) <;> (try (exfalso; omega))) | ((with_reducible refine spl' (fun hc => ?_) (fun hc => ?_)) <;> (try (exfalso; omega))) | (with_reducible refine imp_intro (fun hc => ?_)) | refine vcq (k := ?_) | refine dr 12 (k := ?_) | fail))); (all_goals (try (conv => whnf))); (all_goals (try (with_reducible exact trivial)))
  · rintro i ⟨hi, hno⟩
    have hti : (i : Int).toNat = i := Int.toNat_natCast i
    have h1 := sumC_le hb (ks := ksOf c) (set := set) i
    have h2 := slots_nonneg (b := b) i (ksOf c)
    have h4 := lowest_le hb i (ksOf c)
    have h3 : (ksOf c).length ≤ 8000 := by unfold ksOf; rw [List.length_map]; exact hl
    have h5 : 0 ≤ b.sumS (ksOf c) set i ∧ b.sumS (ksOf c) set i ≤ 8000 * i := by
      clear hno hi hti h1 h2 h4
      induction i with
      | zero => simp [Bands.sumS]
      | succ i ih =>
        have h2 := slots_nonneg (b := b) i (ksOf c)
        unfold Bands.sumS
        split <;> omega
    by_cases hlt : i < b.B.toNat
    · have hbit : bitsI .and .i64 ((set : Int).fdiv (2 ^ ((i : Int).toNat))) 1 = 0 ↔ ¬ bit set i = true := by
        have e1 : (set : Int).fdiv (2 ^ ((i : Int).toNat)) = ((set / 2 ^ i : Nat) : Int) := by
          rw [Int.toNat_natCast, Int.fdiv_eq_ediv_of_nonneg _ (Int.pow_nonneg (by omega))]
          simp
        rw [e1, and_one ⟨set / 2 ^ i, Nat.lt_of_le_of_lt (Nat.div_le_self _ _) (by omega)⟩]
        unfold bit
        simp only [beq_iff_eq]
        omega
      have e1 : b.sumC (ksOf c) set (i + 1) = b.sumC (ksOf c) set i + (if bit set i then b.costOf (ksOf c) i else 0) := rfl
      have e2 : b.sumS (ksOf c) set (i + 1) = b.sumS (ksOf c) set i + (if bit set i then b.slots i (ksOf c) else 0) := rfl
      have e3 : b.costOf (ksOf c) i = b.T - b.lowest i (ksOf c) := rfl
      (repeat' ((conv => whnf); (first | ((with_reducible refine spl (fun hc => ?_) (fun hc => ?_)) <;> (try (exfalso; omega))) | ((with_reducible refine spl' (fun hc => ?_) (fun hc => ?_)) <;> (try (exfalso; omega))) | (with_reducible refine imp_intro (fun hc => ?_)) | refine vcq (k := ?_) | refine dr 12 (k := ?_) | fail))); (all_goals (try (conv => whnf))); (all_goals (try (with_reducible exact trivial)))
      refine ⟨⟨by show (0 : Int) ≤ i; omega, by show (i : Int) ≤ 18446744073709551615; omega⟩, ?_⟩
      (repeat' ((conv => whnf); (first | ((with_reducible refine spl (fun hc => ?_) (fun hc => ?_)) <;> (try (exfalso; omega))) | ((with_reducible refine spl' (fun hc => ?_) (fun hc => ?_)) <;> (try (exfalso; omega))) | (with_reducible refine imp_intro (fun hc => ?_)) | refine vcq (k := ?_) | refine dr 12 (k := ?_) | fail))); (all_goals (try (conv => whnf))); (all_goals (try (with_reducible exact trivial)))
      refine ⟨⟨by omega, Nat.le_trans (show (i : Int).toNat ≤ 6 by omega) (by decide)⟩, ?_⟩
      (repeat' ((conv => whnf); (first | ((with_reducible refine spl (fun hc => ?_) (fun hc => ?_)) <;> (try (exfalso; omega))) | ((with_reducible refine spl' (fun hc => ?_) (fun hc => ?_)) <;> (try (exfalso; omega))) | (with_reducible refine imp_intro (fun hc => ?_)) | refine vcq (k := ?_) | refine dr 12 (k := ?_) | fail))); (all_goals (try (conv => whnf))); (all_goals (try (with_reducible exact trivial))); (repeat' ((first | (refine callee_fo (costOf42 b hb c hl hin i) rfl ?_; rintro _ rfl) | (refine pcall_intro (costOf42 b hb c hl hin i) rfl ?_) | (refine pcall_soft (fun _ => costOf42 b hb c hl hin i) rfl ?_)); (repeat' ((conv => whnf); (first | ((with_reducible refine spl (fun hc => ?_) (fun hc => ?_)) <;> (try (exfalso; omega))) | ((with_reducible refine spl' (fun hc => ?_) (fun hc => ?_)) <;> (try (exfalso; omega))) | (with_reducible refine imp_intro (fun hc => ?_)) | refine vcq (k := ?_) | refine dr 12 (k := ?_) | fail))); (all_goals (try (conv => whnf))); (all_goals (try (with_reducible exact trivial))))); (all_goals (try (refine ⟨_, rfl, ?_⟩; (repeat' ((conv => whnf); (first | ((with_reducible refine spl (fun hc => ?_) (fun hc => ?_)) <;> (try (exfalso; omega))) | ((with_reducible refine spl' (fun hc => ?_) (fun hc => ?_)) <;> (try (exfalso; omega))) | (with_reducible refine imp_intro (fun hc => ?_)) | refine vcq (k := ?_) | refine dr 12 (k := ?_) | fail))); (all_goals (try (conv => whnf))); (all_goals (try (with_reducible exact trivial))))))
      · have hb0 := hbit.1 hc
        rw [if_neg hb0] at e1 e2
        refine ⟨i + 1, ⟨⟨by omega, fun j hj hbj => ?_⟩, by dsimp only; omega⟩, some [some 0], ?_⟩
        · rcases Nat.lt_or_eq_of_le (show j ≤ i by omega) with h | rfl
          · exact hno j h hbj
          · exact absurd hbj hb0
        · (repeat' ((conv => whnf); (first | ((with_reducible refine spl (fun hc => ?_) (fun hc => ?_)) <;> (try (exfalso; omega))) | ((with_reducible refine spl' (fun hc => ?_) (fun hc => ?_)) <;> (try (exfalso; omega))) | (with_reducible refine imp_intro (fun hc => ?_)) | refine vcq (k := ?_) | refine dr 12 (k := ?_) | fail))); (all_goals (try (conv => whnf))); (all_goals (try (with_reducible exact trivial)))
      · have hno2 : ¬ b.okSet (ksOf c) set = true := fun h => hokiff.1 h i hlt (Classical.byContradiction fun g => (by rename_i h0; exact h0 (hbit.2 g))) hc
        rw [if_neg hno2, if_neg hno2]
        (repeat' ((conv => whnf); (first | ((with_reducible refine spl (fun hc => ?_) (fun hc => ?_)) <;> (try (exfalso; omega))) | ((with_reducible refine spl' (fun hc => ?_) (fun hc => ?_)) <;> (try (exfalso; omega))) | (with_reducible refine imp_intro (fun hc => ?_)) | refine vcq (k := ?_) | refine dr 12 (k := ?_) | fail))); (all_goals (try (conv => whnf))); (all_goals (try (with_reducible exact trivial)))
      · have hb1 : bit set i = true := Classical.byContradiction fun g => (by rename_i h0; exact h0 (hbit.2 g))
        rw [if_pos hb1] at e1 e2
        refine ⟨i + 1, ⟨⟨by omega, fun j hj hbj => ?_⟩, by dsimp only; omega⟩, some [some 0], ?_⟩
        · rcases Nat.lt_or_eq_of_le (show j ≤ i by omega) with h | rfl
          · exact hno j h hbj
          · exact hc
        · (repeat' ((conv => whnf); (first | ((with_reducible refine spl (fun hc => ?_) (fun hc => ?_)) <;> (try (exfalso; omega))) | ((with_reducible refine spl' (fun hc => ?_) (fun hc => ?_)) <;> (try (exfalso; omega))) | (with_reducible refine imp_intro (fun hc => ?_)) | refine vcq (k := ?_) | refine dr 12 (k := ?_) | fail))); (all_goals (try (conv => whnf))); (all_goals (try (with_reducible exact trivial)))
    · obtain rfl : i = b.B.toNat := by omega
      have e1 := hokiff.2 hno
      (repeat' ((conv => whnf); (first | ((with_reducible refine spl (fun hc => ?_) (fun hc => ?_)) <;> (try (exfalso; omega))) | ((with_reducible refine spl' (fun hc => ?_) (fun hc => ?_)) <;> (try (exfalso; omega))) | (with_reducible refine imp_intro (fun hc => ?_)) | refine vcq (k := ?_) | refine dr 12 (k := ?_) | fail))); (all_goals (try (conv => whnf))); (all_goals (try (with_reducible exact trivial)))
      refine ⟨_, rfl, ?_⟩
      rw [if_pos e1, if_pos e1]
      (repeat' ((conv => whnf); (first | ((with_reducible refine spl (fun hc => ?_) (fun hc => ?_)) <;> (try (exfalso; omega))) | ((with_reducible refine spl' (fun hc => ?_) (fun hc => ?_)) <;> (try (exfalso; omega))) | (with_reducible refine imp_intro (fun hc => ?_)) | refine vcq (k := ?_) | refine dr 12 (k := ?_) | fail))); (all_goals (try (conv => whnf))); (all_goals (try (with_reducible exact trivial)))

end Go.Proofs

namespace Go.Proofs
open Go Go.Sx
set_option maxRecDepth 100000
set_option maxHeartbeats 4000000
-- SxAid2

/-- a state of one's own -/
def ownV (n m : Nat) (s : St) : V := .agg [.osl 0 n, .osl 1 s.cch.length, .osl 2 m, .int .i64 s.cost, .int .i64 s.cleaned, .int .i64 s.refreshed]
def ownH (n m : Nat) (s : St) (nz : Bool) : List O := [.row 3 1 n (fun j => [.int .i64 (s.med j)]) false, .row 42 2 s.cch.length (rowOf wC (0, 0) s.cch) nz, .row 3 1 m (fun j => [.int .i64 (s.cnt j)]) false]

theorem copyState63 (n m : Nat) (hn : n ≤ 1000) (hm : m ≤ 1000) (s : St) (hs : s.cch.length ≤ 1000) : NewC Try.prog 63 [stV n m s] (fun r H => r = ownV n m s ∧ H = ownH n m s false) := by
  refine newC_ent Try.E_ok Try.func63 rfl (by kernel_rfl) ?_
  (repeat' ((conv => whnf); (first | ((with_reducible refine spl (fun hc => ?_) (fun hc => ?_)) <;> (try (exfalso; omega))) | ((with_reducible refine spl' (fun hc => ?_) (fun hc => ?_)) <;> (try (exfalso; omega))) | (with_reducible refine imp_intro (fun hc => ?_)) | refine vcq (k := ?_) | refine dr 1 (k := ?_) | refine dr 2 (k := ?_) | refine dr 3 (k := ?_) | refine dr 4 (k := ?_) | refine dr 5 (k := ?_) | refine dr 6 (k := ?_) | refine dr 7 (k := ?_) | refine dr 8 (k := ?_) | refine dr 9 (k := ?_) | refine dr 10 (k := ?_) | refine dr 11 (k := ?_) | refine dr 12 (k := ?_) | refine dr 1001 (k := ?_) | refine dr 1002 (k := ?_) | refine dr 1003 (k := ?_) | refine dr 1004 (k := ?_) | refine dr 1005 (k := ?_) | refine dr 1006 (k := ?_) | refine dr 1007 (k := ?_) | refine dr 1008 (k := ?_) | refine dr 1009 (k := ?_) | refine dr 1010 (k := ?_) | refine dr 1011 (k := ?_) | refine dr 1012 (k := ?_) | refine dr 1013 (k := ?_) | refine dr 1014 (k := ?_) | refine dr 1015 (k := ?_) | refine dr 1016 (k := ?_) | fail))); (all_goals (try (conv => whnf))); (all_goals (try (with_reducible exact trivial)))
  refine ⟨_, _, ⟨rfl, rfl⟩, some [some 4, some 6, some 8], ?_⟩
  (repeat' ((conv => whnf); (first | ((with_reducible refine spl (fun hc => ?_) (fun hc => ?_)) <;> (try (exfalso; omega))) | ((with_reducible refine spl' (fun hc => ?_) (fun hc => ?_)) <;> (try (exfalso; omega))) | (with_reducible refine imp_intro (fun hc => ?_)) | refine vcq (k := ?_) | refine dr 1 (k := ?_) | refine dr 2 (k := ?_) | refine dr 3 (k := ?_) | refine dr 4 (k := ?_) | refine dr 5 (k := ?_) | refine dr 6 (k := ?_) | refine dr 7 (k := ?_) | refine dr 8 (k := ?_) | refine dr 9 (k := ?_) | refine dr 10 (k := ?_) | refine dr 11 (k := ?_) | refine dr 12 (k := ?_) | refine dr 1001 (k := ?_) | refine dr 1002 (k := ?_) | refine dr 1003 (k := ?_) | refine dr 1004 (k := ?_) | refine dr 1005 (k := ?_) | refine dr 1006 (k := ?_) | refine dr 1007 (k := ?_) | refine dr 1008 (k := ?_) | refine dr 1009 (k := ?_) | refine dr 1010 (k := ?_) | refine dr 1011 (k := ?_) | refine dr 1012 (k := ?_) | refine dr 1013 (k := ?_) | refine dr 1014 (k := ?_) | refine dr 1015 (k := ?_) | refine dr 1016 (k := ?_) | fail))); (all_goals (try (conv => whnf))); (all_goals (try (with_reducible exact trivial)))

theorem squeeze65 (b : Bands) (hb : b.Ok) (n : Nat) (nz : Bool) : ∀ (k : Nat) (s : St) (band : Nat), s.Ok b → (0 ≤ s.cost ∧ s.cost + 6 * k ≤ 2000000) → (0 ≤ s.refreshed ∧ s.refreshed + k ≤ 2000000) → band ≤ 100 → k = b.B.toNat - band →
    Sx.Callee Try.prog 65 [b.v, ownV n b.B.toNat s, .int .i64 band] (ownH n b.B.toNat s nz) (fun r H => r = ownV n b.B.toNat (s.sqz b k band) ∧ H = ownH n b.B.toNat (s.sqz b k band) nz)
  | k, s, band, hs, hco, hre, hbd, hk => by
    have hB := hb.B
    have hT := hb.T
    have hL := hb.L
    have hci := hs.cnt ((band : Int).toNat)
    have hnz : (nz == nz) = true := by cases nz <;> rfl
    have hti : (band : Int).toNat = band := Int.toNat_natCast band
    refine callee_ent Try.E_ok Try.func65 rfl (by kernel_rfl) ?_
    (repeat' ((conv => whnf); (first | ((with_reducible refine spl (fun hc => ?_) (fun hc => ?_)) <;> (try (exfalso; omega))) | ((with_reducible refine spl' (fun hc => ?_) (fun hc => ?_)) <;> (try (exfalso; omega))) | (with_reducible refine imp_intro (fun hc => ?_)) | refine vcq (k := ?_) | refine dr 1 (k := ?_) | refine dr 2 (k := ?_) | refine dr 3 (k := ?_) | refine dr 4 (k := ?_) | refine dr 5 (k := ?_) | refine dr 6 (k := ?_) | refine dr 7 (k := ?_) | refine dr 8 (k := ?_) | refine dr 9 (k := ?_) | refine dr 10 (k := ?_) | refine dr 11 (k := ?_) | refine dr 12 (k := ?_) | refine dr 1001 (k := ?_) | refine dr 1002 (k := ?_) | refine dr 1003 (k := ?_) | refine dr 1004 (k := ?_) | refine dr 1005 (k := ?_) | refine dr 1006 (k := ?_) | refine dr 1007 (k := ?_) | refine dr 1008 (k := ?_) | refine dr 1009 (k := ?_) | refine dr 1010 (k := ?_) | refine dr 1011 (k := ?_) | refine dr 1012 (k := ?_) | refine dr 1013 (k := ?_) | refine dr 1014 (k := ?_) | refine dr 1015 (k := ?_) | refine dr 1016 (k := ?_) | fail))); (all_goals (try (conv => whnf))); (all_goals (try (with_reducible exact trivial)))
    · have e : s.sqz b k band = s := by
        rw [show k = 0 by omega]
        rfl
      rw [e]
      refine ⟨_, _, ⟨rfl, rfl⟩, some [some 0, some 1, some 2], ?_⟩
      (repeat' ((conv => whnf); (first | ((with_reducible refine spl (fun hc => ?_) (fun hc => ?_)) <;> (try (exfalso; omega))) | ((with_reducible refine spl' (fun hc => ?_) (fun hc => ?_)) <;> (try (exfalso; omega))) | (with_reducible refine imp_intro (fun hc => ?_)) | refine vcq (k := ?_) | refine dr 1 (k := ?_) | refine dr 2 (k := ?_) | refine dr 3 (k := ?_) | refine dr 4 (k := ?_) | refine dr 5 (k := ?_) | refine dr 6 (k := ?_) | refine dr 7 (k := ?_) | refine dr 8 (k := ?_) | refine dr 9 (k := ?_) | refine dr 10 (k := ?_) | refine dr 11 (k := ?_) | refine dr 12 (k := ?_) | refine dr 1001 (k := ?_) | refine dr 1002 (k := ?_) | refine dr 1003 (k := ?_) | refine dr 1004 (k := ?_) | refine dr 1005 (k := ?_) | refine dr 1006 (k := ?_) | refine dr 1007 (k := ?_) | refine dr 1008 (k := ?_) | refine dr 1009 (k := ?_) | refine dr 1010 (k := ?_) | refine dr 1011 (k := ?_) | refine dr 1012 (k := ?_) | refine dr 1013 (k := ?_) | refine dr 1014 (k := ?_) | refine dr 1015 (k := ?_) | refine dr 1016 (k := ?_) | fail))); (all_goals (try (conv => whnf))); (all_goals (try (with_reducible exact trivial)))
      rw [hnz]
      (repeat' ((conv => whnf); (first | ((with_reducible refine spl (fun hc => ?_) (fun hc => ?_)) <;> (try (exfalso; omega))) | ((with_reducible refine spl' (fun hc => ?_) (fun hc => ?_)) <;> (try (exfalso; omega))) | (with_reducible refine imp_intro (fun hc => ?_)) | refine vcq (k := ?_) | refine dr 1 (k := ?_) | refine dr 2 (k := ?_) | refine dr 3 (k := ?_) | refine dr 4 (k := ?_) | refine dr 5 (k := ?_) | refine dr 6 (k := ?_) | refine dr 7 (k := ?_) | refine dr 8 (k := ?_) | refine dr 9 (k := ?_) | refine dr 10 (k := ?_) | refine dr 11 (k := ?_) | refine dr 12 (k := ?_) | refine dr 1001 (k := ?_) | refine dr 1002 (k := ?_) | refine dr 1003 (k := ?_) | refine dr 1004 (k := ?_) | refine dr 1005 (k := ?_) | refine dr 1006 (k := ?_) | refine dr 1007 (k := ?_) | refine dr 1008 (k := ?_) | refine dr 1009 (k := ?_) | refine dr 1010 (k := ?_) | refine dr 1011 (k := ?_) | refine dr 1012 (k := ?_) | refine dr 1013 (k := ?_) | refine dr 1014 (k := ?_) | refine dr 1015 (k := ?_) | refine dr 1016 (k := ?_) | fail))); (all_goals (try (conv => whnf))); (all_goals (try (with_reducible exact trivial)))
    · rename_i hlt
      rw [if_pos rfl] at hc
      rw [hti] at hc
      have e : s.sqz b k band = { s with cnt := upd s.cnt band (s.cnt band + 1) } := by
        obtain ⟨k', rfl⟩ : ∃ k', k = k' + 1 := ⟨k - 1, by omega⟩
        rw [St.sqz, if_pos hc]
      rw [e]
      refine ⟨_, _, ⟨rfl, rfl⟩, some [some 0, some 1, some 2], ?_⟩
      (repeat' ((conv => whnf); (first | ((with_reducible refine spl (fun hc => ?_) (fun hc => ?_)) <;> (try (exfalso; omega))) | ((with_reducible refine spl' (fun hc => ?_) (fun hc => ?_)) <;> (try (exfalso; omega))) | (with_reducible refine imp_intro (fun hc => ?_)) | refine vcq (k := ?_) | refine dr 1 (k := ?_) | refine dr 2 (k := ?_) | refine dr 3 (k := ?_) | refine dr 4 (k := ?_) | refine dr 5 (k := ?_) | refine dr 6 (k := ?_) | refine dr 7 (k := ?_) | refine dr 8 (k := ?_) | refine dr 9 (k := ?_) | refine dr 10 (k := ?_) | refine dr 11 (k := ?_) | refine dr 12 (k := ?_) | refine dr 1001 (k := ?_) | refine dr 1002 (k := ?_) | refine dr 1003 (k := ?_) | refine dr 1004 (k := ?_) | refine dr 1005 (k := ?_) | refine dr 1006 (k := ?_) | refine dr 1007 (k := ?_) | refine dr 1008 (k := ?_) | refine dr 1009 (k := ?_) | refine dr 1010 (k := ?_) | refine dr 1011 (k := ?_) | refine dr 1012 (k := ?_) | refine dr 1013 (k := ?_) | refine dr 1014 (k := ?_) | refine dr 1015 (k := ?_) | refine dr 1016 (k := ?_) | fail))); (all_goals (try (conv => whnf))); (all_goals (try (with_reducible exact trivial)))
      rw [hnz]
      (repeat' ((conv => whnf); (first | ((with_reducible refine spl (fun hc => ?_) (fun hc => ?_)) <;> (try (exfalso; omega))) | ((with_reducible refine spl' (fun hc => ?_) (fun hc => ?_)) <;> (try (exfalso; omega))) | (with_reducible refine imp_intro (fun hc => ?_)) | refine vcq (k := ?_) | refine dr 1 (k := ?_) | refine dr 2 (k := ?_) | refine dr 3 (k := ?_) | refine dr 4 (k := ?_) | refine dr 5 (k := ?_) | refine dr 6 (k := ?_) | refine dr 7 (k := ?_) | refine dr 8 (k := ?_) | refine dr 9 (k := ?_) | refine dr 10 (k := ?_) | refine dr 11 (k := ?_) | refine dr 12 (k := ?_) | refine dr 1001 (k := ?_) | refine dr 1002 (k := ?_) | refine dr 1003 (k := ?_) | refine dr 1004 (k := ?_) | refine dr 1005 (k := ?_) | refine dr 1006 (k := ?_) | refine dr 1007 (k := ?_) | refine dr 1008 (k := ?_) | refine dr 1009 (k := ?_) | refine dr 1010 (k := ?_) | refine dr 1011 (k := ?_) | refine dr 1012 (k := ?_) | refine dr 1013 (k := ?_) | refine dr 1014 (k := ?_) | refine dr 1015 (k := ?_) | refine dr 1016 (k := ?_) | fail))); (all_goals (try (conv => whnf))); (all_goals (try (with_reducible exact trivial)))
      refine ⟨fun j _ => congrArg (fun x => [V.int .i64 x]) (by rw [hti]; exact ite_upd Iff.rfl), ?_⟩
      (repeat' ((conv => whnf); (first | ((with_reducible refine spl (fun hc => ?_) (fun hc => ?_)) <;> (try (exfalso; omega))) | ((with_reducible refine spl' (fun hc => ?_) (fun hc => ?_)) <;> (try (exfalso; omega))) | (with_reducible refine imp_intro (fun hc => ?_)) | refine vcq (k := ?_) | refine dr 1 (k := ?_) | refine dr 2 (k := ?_) | refine dr 3 (k := ?_) | refine dr 4 (k := ?_) | refine dr 5 (k := ?_) | refine dr 6 (k := ?_) | refine dr 7 (k := ?_) | refine dr 8 (k := ?_) | refine dr 9 (k := ?_) | refine dr 10 (k := ?_) | refine dr 11 (k := ?_) | refine dr 12 (k := ?_) | refine dr 1001 (k := ?_) | refine dr 1002 (k := ?_) | refine dr 1003 (k := ?_) | refine dr 1004 (k := ?_) | refine dr 1005 (k := ?_) | refine dr 1006 (k := ?_) | refine dr 1007 (k := ?_) | refine dr 1008 (k := ?_) | refine dr 1009 (k := ?_) | refine dr 1010 (k := ?_) | refine dr 1011 (k := ?_) | refine dr 1012 (k := ?_) | refine dr 1013 (k := ?_) | refine dr 1014 (k := ?_) | refine dr 1015 (k := ?_) | refine dr 1016 (k := ?_) | fail))); (all_goals (try (conv => whnf))); (all_goals (try (with_reducible exact trivial)))
    · rename_i hlt
      rw [if_pos rfl] at hc
      rw [hti] at hc
      obtain ⟨k', rfl⟩ : ∃ k', k = k' + 1 := ⟨k - 1, by omega⟩
      have e : s.sqz b (k' + 1) band = St.sqz b k' (band + 1) { s with cnt := upd s.cnt band 0, cost := s.cost + b.T, refreshed := s.refreshed + 1 } := by
        rw [St.sqz, if_neg hc]
      rw [e]
      refine callee_frame [0, 1, 2] (squeeze65 b hb n nz k' { s with cnt := upd s.cnt band 0, cost := s.cost + b.T, refreshed := s.refreshed + 1 } (band + 1) ⟨hs.asc, hs.blk, hs.len, upd_cnt hs.cnt (by omega)⟩ (by dsimp only; omega) (by dsimp only; omega) (by omega) (by omega)) rfl ?_ ?_
      · (repeat' ((conv => whnf); (first | ((with_reducible refine spl (fun hc => ?_) (fun hc => ?_)) <;> (try (exfalso; omega))) | ((with_reducible refine spl' (fun hc => ?_) (fun hc => ?_)) <;> (try (exfalso; omega))) | (with_reducible refine imp_intro (fun hc => ?_)) | refine vcq (k := ?_) | refine dr 1 (k := ?_) | refine dr 2 (k := ?_) | refine dr 3 (k := ?_) | refine dr 4 (k := ?_) | refine dr 5 (k := ?_) | refine dr 6 (k := ?_) | refine dr 7 (k := ?_) | refine dr 8 (k := ?_) | refine dr 9 (k := ?_) | refine dr 10 (k := ?_) | refine dr 11 (k := ?_) | refine dr 12 (k := ?_) | refine dr 1001 (k := ?_) | refine dr 1002 (k := ?_) | refine dr 1003 (k := ?_) | refine dr 1004 (k := ?_) | refine dr 1005 (k := ?_) | refine dr 1006 (k := ?_) | refine dr 1007 (k := ?_) | refine dr 1008 (k := ?_) | refine dr 1009 (k := ?_) | refine dr 1010 (k := ?_) | refine dr 1011 (k := ?_) | refine dr 1012 (k := ?_) | refine dr 1013 (k := ?_) | refine dr 1014 (k := ?_) | refine dr 1015 (k := ?_) | refine dr 1016 (k := ?_) | fail))); (all_goals (try (conv => whnf))); (all_goals (try (with_reducible exact trivial)))
        rw [hnz]
        (repeat' ((conv => whnf); (first | ((with_reducible refine spl (fun hc => ?_) (fun hc => ?_)) <;> (try (exfalso; omega))) | ((with_reducible refine spl' (fun hc => ?_) (fun hc => ?_)) <;> (try (exfalso; omega))) | (with_reducible refine imp_intro (fun hc => ?_)) | refine vcq (k := ?_) | refine dr 1 (k := ?_) | refine dr 2 (k := ?_) | refine dr 3 (k := ?_) | refine dr 4 (k := ?_) | refine dr 5 (k := ?_) | refine dr 6 (k := ?_) | refine dr 7 (k := ?_) | refine dr 8 (k := ?_) | refine dr 9 (k := ?_) | refine dr 10 (k := ?_) | refine dr 11 (k := ?_) | refine dr 12 (k := ?_) | refine dr 1001 (k := ?_) | refine dr 1002 (k := ?_) | refine dr 1003 (k := ?_) | refine dr 1004 (k := ?_) | refine dr 1005 (k := ?_) | refine dr 1006 (k := ?_) | refine dr 1007 (k := ?_) | refine dr 1008 (k := ?_) | refine dr 1009 (k := ?_) | refine dr 1010 (k := ?_) | refine dr 1011 (k := ?_) | refine dr 1012 (k := ?_) | refine dr 1013 (k := ?_) | refine dr 1014 (k := ?_) | refine dr 1015 (k := ?_) | refine dr 1016 (k := ?_) | fail))); (all_goals (try (conv => whnf))); (all_goals (try (with_reducible exact trivial)))
        refine ⟨fun j _ => congrArg (fun x => [V.int .i64 x]) (by rw [hti]; unfold upd; split <;> simp_all), ?_⟩
        (repeat' ((conv => whnf); (first | ((with_reducible refine spl (fun hc => ?_) (fun hc => ?_)) <;> (try (exfalso; omega))) | ((with_reducible refine spl' (fun hc => ?_) (fun hc => ?_)) <;> (try (exfalso; omega))) | (with_reducible refine imp_intro (fun hc => ?_)) | refine vcq (k := ?_) | refine dr 1 (k := ?_) | refine dr 2 (k := ?_) | refine dr 3 (k := ?_) | refine dr 4 (k := ?_) | refine dr 5 (k := ?_) | refine dr 6 (k := ?_) | refine dr 7 (k := ?_) | refine dr 8 (k := ?_) | refine dr 9 (k := ?_) | refine dr 10 (k := ?_) | refine dr 11 (k := ?_) | refine dr 12 (k := ?_) | refine dr 1001 (k := ?_) | refine dr 1002 (k := ?_) | refine dr 1003 (k := ?_) | refine dr 1004 (k := ?_) | refine dr 1005 (k := ?_) | refine dr 1006 (k := ?_) | refine dr 1007 (k := ?_) | refine dr 1008 (k := ?_) | refine dr 1009 (k := ?_) | refine dr 1010 (k := ?_) | refine dr 1011 (k := ?_) | refine dr 1012 (k := ?_) | refine dr 1013 (k := ?_) | refine dr 1014 (k := ?_) | refine dr 1015 (k := ?_) | refine dr 1016 (k := ?_) | fail))); (all_goals (try (conv => whnf))); (all_goals (try (with_reducible exact trivial)))
      · rintro _ _ ⟨rfl, rfl⟩
        (repeat' ((conv => whnf); (first | ((with_reducible refine spl (fun hc => ?_) (fun hc => ?_)) <;> (try (exfalso; omega))) | ((with_reducible refine spl' (fun hc => ?_) (fun hc => ?_)) <;> (try (exfalso; omega))) | (with_reducible refine imp_intro (fun hc => ?_)) | refine vcq (k := ?_) | refine dr 1 (k := ?_) | refine dr 2 (k := ?_) | refine dr 3 (k := ?_) | refine dr 4 (k := ?_) | refine dr 5 (k := ?_) | refine dr 6 (k := ?_) | refine dr 7 (k := ?_) | refine dr 8 (k := ?_) | refine dr 9 (k := ?_) | refine dr 10 (k := ?_) | refine dr 11 (k := ?_) | refine dr 12 (k := ?_) | refine dr 1001 (k := ?_) | refine dr 1002 (k := ?_) | refine dr 1003 (k := ?_) | refine dr 1004 (k := ?_) | refine dr 1005 (k := ?_) | refine dr 1006 (k := ?_) | refine dr 1007 (k := ?_) | refine dr 1008 (k := ?_) | refine dr 1009 (k := ?_) | refine dr 1010 (k := ?_) | refine dr 1011 (k := ?_) | refine dr 1012 (k := ?_) | refine dr 1013 (k := ?_) | refine dr 1014 (k := ?_) | refine dr 1015 (k := ?_) | refine dr 1016 (k := ?_) | fail))); (all_goals (try (conv => whnf))); (all_goals (try (with_reducible exact trivial)))
        refine ⟨_, _, ⟨rfl, rfl⟩, some [some 0, some 1, some 2], ?_⟩
        (repeat' ((conv => whnf); (first | ((with_reducible refine spl (fun hc => ?_) (fun hc => ?_)) <;> (try (exfalso; omega))) | ((with_reducible refine spl' (fun hc => ?_) (fun hc => ?_)) <;> (try (exfalso; omega))) | (with_reducible refine imp_intro (fun hc => ?_)) | refine vcq (k := ?_) | refine dr 1 (k := ?_) | refine dr 2 (k := ?_) | refine dr 3 (k := ?_) | refine dr 4 (k := ?_) | refine dr 5 (k := ?_) | refine dr 6 (k := ?_) | refine dr 7 (k := ?_) | refine dr 8 (k := ?_) | refine dr 9 (k := ?_) | refine dr 10 (k := ?_) | refine dr 11 (k := ?_) | refine dr 12 (k := ?_) | refine dr 1001 (k := ?_) | refine dr 1002 (k := ?_) | refine dr 1003 (k := ?_) | refine dr 1004 (k := ?_) | refine dr 1005 (k := ?_) | refine dr 1006 (k := ?_) | refine dr 1007 (k := ?_) | refine dr 1008 (k := ?_) | refine dr 1009 (k := ?_) | refine dr 1010 (k := ?_) | refine dr 1011 (k := ?_) | refine dr 1012 (k := ?_) | refine dr 1013 (k := ?_) | refine dr 1014 (k := ?_) | refine dr 1015 (k := ?_) | refine dr 1016 (k := ?_) | fail))); (all_goals (try (conv => whnf))); (all_goals (try (with_reducible exact trivial)))
        rw [hnz]
        (repeat' ((conv => whnf); (first | ((with_reducible refine spl (fun hc => ?_) (fun hc => ?_)) <;> (try (exfalso; omega))) | ((with_reducible refine spl' (fun hc => ?_) (fun hc => ?_)) <;> (try (exfalso; omega))) | (with_reducible refine imp_intro (fun hc => ?_)) | refine vcq (k := ?_) | refine dr 1 (k := ?_) | refine dr 2 (k := ?_) | refine dr 3 (k := ?_) | refine dr 4 (k := ?_) | refine dr 5 (k := ?_) | refine dr 6 (k := ?_) | refine dr 7 (k := ?_) | refine dr 8 (k := ?_) | refine dr 9 (k := ?_) | refine dr 10 (k := ?_) | refine dr 11 (k := ?_) | refine dr 12 (k := ?_) | refine dr 1001 (k := ?_) | refine dr 1002 (k := ?_) | refine dr 1003 (k := ?_) | refine dr 1004 (k := ?_) | refine dr 1005 (k := ?_) | refine dr 1006 (k := ?_) | refine dr 1007 (k := ?_) | refine dr 1008 (k := ?_) | refine dr 1009 (k := ?_) | refine dr 1010 (k := ?_) | refine dr 1011 (k := ?_) | refine dr 1012 (k := ?_) | refine dr 1013 (k := ?_) | refine dr 1014 (k := ?_) | refine dr 1015 (k := ?_) | refine dr 1016 (k := ?_) | fail))); (all_goals (try (conv => whnf))); (all_goals (try (with_reducible exact trivial)))
end Go.Proofs

namespace Go.Proofs
open Go Go.Sx
set_option maxRecDepth 100000
set_option maxHeartbeats 4000000
-- SxAid2

theorem mem_ksOf_succ {c : List (Int × Int)} {i : Nat} (h : i < c.length) {n : Int} : n ∈ ksOf (c.take (i + 1)) ↔ n = (c.getD i (0, 0)).1 ∨ n ∈ ksOf (c.take i) := by
  rw [(ksOf_snoc h).mem_iff, List.mem_cons]

theorem mem_ksOf_succ_aux {p q : Prop} {j n : Int} (h : j = n) (hm : p ↔ j = n ∨ q) : p := hm.2 (.inl h)

theorem part_med {b : Bands} {s : St} {band : Int} {ks : List Int} {j : Nat} : (s.part b band ks).med j = if (j : Int) ∈ ks ∧ b.bd j = band then look s.cch j else s.med j := rfl

theorem filter_take_pos {α : Type} {p : α → Bool} {l : List α} {d : α} {i : Nat} (h : i < l.length) (hp : p (l.getD i d) = true) : (l.take (i + 1)).filter p = (l.take i).filter p ++ [l.getD i d] := by
  rw [take_succ_getD d h, List.filter_append, List.filter_cons_of_pos hp, List.filter_nil]

theorem filter_take_neg {α : Type} {p : α → Bool} {l : List α} {d : α} {i : Nat} (h : i < l.length) (hp : p (l.getD i d) = false) : (l.take (i + 1)).filter p = (l.take i).filter p := by
  rw [take_succ_getD d h, List.filter_append, List.filter_cons_of_neg (by rw [hp]; simp), List.filter_nil, List.append_nil]

theorem clean48 (b : Bands) (hb : b.Ok) (s : St) (hs : s.Ok b) (hsm : s.Small 10000) (band : Nat) (hband : (band : Int) < b.B) : PureC Try.prog 48 false [b.v, stV b.N.toNat b.B.toNat s, .int .i64 band] (· = stV b.N.toNat b.B.toNat (s.clean b band)) := by
  have hB := hb.B
  have hT := hb.T
  have hC := hb.C
  have hNb := N_bounds hb
  have hlow := lowest_le hb band s.keys
  have hln := hs.len
  obtain ⟨s1, s2, s3⟩ := hsm
  have hks : ksOf s.cch = s.keys := rfl
  have hco : b.costOf s.keys band = b.T - b.lowest band s.keys := rfl
  refine pureC_of_exec Try.E_ok Try.func48 rfl (by kernel_rfl) ?_
  (repeat' ((conv => whnf); (first | ((with_reducible refine spl (fun hc => ?_) (fun hc => ?_)) <;> (try (exfalso; omega))) | ((with_reducible refine spl' (fun hc => ?_) (fun hc => ?_)) <;> (try (exfalso; omega))) | (with_reducible refine imp_intro (fun hc => ?_)) | refine vcq (k := ?_) | refine dr 1 (k := ?_) | refine dr 2 (k := ?_) | refine dr 3 (k := ?_) | refine dr 4 (k := ?_) | refine dr 5 (k := ?_) | refine dr 6 (k := ?_) | refine dr 7 (k := ?_) | refine dr 8 (k := ?_) | refine dr 9 (k := ?_) | refine dr 10 (k := ?_) | refine dr 11 (k := ?_) | refine dr 12 (k := ?_) | refine dr 1001 (k := ?_) | refine dr 1002 (k := ?_) | refine dr 1003 (k := ?_) | refine dr 1004 (k := ?_) | refine dr 1005 (k := ?_) | refine dr 1006 (k := ?_) | refine dr 1007 (k := ?_) | refine dr 1008 (k := ?_) | refine dr 1009 (k := ?_) | refine dr 1010 (k := ?_) | refine dr 1011 (k := ?_) | refine dr 1012 (k := ?_) | refine dr 1013 (k := ?_) | refine dr 1014 (k := ?_) | refine dr 1015 (k := ?_) | refine dr 1016 (k := ?_) | fail))); (all_goals (try (conv => whnf))); (all_goals (try (with_reducible exact trivial)))
  refine callee_new (copyState63 b.N.toNat b.B.toNat (by omega) (by omega) s (by omega)) rfl ?_
  rintro _ _ ⟨rfl, rfl⟩
  (repeat' ((conv => whnf); (first | ((with_reducible refine spl (fun hc => ?_) (fun hc => ?_)) <;> (try (exfalso; omega))) | ((with_reducible refine spl' (fun hc => ?_) (fun hc => ?_)) <;> (try (exfalso; omega))) | (with_reducible refine imp_intro (fun hc => ?_)) | refine vcq (k := ?_) | refine dr 1 (k := ?_) | refine dr 2 (k := ?_) | refine dr 3 (k := ?_) | refine dr 4 (k := ?_) | refine dr 5 (k := ?_) | refine dr 6 (k := ?_) | refine dr 7 (k := ?_) | refine dr 8 (k := ?_) | refine dr 9 (k := ?_) | refine dr 10 (k := ?_) | refine dr 11 (k := ?_) | refine dr 12 (k := ?_) | refine dr 1001 (k := ?_) | refine dr 1002 (k := ?_) | refine dr 1003 (k := ?_) | refine dr 1004 (k := ?_) | refine dr 1005 (k := ?_) | refine dr 1006 (k := ?_) | refine dr 1007 (k := ?_) | refine dr 1008 (k := ?_) | refine dr 1009 (k := ?_) | refine dr 1010 (k := ?_) | refine dr 1011 (k := ?_) | refine dr 1012 (k := ?_) | refine dr 1013 (k := ?_) | refine dr 1014 (k := ?_) | refine dr 1015 (k := ?_) | refine dr 1016 (k := ?_) | fail))); (all_goals (try (conv => whnf))); (all_goals (try (with_reducible exact trivial))); (repeat' ((first | (refine callee_fo (costOf42 b hb s.cch (by omega) hs.blk band) rfl ?_; rintro _ rfl) | (refine pcall_intro (costOf42 b hb s.cch (by omega) hs.blk band) rfl ?_) | (refine pcall_soft (fun _ => costOf42 b hb s.cch (by omega) hs.blk band) rfl ?_)); (repeat' ((conv => whnf); (first | ((with_reducible refine spl (fun hc => ?_) (fun hc => ?_)) <;> (try (exfalso; omega))) | ((with_reducible refine spl' (fun hc => ?_) (fun hc => ?_)) <;> (try (exfalso; omega))) | (with_reducible refine imp_intro (fun hc => ?_)) | refine vcq (k := ?_) | refine dr 1 (k := ?_) | refine dr 2 (k := ?_) | refine dr 3 (k := ?_) | refine dr 4 (k := ?_) | refine dr 5 (k := ?_) | refine dr 6 (k := ?_) | refine dr 7 (k := ?_) | refine dr 8 (k := ?_) | refine dr 9 (k := ?_) | refine dr 10 (k := ?_) | refine dr 11 (k := ?_) | refine dr 12 (k := ?_) | refine dr 1001 (k := ?_) | refine dr 1002 (k := ?_) | refine dr 1003 (k := ?_) | refine dr 1004 (k := ?_) | refine dr 1005 (k := ?_) | refine dr 1006 (k := ?_) | refine dr 1007 (k := ?_) | refine dr 1008 (k := ?_) | refine dr 1009 (k := ?_) | refine dr 1010 (k := ?_) | refine dr 1011 (k := ?_) | refine dr 1012 (k := ?_) | refine dr 1013 (k := ?_) | refine dr 1014 (k := ?_) | refine dr 1015 (k := ?_) | refine dr 1016 (k := ?_) | fail))); (all_goals (try (conv => whnf))); (all_goals (try (with_reducible exact trivial))))); (all_goals (try (refine ⟨_, rfl, ?_⟩; (repeat' ((conv => whnf); (first | ((with_reducible refine spl (fun hc => ?_) (fun hc => ?_)) <;> (try (exfalso; omega))) | ((with_reducible refine spl' (fun hc => ?_) (fun hc => ?_)) <;> (try (exfalso; omega))) | (with_reducible refine imp_intro (fun hc => ?_)) | refine vcq (k := ?_) | refine dr 1 (k := ?_) | refine dr 2 (k := ?_) | refine dr 3 (k := ?_) | refine dr 4 (k := ?_) | refine dr 5 (k := ?_) | refine dr 6 (k := ?_) | refine dr 7 (k := ?_) | refine dr 8 (k := ?_) | refine dr 9 (k := ?_) | refine dr 10 (k := ?_) | refine dr 11 (k := ?_) | refine dr 12 (k := ?_) | refine dr 1001 (k := ?_) | refine dr 1002 (k := ?_) | refine dr 1003 (k := ?_) | refine dr 1004 (k := ?_) | refine dr 1005 (k := ?_) | refine dr 1006 (k := ?_) | refine dr 1007 (k := ?_) | refine dr 1008 (k := ?_) | refine dr 1009 (k := ?_) | refine dr 1010 (k := ?_) | refine dr 1011 (k := ?_) | refine dr 1012 (k := ?_) | refine dr 1013 (k := ?_) | refine dr 1014 (k := ?_) | refine dr 1015 (k := ?_) | refine dr 1016 (k := ?_) | fail))); (all_goals (try (conv => whnf))); (all_goals (try (with_reducible exact trivial))))))
  rw [hks] at *
  refine ⟨Nat, fun i => i ≤ s.cch.length, fun i => s.cch.length - i, fun i => [(10, .int .i64 i)], fun i => [(3, .row 3 1 b.N.toNat (fun j => [.int .i64 ((s.part b band (ksOf (s.cch.take i))).med j)]) false), (6, .cells 37 [.osl 3 b.N.toNat, .osl 7 ((s.cch.take i).filter (fun x => !(b.bd x.1 == (band : Int)))).length, .osl 5 b.B.toNat, .int .i64 s.cost, .int .i64 s.cleaned, .int .i64 s.refreshed])], fun i => [.row 42 2 ((s.cch.take i).filter (fun x => !(b.bd x.1 == (band : Int)))).length (rowOf wC (0, 0) ((s.cch.take i).filter (fun x => !(b.bd x.1 == (band : Int))))) true], 0, ⟨by omega, some [some 0, some 1, some 2, some 3, some 4, some 5, some 6, none], ?_⟩, ?_⟩
  · (repeat' ((conv => whnf); (first | ((with_reducible refine spl (fun hc => ?_) (fun hc => ?_)) <;> (try (exfalso; omega))) | ((with_reducible refine spl' (fun hc => ?_) (fun hc => ?_)) <;> (try (exfalso; omega))) | (with_reducible refine imp_intro (fun hc => ?_)) | refine vcq (k := ?_) | refine dr 1 (k := ?_) | refine dr 2 (k := ?_) | refine dr 3 (k := ?_) | refine dr 4 (k := ?_) | refine dr 5 (k := ?_) | refine dr 6 (k := ?_) | refine dr 7 (k := ?_) | refine dr 8 (k := ?_) | refine dr 9 (k := ?_) | refine dr 10 (k := ?_) | refine dr 11 (k := ?_) | refine dr 12 (k := ?_) | refine dr 1001 (k := ?_) | refine dr 1002 (k := ?_) | refine dr 1003 (k := ?_) | refine dr 1004 (k := ?_) | refine dr 1005 (k := ?_) | refine dr 1006 (k := ?_) | refine dr 1007 (k := ?_) | refine dr 1008 (k := ?_) | refine dr 1009 (k := ?_) | refine dr 1010 (k := ?_) | refine dr 1011 (k := ?_) | refine dr 1012 (k := ?_) | refine dr 1013 (k := ?_) | refine dr 1014 (k := ?_) | refine dr 1015 (k := ?_) | refine dr 1016 (k := ?_) | fail))); (all_goals (try (conv => whnf))); (all_goals (try (with_reducible exact trivial)))
  · intro i hi
    have hti : (i : Int).toNat = i := Int.toNat_natCast i
    by_cases hlt : i < s.cch.length
    · have hfl : ((s.cch.take i).filter (fun x => !(b.bd x.1 == (band : Int)))).length ≤ 12 := Nat.le_trans (List.length_filter_le _ _) (by rw [List.length_take]; omega)
      have hw := hs.blk _ (getD_mem (d := (0, 0)) hlt)
      have hgd : s.cch.getD i (0, 0) = s.cch.getD ((i : Int).toNat) (0, 0) := by rw [hti]
      rw [hgd] at hw
      (repeat' ((conv => whnf); (first | ((with_reducible refine spl (fun hc => ?_) (fun hc => ?_)) <;> (try (exfalso; omega))) | ((with_reducible refine spl' (fun hc => ?_) (fun hc => ?_)) <;> (try (exfalso; omega))) | (with_reducible refine imp_intro (fun hc => ?_)) | refine vcq (k := ?_) | refine dr 1 (k := ?_) | refine dr 2 (k := ?_) | refine dr 3 (k := ?_) | refine dr 4 (k := ?_) | refine dr 5 (k := ?_) | refine dr 6 (k := ?_) | refine dr 7 (k := ?_) | refine dr 8 (k := ?_) | refine dr 9 (k := ?_) | refine dr 10 (k := ?_) | refine dr 11 (k := ?_) | refine dr 12 (k := ?_) | refine dr 1001 (k := ?_) | refine dr 1002 (k := ?_) | refine dr 1003 (k := ?_) | refine dr 1004 (k := ?_) | refine dr 1005 (k := ?_) | refine dr 1006 (k := ?_) | refine dr 1007 (k := ?_) | refine dr 1008 (k := ?_) | refine dr 1009 (k := ?_) | refine dr 1010 (k := ?_) | refine dr 1011 (k := ?_) | refine dr 1012 (k := ?_) | refine dr 1013 (k := ?_) | refine dr 1014 (k := ?_) | refine dr 1015 (k := ?_) | refine dr 1016 (k := ?_) | fail))); (all_goals (try (conv => whnf))); (all_goals (try (with_reducible exact trivial))); (repeat' ((first | (refine callee_fo (bandOf58 b hb (s.cch.getD ((i : Int).toNat) (0, 0)).1 (by omega) (by omega)) rfl ?_; rintro _ rfl) | (refine pcall_intro (bandOf58 b hb (s.cch.getD ((i : Int).toNat) (0, 0)).1 (by omega) (by omega)) rfl ?_) | (refine pcall_soft (fun _ => bandOf58 b hb (s.cch.getD ((i : Int).toNat) (0, 0)).1 (by omega) (by omega)) rfl ?_)); (repeat' ((conv => whnf); (first | ((with_reducible refine spl (fun hc => ?_) (fun hc => ?_)) <;> (try (exfalso; omega))) | ((with_reducible refine spl' (fun hc => ?_) (fun hc => ?_)) <;> (try (exfalso; omega))) | (with_reducible refine imp_intro (fun hc => ?_)) | refine vcq (k := ?_) | refine dr 1 (k := ?_) | refine dr 2 (k := ?_) | refine dr 3 (k := ?_) | refine dr 4 (k := ?_) | refine dr 5 (k := ?_) | refine dr 6 (k := ?_) | refine dr 7 (k := ?_) | refine dr 8 (k := ?_) | refine dr 9 (k := ?_) | refine dr 10 (k := ?_) | refine dr 11 (k := ?_) | refine dr 12 (k := ?_) | refine dr 1001 (k := ?_) | refine dr 1002 (k := ?_) | refine dr 1003 (k := ?_) | refine dr 1004 (k := ?_) | refine dr 1005 (k := ?_) | refine dr 1006 (k := ?_) | refine dr 1007 (k := ?_) | refine dr 1008 (k := ?_) | refine dr 1009 (k := ?_) | refine dr 1010 (k := ?_) | refine dr 1011 (k := ?_) | refine dr 1012 (k := ?_) | refine dr 1013 (k := ?_) | refine dr 1014 (k := ?_) | refine dr 1015 (k := ?_) | refine dr 1016 (k := ?_) | fail))); (all_goals (try (conv => whnf))); (all_goals (try (with_reducible exact trivial))))); (all_goals (try (refine ⟨_, rfl, ?_⟩; (repeat' ((conv => whnf); (first | ((with_reducible refine spl (fun hc => ?_) (fun hc => ?_)) <;> (try (exfalso; omega))) | ((with_reducible refine spl' (fun hc => ?_) (fun hc => ?_)) <;> (try (exfalso; omega))) | (with_reducible refine imp_intro (fun hc => ?_)) | refine vcq (k := ?_) | refine dr 1 (k := ?_) | refine dr 2 (k := ?_) | refine dr 3 (k := ?_) | refine dr 4 (k := ?_) | refine dr 5 (k := ?_) | refine dr 6 (k := ?_) | refine dr 7 (k := ?_) | refine dr 8 (k := ?_) | refine dr 9 (k := ?_) | refine dr 10 (k := ?_) | refine dr 11 (k := ?_) | refine dr 12 (k := ?_) | refine dr 1001 (k := ?_) | refine dr 1002 (k := ?_) | refine dr 1003 (k := ?_) | refine dr 1004 (k := ?_) | refine dr 1005 (k := ?_) | refine dr 1006 (k := ?_) | refine dr 1007 (k := ?_) | refine dr 1008 (k := ?_) | refine dr 1009 (k := ?_) | refine dr 1010 (k := ?_) | refine dr 1011 (k := ?_) | refine dr 1012 (k := ?_) | refine dr 1013 (k := ?_) | refine dr 1014 (k := ?_) | refine dr 1015 (k := ?_) | refine dr 1016 (k := ?_) | fail))); (all_goals (try (conv => whnf))); (all_goals (try (with_reducible exact trivial))))))
      · have hc : b.bd (s.cch.getD i (0, 0)).1 = band := by rw [hgd]; exact hc
        refine ⟨i + 1, ⟨by omega, by dsimp only; omega⟩, some [some 0, some 1, some 2, some 3, some 4, some 5, some 6, some 7], ?_⟩
        dsimp only
        rw [filter_take_neg (d := (0, 0)) hlt (by show (!(b.bd (s.cch.getD i (0, 0)).1 == (band : Int))) = false; rw [hc]; simp)]
        (repeat' ((conv => whnf); (first | ((with_reducible refine spl (fun hc => ?_) (fun hc => ?_)) <;> (try (exfalso; omega))) | ((with_reducible refine spl' (fun hc => ?_) (fun hc => ?_)) <;> (try (exfalso; omega))) | (with_reducible refine imp_intro (fun hc => ?_)) | refine vcq (k := ?_) | refine dr 1 (k := ?_) | refine dr 2 (k := ?_) | refine dr 3 (k := ?_) | refine dr 4 (k := ?_) | refine dr 5 (k := ?_) | refine dr 6 (k := ?_) | refine dr 7 (k := ?_) | refine dr 8 (k := ?_) | refine dr 9 (k := ?_) | refine dr 10 (k := ?_) | refine dr 11 (k := ?_) | refine dr 12 (k := ?_) | refine dr 1001 (k := ?_) | refine dr 1002 (k := ?_) | refine dr 1003 (k := ?_) | refine dr 1004 (k := ?_) | refine dr 1005 (k := ?_) | refine dr 1006 (k := ?_) | refine dr 1007 (k := ?_) | refine dr 1008 (k := ?_) | refine dr 1009 (k := ?_) | refine dr 1010 (k := ?_) | refine dr 1011 (k := ?_) | refine dr 1012 (k := ?_) | refine dr 1013 (k := ?_) | refine dr 1014 (k := ?_) | refine dr 1015 (k := ?_) | refine dr 1016 (k := ?_) | fail))); (all_goals (try (conv => whnf))); (all_goals (try (with_reducible exact trivial)))
        refine ⟨fun j _ => ?_, ?_⟩
        · have hlk := look_getD hs.asc hlt
          dsimp only
          rw [part_med, part_med]
          have hm := mem_ksOf_succ hlt (n := (j : Int))
          rw [← hgd] at hw ⊢
          generalize s.cch.getD i (0, 0) = x at *
          by_cases hj : j = x.1.toNat
          · have hjx : (j : Int) = x.1 := by omega
            have hin := mem_ksOf_succ_aux hjx hm
            rw [hjx] at hin ⊢
            have e : (if x.1 ∈ ksOf (s.cch.take (i + 1)) ∧ b.bd x.1 = (band : Int) then look s.cch x.1 else s.med j) = x.2 := by rw [if_pos ⟨hin, hc⟩, hlk]
            rw [spliceP_pos hj, e]
            rfl
          · have hjx : ¬ (j : Int) = x.1 := by omega
            have hiff : (j : Int) ∈ ksOf (s.cch.take (i + 1)) ↔ (j : Int) ∈ ksOf (s.cch.take i) := hm.trans ⟨fun h => h.resolve_left hjx, .inr⟩
            rw [spliceP_neg hj]
            simp only [hiff]
        · (repeat' ((conv => whnf); (first | ((with_reducible refine spl (fun hc => ?_) (fun hc => ?_)) <;> (try (exfalso; omega))) | ((with_reducible refine spl' (fun hc => ?_) (fun hc => ?_)) <;> (try (exfalso; omega))) | (with_reducible refine imp_intro (fun hc => ?_)) | refine vcq (k := ?_) | refine dr 1 (k := ?_) | refine dr 2 (k := ?_) | refine dr 3 (k := ?_) | refine dr 4 (k := ?_) | refine dr 5 (k := ?_) | refine dr 6 (k := ?_) | refine dr 7 (k := ?_) | refine dr 8 (k := ?_) | refine dr 9 (k := ?_) | refine dr 10 (k := ?_) | refine dr 11 (k := ?_) | refine dr 12 (k := ?_) | refine dr 1001 (k := ?_) | refine dr 1002 (k := ?_) | refine dr 1003 (k := ?_) | refine dr 1004 (k := ?_) | refine dr 1005 (k := ?_) | refine dr 1006 (k := ?_) | refine dr 1007 (k := ?_) | refine dr 1008 (k := ?_) | refine dr 1009 (k := ?_) | refine dr 1010 (k := ?_) | refine dr 1011 (k := ?_) | refine dr 1012 (k := ?_) | refine dr 1013 (k := ?_) | refine dr 1014 (k := ?_) | refine dr 1015 (k := ?_) | refine dr 1016 (k := ?_) | fail))); (all_goals (try (conv => whnf))); (all_goals (try (with_reducible exact trivial)))
      · have hc : ¬ b.bd (s.cch.getD i (0, 0)).1 = band := by rw [hgd]; exact hc
        refine ⟨i + 1, ⟨by omega, by dsimp only; omega⟩, some [some 0, some 1, some 2, some 3, some 4, some 5, some 6, some 10], ?_⟩
        dsimp only
        rw [filter_take_pos (d := (0, 0)) hlt (by show (!(b.bd (s.cch.getD i (0, 0)).1 == (band : Int))) = true; simpa using hc)]
        rw [List.length_append]
        (repeat' ((conv => whnf); (first | ((with_reducible refine spl (fun hc => ?_) (fun hc => ?_)) <;> (try (exfalso; omega))) | ((with_reducible refine spl' (fun hc => ?_) (fun hc => ?_)) <;> (try (exfalso; omega))) | (with_reducible refine imp_intro (fun hc => ?_)) | refine vcq (k := ?_) | refine dr 1 (k := ?_) | refine dr 2 (k := ?_) | refine dr 3 (k := ?_) | refine dr 4 (k := ?_) | refine dr 5 (k := ?_) | refine dr 6 (k := ?_) | refine dr 7 (k := ?_) | refine dr 8 (k := ?_) | refine dr 9 (k := ?_) | refine dr 10 (k := ?_) | refine dr 11 (k := ?_) | refine dr 12 (k := ?_) | refine dr 1001 (k := ?_) | refine dr 1002 (k := ?_) | refine dr 1003 (k := ?_) | refine dr 1004 (k := ?_) | refine dr 1005 (k := ?_) | refine dr 1006 (k := ?_) | refine dr 1007 (k := ?_) | refine dr 1008 (k := ?_) | refine dr 1009 (k := ?_) | refine dr 1010 (k := ?_) | refine dr 1011 (k := ?_) | refine dr 1012 (k := ?_) | refine dr 1013 (k := ?_) | refine dr 1014 (k := ?_) | refine dr 1015 (k := ?_) | refine dr 1016 (k := ?_) | fail))); (all_goals (try (conv => whnf))); (all_goals (try (with_reducible exact trivial)))
        refine ⟨fun j _ => ?_, ?_⟩
        · dsimp only
          rw [part_med, part_med]
          have hm := mem_ksOf_succ hlt (n := (j : Int))
          rw [← hgd] at hw
          generalize s.cch.getD i (0, 0) = x at *
          have hiff : ((j : Int) ∈ ksOf (s.cch.take (i + 1)) ∧ b.bd j = (band : Int)) ↔ ((j : Int) ∈ ksOf (s.cch.take i) ∧ b.bd j = (band : Int)) := by
            rw [hm]
            constructor
            · rintro ⟨h | h, h2⟩
              · rw [h] at h2; exact absurd h2 hc
              · exact ⟨h, h2⟩
            · rintro ⟨h, h2⟩
              exact ⟨.inr h, h2⟩
          simp only [hiff]
        · (repeat' ((conv => whnf); (first | ((with_reducible refine spl (fun hc => ?_) (fun hc => ?_)) <;> (try (exfalso; omega))) | ((with_reducible refine spl' (fun hc => ?_) (fun hc => ?_)) <;> (try (exfalso; omega))) | (with_reducible refine imp_intro (fun hc => ?_)) | refine vcq (k := ?_) | refine dr 1 (k := ?_) | refine dr 2 (k := ?_) | refine dr 3 (k := ?_) | refine dr 4 (k := ?_) | refine dr 5 (k := ?_) | refine dr 6 (k := ?_) | refine dr 7 (k := ?_) | refine dr 8 (k := ?_) | refine dr 9 (k := ?_) | refine dr 10 (k := ?_) | refine dr 11 (k := ?_) | refine dr 12 (k := ?_) | refine dr 1001 (k := ?_) | refine dr 1002 (k := ?_) | refine dr 1003 (k := ?_) | refine dr 1004 (k := ?_) | refine dr 1005 (k := ?_) | refine dr 1006 (k := ?_) | refine dr 1007 (k := ?_) | refine dr 1008 (k := ?_) | refine dr 1009 (k := ?_) | refine dr 1010 (k := ?_) | refine dr 1011 (k := ?_) | refine dr 1012 (k := ?_) | refine dr 1013 (k := ?_) | refine dr 1014 (k := ?_) | refine dr 1015 (k := ?_) | refine dr 1016 (k := ?_) | fail))); (all_goals (try (conv => whnf))); (all_goals (try (with_reducible exact trivial)))
          refine ⟨fun k hk => ?_, ?_⟩
          · rw [hgd]
            exact rowOf_snoc (c := wC) (a := s.cch.getD (i : Int).toNat (0, 0)) rfl (fun _ _ => rfl) k hk
          · (repeat' ((conv => whnf); (first | ((with_reducible refine spl (fun hc => ?_) (fun hc => ?_)) <;> (try (exfalso; omega))) | ((with_reducible refine spl' (fun hc => ?_) (fun hc => ?_)) <;> (try (exfalso; omega))) | (with_reducible refine imp_intro (fun hc => ?_)) | refine vcq (k := ?_) | refine dr 1 (k := ?_) | refine dr 2 (k := ?_) | refine dr 3 (k := ?_) | refine dr 4 (k := ?_) | refine dr 5 (k := ?_) | refine dr 6 (k := ?_) | refine dr 7 (k := ?_) | refine dr 8 (k := ?_) | refine dr 9 (k := ?_) | refine dr 10 (k := ?_) | refine dr 11 (k := ?_) | refine dr 12 (k := ?_) | refine dr 1001 (k := ?_) | refine dr 1002 (k := ?_) | refine dr 1003 (k := ?_) | refine dr 1004 (k := ?_) | refine dr 1005 (k := ?_) | refine dr 1006 (k := ?_) | refine dr 1007 (k := ?_) | refine dr 1008 (k := ?_) | refine dr 1009 (k := ?_) | refine dr 1010 (k := ?_) | refine dr 1011 (k := ?_) | refine dr 1012 (k := ?_) | refine dr 1013 (k := ?_) | refine dr 1014 (k := ?_) | refine dr 1015 (k := ?_) | refine dr 1016 (k := ?_) | fail))); (all_goals (try (conv => whnf))); (all_goals (try (with_reducible exact trivial)))
    · obtain rfl : i = s.cch.length := by omega
      have e0 : ksOf (s.cch.take s.cch.length) = s.keys := by rw [List.take_length]; rfl
      have e1 : (s.clean0 b band).med = (s.part b band s.keys).med := rfl
      have e2 : (s.clean0 b band).cch = s.cch.filter (fun x => !(b.bd x.1 == (band : Int))) := rfl
      have e3 : (s.clean0 b band).cnt = if b.costOf s.keys band = b.T then upd s.cnt band 0 else s.cnt := rfl
      have hc0 := clean0_ok hb hs band
      have hsq := squeeze65 b hb b.N.toNat true (b.B.toNat - (band + 1)) (s.clean0 b band) (band + 1) hc0 ⟨by show 0 ≤ s.cost + b.costOf s.keys band; omega, by show s.cost + b.costOf s.keys band + _ ≤ _; omega⟩ ⟨by show 0 ≤ s.refreshed; omega, by show s.refreshed + _ ≤ _; omega⟩ (by omega) rfl
      have hcl : s.clean b band = (s.clean0 b band).sqz b (b.B.toNat - (band + 1)) (band + 1) := rfl
      rw [hcl]
      have hcc : (s.clean0 b band).cost = s.cost + b.costOf s.keys band := rfl
      have hcr : (s.clean0 b band).refreshed = s.refreshed := rfl
      have hcd : (s.clean0 b band).cleaned = s.cleaned + 1 := rfl
      generalize s.clean0 b band = c at *
      have hbt : (band : Int).toNat = band := Int.toNat_natCast band
      (repeat' ((conv => whnf); (first | ((with_reducible refine spl (fun hc => ?_) (fun hc => ?_)) <;> (try (exfalso; omega))) | ((with_reducible refine spl' (fun hc => ?_) (fun hc => ?_)) <;> (try (exfalso; omega))) | (with_reducible refine imp_intro (fun hc => ?_)) | refine vcq (k := ?_) | refine dr 1 (k := ?_) | refine dr 2 (k := ?_) | refine dr 3 (k := ?_) | refine dr 4 (k := ?_) | refine dr 5 (k := ?_) | refine dr 6 (k := ?_) | refine dr 7 (k := ?_) | refine dr 8 (k := ?_) | refine dr 9 (k := ?_) | refine dr 10 (k := ?_) | refine dr 11 (k := ?_) | refine dr 12 (k := ?_) | refine dr 1001 (k := ?_) | refine dr 1002 (k := ?_) | refine dr 1003 (k := ?_) | refine dr 1004 (k := ?_) | refine dr 1005 (k := ?_) | refine dr 1006 (k := ?_) | refine dr 1007 (k := ?_) | refine dr 1008 (k := ?_) | refine dr 1009 (k := ?_) | refine dr 1010 (k := ?_) | refine dr 1011 (k := ?_) | refine dr 1012 (k := ?_) | refine dr 1013 (k := ?_) | refine dr 1014 (k := ?_) | refine dr 1015 (k := ?_) | refine dr 1016 (k := ?_) | fail))); (all_goals (try (conv => whnf))); (all_goals (try (with_reducible exact trivial)))
      · refine callee_frame [3, 7, 5] hsq rfl ?_ ?_
        · (repeat' ((conv => whnf); (first | ((with_reducible refine spl (fun hc => ?_) (fun hc => ?_)) <;> (try (exfalso; omega))) | ((with_reducible refine spl' (fun hc => ?_) (fun hc => ?_)) <;> (try (exfalso; omega))) | (with_reducible refine imp_intro (fun hc => ?_)) | refine vcq (k := ?_) | refine dr 1 (k := ?_) | refine dr 2 (k := ?_) | refine dr 3 (k := ?_) | refine dr 4 (k := ?_) | refine dr 5 (k := ?_) | refine dr 6 (k := ?_) | refine dr 7 (k := ?_) | refine dr 8 (k := ?_) | refine dr 9 (k := ?_) | refine dr 10 (k := ?_) | refine dr 11 (k := ?_) | refine dr 12 (k := ?_) | refine dr 1001 (k := ?_) | refine dr 1002 (k := ?_) | refine dr 1003 (k := ?_) | refine dr 1004 (k := ?_) | refine dr 1005 (k := ?_) | refine dr 1006 (k := ?_) | refine dr 1007 (k := ?_) | refine dr 1008 (k := ?_) | refine dr 1009 (k := ?_) | refine dr 1010 (k := ?_) | refine dr 1011 (k := ?_) | refine dr 1012 (k := ?_) | refine dr 1013 (k := ?_) | refine dr 1014 (k := ?_) | refine dr 1015 (k := ?_) | refine dr 1016 (k := ?_) | fail))); (all_goals (try (conv => whnf))); (all_goals (try (with_reducible exact trivial)))
          refine ⟨by rw [List.take_length, e2], ?_⟩
          (repeat' ((conv => whnf); (first | ((with_reducible refine spl (fun hc => ?_) (fun hc => ?_)) <;> (try (exfalso; omega))) | ((with_reducible refine spl' (fun hc => ?_) (fun hc => ?_)) <;> (try (exfalso; omega))) | (with_reducible refine imp_intro (fun hc => ?_)) | refine vcq (k := ?_) | refine dr 1 (k := ?_) | refine dr 2 (k := ?_) | refine dr 3 (k := ?_) | refine dr 4 (k := ?_) | refine dr 5 (k := ?_) | refine dr 6 (k := ?_) | refine dr 7 (k := ?_) | refine dr 8 (k := ?_) | refine dr 9 (k := ?_) | refine dr 10 (k := ?_) | refine dr 11 (k := ?_) | refine dr 12 (k := ?_) | refine dr 1001 (k := ?_) | refine dr 1002 (k := ?_) | refine dr 1003 (k := ?_) | refine dr 1004 (k := ?_) | refine dr 1005 (k := ?_) | refine dr 1006 (k := ?_) | refine dr 1007 (k := ?_) | refine dr 1008 (k := ?_) | refine dr 1009 (k := ?_) | refine dr 1010 (k := ?_) | refine dr 1011 (k := ?_) | refine dr 1012 (k := ?_) | refine dr 1013 (k := ?_) | refine dr 1014 (k := ?_) | refine dr 1015 (k := ?_) | refine dr 1016 (k := ?_) | fail))); (all_goals (try (conv => whnf))); (all_goals (try (with_reducible exact trivial)))
          refine ⟨fun j _ => by dsimp only; rw [e0, e1], ?_⟩
          (repeat' ((conv => whnf); (first | ((with_reducible refine spl (fun hc => ?_) (fun hc => ?_)) <;> (try (exfalso; omega))) | ((with_reducible refine spl' (fun hc => ?_) (fun hc => ?_)) <;> (try (exfalso; omega))) | (with_reducible refine imp_intro (fun hc => ?_)) | refine vcq (k := ?_) | refine dr 1 (k := ?_) | refine dr 2 (k := ?_) | refine dr 3 (k := ?_) | refine dr 4 (k := ?_) | refine dr 5 (k := ?_) | refine dr 6 (k := ?_) | refine dr 7 (k := ?_) | refine dr 8 (k := ?_) | refine dr 9 (k := ?_) | refine dr 10 (k := ?_) | refine dr 11 (k := ?_) | refine dr 12 (k := ?_) | refine dr 1001 (k := ?_) | refine dr 1002 (k := ?_) | refine dr 1003 (k := ?_) | refine dr 1004 (k := ?_) | refine dr 1005 (k := ?_) | refine dr 1006 (k := ?_) | refine dr 1007 (k := ?_) | refine dr 1008 (k := ?_) | refine dr 1009 (k := ?_) | refine dr 1010 (k := ?_) | refine dr 1011 (k := ?_) | refine dr 1012 (k := ?_) | refine dr 1013 (k := ?_) | refine dr 1014 (k := ?_) | refine dr 1015 (k := ?_) | refine dr 1016 (k := ?_) | fail))); (all_goals (try (conv => whnf))); (all_goals (try (with_reducible exact trivial)))
          refine ⟨by rw [List.take_length, e2], ?_⟩
          (repeat' ((conv => whnf); (first | ((with_reducible refine spl (fun hc => ?_) (fun hc => ?_)) <;> (try (exfalso; omega))) | ((with_reducible refine spl' (fun hc => ?_) (fun hc => ?_)) <;> (try (exfalso; omega))) | (with_reducible refine imp_intro (fun hc => ?_)) | refine vcq (k := ?_) | refine dr 1 (k := ?_) | refine dr 2 (k := ?_) | refine dr 3 (k := ?_) | refine dr 4 (k := ?_) | refine dr 5 (k := ?_) | refine dr 6 (k := ?_) | refine dr 7 (k := ?_) | refine dr 8 (k := ?_) | refine dr 9 (k := ?_) | refine dr 10 (k := ?_) | refine dr 11 (k := ?_) | refine dr 12 (k := ?_) | refine dr 1001 (k := ?_) | refine dr 1002 (k := ?_) | refine dr 1003 (k := ?_) | refine dr 1004 (k := ?_) | refine dr 1005 (k := ?_) | refine dr 1006 (k := ?_) | refine dr 1007 (k := ?_) | refine dr 1008 (k := ?_) | refine dr 1009 (k := ?_) | refine dr 1010 (k := ?_) | refine dr 1011 (k := ?_) | refine dr 1012 (k := ?_) | refine dr 1013 (k := ?_) | refine dr 1014 (k := ?_) | refine dr 1015 (k := ?_) | refine dr 1016 (k := ?_) | fail))); (all_goals (try (conv => whnf))); (all_goals (try (with_reducible exact trivial)))
          refine ⟨fun j _ => by rw [List.take_length, e2], ?_⟩
          (repeat' ((conv => whnf); (first | ((with_reducible refine spl (fun hc => ?_) (fun hc => ?_)) <;> (try (exfalso; omega))) | ((with_reducible refine spl' (fun hc => ?_) (fun hc => ?_)) <;> (try (exfalso; omega))) | (with_reducible refine imp_intro (fun hc => ?_)) | refine vcq (k := ?_) | refine dr 1 (k := ?_) | refine dr 2 (k := ?_) | refine dr 3 (k := ?_) | refine dr 4 (k := ?_) | refine dr 5 (k := ?_) | refine dr 6 (k := ?_) | refine dr 7 (k := ?_) | refine dr 8 (k := ?_) | refine dr 9 (k := ?_) | refine dr 10 (k := ?_) | refine dr 11 (k := ?_) | refine dr 12 (k := ?_) | refine dr 1001 (k := ?_) | refine dr 1002 (k := ?_) | refine dr 1003 (k := ?_) | refine dr 1004 (k := ?_) | refine dr 1005 (k := ?_) | refine dr 1006 (k := ?_) | refine dr 1007 (k := ?_) | refine dr 1008 (k := ?_) | refine dr 1009 (k := ?_) | refine dr 1010 (k := ?_) | refine dr 1011 (k := ?_) | refine dr 1012 (k := ?_) | refine dr 1013 (k := ?_) | refine dr 1014 (k := ?_) | refine dr 1015 (k := ?_) | refine dr 1016 (k := ?_) | fail))); (all_goals (try (conv => whnf))); (all_goals (try (with_reducible exact trivial)))
          refine ⟨fun j _ => ?_, ?_⟩
          · dsimp only
            rw [hbt, e3, if_pos hc]
            unfold upd
            by_cases hj : j = band
            · rw [spliceP_pos hj, if_pos hj]; rfl
            · rw [spliceP_neg hj, if_neg hj]
          · (repeat' ((conv => whnf); (first | ((with_reducible refine spl (fun hc => ?_) (fun hc => ?_)) <;> (try (exfalso; omega))) | ((with_reducible refine spl' (fun hc => ?_) (fun hc => ?_)) <;> (try (exfalso; omega))) | (with_reducible refine imp_intro (fun hc => ?_)) | refine vcq (k := ?_) | refine dr 1 (k := ?_) | refine dr 2 (k := ?_) | refine dr 3 (k := ?_) | refine dr 4 (k := ?_) | refine dr 5 (k := ?_) | refine dr 6 (k := ?_) | refine dr 7 (k := ?_) | refine dr 8 (k := ?_) | refine dr 9 (k := ?_) | refine dr 10 (k := ?_) | refine dr 11 (k := ?_) | refine dr 12 (k := ?_) | refine dr 1001 (k := ?_) | refine dr 1002 (k := ?_) | refine dr 1003 (k := ?_) | refine dr 1004 (k := ?_) | refine dr 1005 (k := ?_) | refine dr 1006 (k := ?_) | refine dr 1007 (k := ?_) | refine dr 1008 (k := ?_) | refine dr 1009 (k := ?_) | refine dr 1010 (k := ?_) | refine dr 1011 (k := ?_) | refine dr 1012 (k := ?_) | refine dr 1013 (k := ?_) | refine dr 1014 (k := ?_) | refine dr 1015 (k := ?_) | refine dr 1016 (k := ?_) | fail))); (all_goals (try (conv => whnf))); (all_goals (try (with_reducible exact trivial)))
        · rintro _ _ ⟨rfl, rfl⟩
          (repeat' ((conv => whnf); (first | ((with_reducible refine spl (fun hc => ?_) (fun hc => ?_)) <;> (try (exfalso; omega))) | ((with_reducible refine spl' (fun hc => ?_) (fun hc => ?_)) <;> (try (exfalso; omega))) | (with_reducible refine imp_intro (fun hc => ?_)) | refine vcq (k := ?_) | refine dr 1 (k := ?_) | refine dr 2 (k := ?_) | refine dr 3 (k := ?_) | refine dr 4 (k := ?_) | refine dr 5 (k := ?_) | refine dr 6 (k := ?_) | refine dr 7 (k := ?_) | refine dr 8 (k := ?_) | refine dr 9 (k := ?_) | refine dr 10 (k := ?_) | refine dr 11 (k := ?_) | refine dr 12 (k := ?_) | refine dr 1001 (k := ?_) | refine dr 1002 (k := ?_) | refine dr 1003 (k := ?_) | refine dr 1004 (k := ?_) | refine dr 1005 (k := ?_) | refine dr 1006 (k := ?_) | refine dr 1007 (k := ?_) | refine dr 1008 (k := ?_) | refine dr 1009 (k := ?_) | refine dr 1010 (k := ?_) | refine dr 1011 (k := ?_) | refine dr 1012 (k := ?_) | refine dr 1013 (k := ?_) | refine dr 1014 (k := ?_) | refine dr 1015 (k := ?_) | refine dr 1016 (k := ?_) | fail))); (all_goals (try (conv => whnf))); (all_goals (try (with_reducible exact trivial)))
          refine ⟨_, rfl, ?_⟩
          (repeat' ((conv => whnf); (first | ((with_reducible refine spl (fun hc => ?_) (fun hc => ?_)) <;> (try (exfalso; omega))) | ((with_reducible refine spl' (fun hc => ?_) (fun hc => ?_)) <;> (try (exfalso; omega))) | (with_reducible refine imp_intro (fun hc => ?_)) | refine vcq (k := ?_) | refine dr 1 (k := ?_) | refine dr 2 (k := ?_) | refine dr 3 (k := ?_) | refine dr 4 (k := ?_) | refine dr 5 (k := ?_) | refine dr 6 (k := ?_) | refine dr 7 (k := ?_) | refine dr 8 (k := ?_) | refine dr 9 (k := ?_) | refine dr 10 (k := ?_) | refine dr 11 (k := ?_) | refine dr 12 (k := ?_) | refine dr 1001 (k := ?_) | refine dr 1002 (k := ?_) | refine dr 1003 (k := ?_) | refine dr 1004 (k := ?_) | refine dr 1005 (k := ?_) | refine dr 1006 (k := ?_) | refine dr 1007 (k := ?_) | refine dr 1008 (k := ?_) | refine dr 1009 (k := ?_) | refine dr 1010 (k := ?_) | refine dr 1011 (k := ?_) | refine dr 1012 (k := ?_) | refine dr 1013 (k := ?_) | refine dr 1014 (k := ?_) | refine dr 1015 (k := ?_) | refine dr 1016 (k := ?_) | fail))); (all_goals (try (conv => whnf))); (all_goals (try (with_reducible exact trivial)))
      · refine callee_frame [3, 7, 5] hsq rfl ?_ ?_
        · (repeat' ((conv => whnf); (first | ((with_reducible refine spl (fun hc => ?_) (fun hc => ?_)) <;> (try (exfalso; omega))) | ((with_reducible refine spl' (fun hc => ?_) (fun hc => ?_)) <;> (try (exfalso; omega))) | (with_reducible refine imp_intro (fun hc => ?_)) | refine vcq (k := ?_) | refine dr 1 (k := ?_) | refine dr 2 (k := ?_) | refine dr 3 (k := ?_) | refine dr 4 (k := ?_) | refine dr 5 (k := ?_) | refine dr 6 (k := ?_) | refine dr 7 (k := ?_) | refine dr 8 (k := ?_) | refine dr 9 (k := ?_) | refine dr 10 (k := ?_) | refine dr 11 (k := ?_) | refine dr 12 (k := ?_) | refine dr 1001 (k := ?_) | refine dr 1002 (k := ?_) | refine dr 1003 (k := ?_) | refine dr 1004 (k := ?_) | refine dr 1005 (k := ?_) | refine dr 1006 (k := ?_) | refine dr 1007 (k := ?_) | refine dr 1008 (k := ?_) | refine dr 1009 (k := ?_) | refine dr 1010 (k := ?_) | refine dr 1011 (k := ?_) | refine dr 1012 (k := ?_) | refine dr 1013 (k := ?_) | refine dr 1014 (k := ?_) | refine dr 1015 (k := ?_) | refine dr 1016 (k := ?_) | fail))); (all_goals (try (conv => whnf))); (all_goals (try (with_reducible exact trivial)))
          refine ⟨by rw [List.take_length, e2], ?_⟩
          (repeat' ((conv => whnf); (first | ((with_reducible refine spl (fun hc => ?_) (fun hc => ?_)) <;> (try (exfalso; omega))) | ((with_reducible refine spl' (fun hc => ?_) (fun hc => ?_)) <;> (try (exfalso; omega))) | (with_reducible refine imp_intro (fun hc => ?_)) | refine vcq (k := ?_) | refine dr 1 (k := ?_) | refine dr 2 (k := ?_) | refine dr 3 (k := ?_) | refine dr 4 (k := ?_) | refine dr 5 (k := ?_) | refine dr 6 (k := ?_) | refine dr 7 (k := ?_) | refine dr 8 (k := ?_) | refine dr 9 (k := ?_) | refine dr 10 (k := ?_) | refine dr 11 (k := ?_) | refine dr 12 (k := ?_) | refine dr 1001 (k := ?_) | refine dr 1002 (k := ?_) | refine dr 1003 (k := ?_) | refine dr 1004 (k := ?_) | refine dr 1005 (k := ?_) | refine dr 1006 (k := ?_) | refine dr 1007 (k := ?_) | refine dr 1008 (k := ?_) | refine dr 1009 (k := ?_) | refine dr 1010 (k := ?_) | refine dr 1011 (k := ?_) | refine dr 1012 (k := ?_) | refine dr 1013 (k := ?_) | refine dr 1014 (k := ?_) | refine dr 1015 (k := ?_) | refine dr 1016 (k := ?_) | fail))); (all_goals (try (conv => whnf))); (all_goals (try (with_reducible exact trivial)))
          refine ⟨fun j _ => by dsimp only; rw [e0, e1], ?_⟩
          (repeat' ((conv => whnf); (first | ((with_reducible refine spl (fun hc => ?_) (fun hc => ?_)) <;> (try (exfalso; omega))) | ((with_reducible refine spl' (fun hc => ?_) (fun hc => ?_)) <;> (try (exfalso; omega))) | (with_reducible refine imp_intro (fun hc => ?_)) | refine vcq (k := ?_) | refine dr 1 (k := ?_) | refine dr 2 (k := ?_) | refine dr 3 (k := ?_) | refine dr 4 (k := ?_) | refine dr 5 (k := ?_) | refine dr 6 (k := ?_) | refine dr 7 (k := ?_) | refine dr 8 (k := ?_) | refine dr 9 (k := ?_) | refine dr 10 (k := ?_) | refine dr 11 (k := ?_) | refine dr 12 (k := ?_) | refine dr 1001 (k := ?_) | refine dr 1002 (k := ?_) | refine dr 1003 (k := ?_) | refine dr 1004 (k := ?_) | refine dr 1005 (k := ?_) | refine dr 1006 (k := ?_) | refine dr 1007 (k := ?_) | refine dr 1008 (k := ?_) | refine dr 1009 (k := ?_) | refine dr 1010 (k := ?_) | refine dr 1011 (k := ?_) | refine dr 1012 (k := ?_) | refine dr 1013 (k := ?_) | refine dr 1014 (k := ?_) | refine dr 1015 (k := ?_) | refine dr 1016 (k := ?_) | fail))); (all_goals (try (conv => whnf))); (all_goals (try (with_reducible exact trivial)))
          refine ⟨by rw [List.take_length, e2], ?_⟩
          (repeat' ((conv => whnf); (first | ((with_reducible refine spl (fun hc => ?_) (fun hc => ?_)) <;> (try (exfalso; omega))) | ((with_reducible refine spl' (fun hc => ?_) (fun hc => ?_)) <;> (try (exfalso; omega))) | (with_reducible refine imp_intro (fun hc => ?_)) | refine vcq (k := ?_) | refine dr 1 (k := ?_) | refine dr 2 (k := ?_) | refine dr 3 (k := ?_) | refine dr 4 (k := ?_) | refine dr 5 (k := ?_) | refine dr 6 (k := ?_) | refine dr 7 (k := ?_) | refine dr 8 (k := ?_) | refine dr 9 (k := ?_) | refine dr 10 (k := ?_) | refine dr 11 (k := ?_) | refine dr 12 (k := ?_) | refine dr 1001 (k := ?_) | refine dr 1002 (k := ?_) | refine dr 1003 (k := ?_) | refine dr 1004 (k := ?_) | refine dr 1005 (k := ?_) | refine dr 1006 (k := ?_) | refine dr 1007 (k := ?_) | refine dr 1008 (k := ?_) | refine dr 1009 (k := ?_) | refine dr 1010 (k := ?_) | refine dr 1011 (k := ?_) | refine dr 1012 (k := ?_) | refine dr 1013 (k := ?_) | refine dr 1014 (k := ?_) | refine dr 1015 (k := ?_) | refine dr 1016 (k := ?_) | fail))); (all_goals (try (conv => whnf))); (all_goals (try (with_reducible exact trivial)))
          refine ⟨fun j _ => by rw [List.take_length, e2], ?_⟩
          (repeat' ((conv => whnf); (first | ((with_reducible refine spl (fun hc => ?_) (fun hc => ?_)) <;> (try (exfalso; omega))) | ((with_reducible refine spl' (fun hc => ?_) (fun hc => ?_)) <;> (try (exfalso; omega))) | (with_reducible refine imp_intro (fun hc => ?_)) | refine vcq (k := ?_) | refine dr 1 (k := ?_) | refine dr 2 (k := ?_) | refine dr 3 (k := ?_) | refine dr 4 (k := ?_) | refine dr 5 (k := ?_) | refine dr 6 (k := ?_) | refine dr 7 (k := ?_) | refine dr 8 (k := ?_) | refine dr 9 (k := ?_) | refine dr 10 (k := ?_) | refine dr 11 (k := ?_) | refine dr 12 (k := ?_) | refine dr 1001 (k := ?_) | refine dr 1002 (k := ?_) | refine dr 1003 (k := ?_) | refine dr 1004 (k := ?_) | refine dr 1005 (k := ?_) | refine dr 1006 (k := ?_) | refine dr 1007 (k := ?_) | refine dr 1008 (k := ?_) | refine dr 1009 (k := ?_) | refine dr 1010 (k := ?_) | refine dr 1011 (k := ?_) | refine dr 1012 (k := ?_) | refine dr 1013 (k := ?_) | refine dr 1014 (k := ?_) | refine dr 1015 (k := ?_) | refine dr 1016 (k := ?_) | fail))); (all_goals (try (conv => whnf))); (all_goals (try (with_reducible exact trivial)))
          refine ⟨fun j _ => by dsimp only; rw [e3, if_neg hc], ?_⟩
          (repeat' ((conv => whnf); (first | ((with_reducible refine spl (fun hc => ?_) (fun hc => ?_)) <;> (try (exfalso; omega))) | ((with_reducible refine spl' (fun hc => ?_) (fun hc => ?_)) <;> (try (exfalso; omega))) | (with_reducible refine imp_intro (fun hc => ?_)) | refine vcq (k := ?_) | refine dr 1 (k := ?_) | refine dr 2 (k := ?_) | refine dr 3 (k := ?_) | refine dr 4 (k := ?_) | refine dr 5 (k := ?_) | refine dr 6 (k := ?_) | refine dr 7 (k := ?_) | refine dr 8 (k := ?_) | refine dr 9 (k := ?_) | refine dr 10 (k := ?_) | refine dr 11 (k := ?_) | refine dr 12 (k := ?_) | refine dr 1001 (k := ?_) | refine dr 1002 (k := ?_) | refine dr 1003 (k := ?_) | refine dr 1004 (k := ?_) | refine dr 1005 (k := ?_) | refine dr 1006 (k := ?_) | refine dr 1007 (k := ?_) | refine dr 1008 (k := ?_) | refine dr 1009 (k := ?_) | refine dr 1010 (k := ?_) | refine dr 1011 (k := ?_) | refine dr 1012 (k := ?_) | refine dr 1013 (k := ?_) | refine dr 1014 (k := ?_) | refine dr 1015 (k := ?_) | refine dr 1016 (k := ?_) | fail))); (all_goals (try (conv => whnf))); (all_goals (try (with_reducible exact trivial)))
        · rintro _ _ ⟨rfl, rfl⟩
          (repeat' ((conv => whnf); (first | ((with_reducible refine spl (fun hc => ?_) (fun hc => ?_)) <;> (try (exfalso; omega))) | ((with_reducible refine spl' (fun hc => ?_) (fun hc => ?_)) <;> (try (exfalso; omega))) | (with_reducible refine imp_intro (fun hc => ?_)) | refine vcq (k := ?_) | refine dr 1 (k := ?_) | refine dr 2 (k := ?_) | refine dr 3 (k := ?_) | refine dr 4 (k := ?_) | refine dr 5 (k := ?_) | refine dr 6 (k := ?_) | refine dr 7 (k := ?_) | refine dr 8 (k := ?_) | refine dr 9 (k := ?_) | refine dr 10 (k := ?_) | refine dr 11 (k := ?_) | refine dr 12 (k := ?_) | refine dr 1001 (k := ?_) | refine dr 1002 (k := ?_) | refine dr 1003 (k := ?_) | refine dr 1004 (k := ?_) | refine dr 1005 (k := ?_) | refine dr 1006 (k := ?_) | refine dr 1007 (k := ?_) | refine dr 1008 (k := ?_) | refine dr 1009 (k := ?_) | refine dr 1010 (k := ?_) | refine dr 1011 (k := ?_) | refine dr 1012 (k := ?_) | refine dr 1013 (k := ?_) | refine dr 1014 (k := ?_) | refine dr 1015 (k := ?_) | refine dr 1016 (k := ?_) | fail))); (all_goals (try (conv => whnf))); (all_goals (try (with_reducible exact trivial)))
          refine ⟨_, rfl, ?_⟩
          (repeat' ((conv => whnf); (first | ((with_reducible refine spl (fun hc => ?_) (fun hc => ?_)) <;> (try (exfalso; omega))) | ((with_reducible refine spl' (fun hc => ?_) (fun hc => ?_)) <;> (try (exfalso; omega))) | (with_reducible refine imp_intro (fun hc => ?_)) | refine vcq (k := ?_) | refine dr 1 (k := ?_) | refine dr 2 (k := ?_) | refine dr 3 (k := ?_) | refine dr 4 (k := ?_) | refine dr 5 (k := ?_) | refine dr 6 (k := ?_) | refine dr 7 (k := ?_) | refine dr 8 (k := ?_) | refine dr 9 (k := ?_) | refine dr 10 (k := ?_) | refine dr 11 (k := ?_) | refine dr 12 (k := ?_) | refine dr 1001 (k := ?_) | refine dr 1002 (k := ?_) | refine dr 1003 (k := ?_) | refine dr 1004 (k := ?_) | refine dr 1005 (k := ?_) | refine dr 1006 (k := ?_) | refine dr 1007 (k := ?_) | refine dr 1008 (k := ?_) | refine dr 1009 (k := ?_) | refine dr 1010 (k := ?_) | refine dr 1011 (k := ?_) | refine dr 1012 (k := ?_) | refine dr 1013 (k := ?_) | refine dr 1014 (k := ?_) | refine dr 1015 (k := ?_) | refine dr 1016 (k := ?_) | fail))); (all_goals (try (conv => whnf))); (all_goals (try (with_reducible exact trivial)))
end Go.Proofs
