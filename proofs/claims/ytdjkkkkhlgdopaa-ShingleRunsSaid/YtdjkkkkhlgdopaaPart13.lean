/- Own work: texts of the proof of a law (Sh20, Sh21, Sh22, Sh23, Sh24). No condition. -/
import Derived.Test.YtdjkkkkhlgdopaaPart12
namespace Go.Proofs
open Go Go.Sx
set_option maxRecDepth 100000
set_option maxHeartbeats 4000000
-- SxAid2

theorem range_foldl_succ {α : Type} {f : α → Nat → α} {a : α} {n : Nat} : (List.range (n + 1)).foldl f a = f ((List.range n).foldl f a) n := by
  rw [List.range_succ, List.foldl_append]
  rfl

theorem pick_range {b : Bands} {ks : List Int} : ∀ n : Nat, -1 ≤ (List.range n).foldl (b.pickBand ks) (-1) ∧ (List.range n).foldl (b.pickBand ks) (-1) < n
  | 0 => by simp
  | n + 1 => by
    have ih := pick_range (b := b) (ks := ks) n
    rw [range_foldl_succ]
    generalize (List.range n).foldl (b.pickBand ks) (-1) = best at *
    unfold Bands.pickBand
    split
    · omega
    · split
      · omega
      · split <;> omega

theorem choose64 (b : Bands) (hb : b.Ok) (s : St) (hs : s.Ok b) : PureC Try.prog 64 false [b.v, stV b.N.toNat b.B.toNat s] (· = .int .i64 (b.choose s.keys)) := by
  have hB := hb.B
  have hT := hb.T
  have hC := hb.C
  have hln := hs.len
  have hks : ksOf s.cch = s.keys := rfl
  have hkl : s.keys.length = s.cch.length := by simp [St.keys]
  refine pureC_of_exec Try.E_ok Try.func64 rfl (by kernel_rfl) ?_
  (repeat' ((conv => whnf); (first | ((with_reducible refine spl (fun hc => ?_) (fun hc => ?_)) <;> (try (exfalso; omega))) | ((with_reducible refine spl' (fun hc => ?_) (fun hc => ?_)) <;> (try (exfalso; omega))) | (with_reducible refine imp_intro (fun hc => ?_)) | refine vcq (k := ?_) | refine dr 1 (k := ?_) | refine dr 2 (k := ?_) | refine dr 3 (k := ?_) | refine dr 4 (k := ?_) | refine dr 5 (k := ?_) | refine dr 6 (k := ?_) | refine dr 7 (k := ?_) | refine dr 8 (k := ?_) | refine dr 9 (k := ?_) | refine dr 10 (k := ?_) | refine dr 11 (k := ?_) | refine dr 12 (k := ?_) | refine dr 1001 (k := ?_) | refine dr 1002 (k := ?_) | refine dr 1003 (k := ?_) | refine dr 1004 (k := ?_) | refine dr 1005 (k := ?_) | refine dr 1006 (k := ?_) | refine dr 1007 (k := ?_) | refine dr 1008 (k := ?_) | refine dr 1009 (k := ?_) | refine dr 1010 (k := ?_) | refine dr 1011 (k := ?_) | refine dr 1012 (k := ?_) | refine dr 1013 (k := ?_) | refine dr 1014 (k := ?_) | refine dr 1015 (k := ?_) | refine dr 1016 (k := ?_) | fail))); (all_goals (try (conv => whnf))); (all_goals (try (with_reducible exact trivial)))
  refine ⟨Nat × Int, fun q => q.1 ≤ b.B.toNat ∧ q.2 = (List.range q.1).foldl (b.pickBand s.keys) (-1), fun q => b.B.toNat - q.1, fun q => [(6, .int .i64 q.1), (5, .int .i64 q.2)], fun _ => [], fun _ => [], (0, -1), ⟨⟨by simp, rfl⟩, some [some 0, some 1], ?_⟩, ?_⟩
  · (repeat' ((conv => whnf); (first | ((with_reducible refine spl (fun hc => ?_) (fun hc => ?_)) <;> (try (exfalso; omega))) | ((with_reducible refine spl' (fun hc => ?_) (fun hc => ?_)) <;> (try (exfalso; omega))) | (with_reducible refine imp_intro (fun hc => ?_)) | refine vcq (k := ?_) | refine dr 1 (k := ?_) | refine dr 2 (k := ?_) | refine dr 3 (k := ?_) | refine dr 4 (k := ?_) | refine dr 5 (k := ?_) | refine dr 6 (k := ?_) | refine dr 7 (k := ?_) | refine dr 8 (k := ?_) | refine dr 9 (k := ?_) | refine dr 10 (k := ?_) | refine dr 11 (k := ?_) | refine dr 12 (k := ?_) | refine dr 1001 (k := ?_) | refine dr 1002 (k := ?_) | refine dr 1003 (k := ?_) | refine dr 1004 (k := ?_) | refine dr 1005 (k := ?_) | refine dr 1006 (k := ?_) | refine dr 1007 (k := ?_) | refine dr 1008 (k := ?_) | refine dr 1009 (k := ?_) | refine dr 1010 (k := ?_) | refine dr 1011 (k := ?_) | refine dr 1012 (k := ?_) | refine dr 1013 (k := ?_) | refine dr 1014 (k := ?_) | refine dr 1015 (k := ?_) | refine dr 1016 (k := ?_) | fail))); (all_goals (try (conv => whnf))); (all_goals (try (with_reducible exact trivial)))
  · rintro ⟨i, best⟩ ⟨hi, hbest⟩
    dsimp only at hi hbest
    have hpr := pick_range (b := b) (ks := s.keys) i
    have hp := range_foldl_succ (f := b.pickBand s.keys) (a := (-1 : Int)) (n := i)
    rw [← hbest] at hp hpr
    have h1 := slots_nonneg (b := b) i s.keys
    have h2 := lowest_le hb i s.keys
    have h3 := slots_nonneg (b := b) best s.keys
    have h4 := lowest_le hb best s.keys
    have hc1 := costOf42 b hb s.cch (by omega) hs.blk i
    have hc2 := costOf42 b hb s.cch (by omega) hs.blk best
    rw [hks] at hc1 hc2
    have e1 : b.costOf s.keys i = b.T - b.lowest i s.keys := rfl
    have e2 : b.costOf s.keys best = b.T - b.lowest best s.keys := rfl
    have m1 : 0 ≤ b.costOf s.keys i * b.slots best s.keys ∧ b.costOf s.keys i * b.slots best s.keys ≤ 72 := ⟨Int.mul_nonneg (by omega) (by omega), Int.le_trans (Int.mul_le_mul (show b.costOf s.keys i ≤ 6 by omega) (show b.slots best s.keys ≤ 12 by omega) (by omega) (by omega)) (by omega)⟩
    have m2 : 0 ≤ b.costOf s.keys best * b.slots i s.keys ∧ b.costOf s.keys best * b.slots i s.keys ≤ 72 := ⟨Int.mul_nonneg (by omega) (by omega), Int.le_trans (Int.mul_le_mul (show b.costOf s.keys best ≤ 6 by omega) (show b.slots i s.keys ≤ 12 by omega) (by omega) (by omega)) (by omega)⟩
    by_cases hlt : i < b.B.toNat
    · (repeat' ((conv => whnf); (first | ((with_reducible refine spl (fun hc => ?_) (fun hc => ?_)) <;> (try (exfalso; omega))) | ((with_reducible refine spl' (fun hc => ?_) (fun hc => ?_)) <;> (try (exfalso; omega))) | (with_reducible refine imp_intro (fun hc => ?_)) | refine vcq (k := ?_) | refine dr 1 (k := ?_) | refine dr 2 (k := ?_) | refine dr 3 (k := ?_) | refine dr 4 (k := ?_) | refine dr 5 (k := ?_) | refine dr 6 (k := ?_) | refine dr 7 (k := ?_) | refine dr 8 (k := ?_) | refine dr 9 (k := ?_) | refine dr 10 (k := ?_) | refine dr 11 (k := ?_) | refine dr 12 (k := ?_) | refine dr 1001 (k := ?_) | refine dr 1002 (k := ?_) | refine dr 1003 (k := ?_) | refine dr 1004 (k := ?_) | refine dr 1005 (k := ?_) | refine dr 1006 (k := ?_) | refine dr 1007 (k := ?_) | refine dr 1008 (k := ?_) | refine dr 1009 (k := ?_) | refine dr 1010 (k := ?_) | refine dr 1011 (k := ?_) | refine dr 1012 (k := ?_) | refine dr 1013 (k := ?_) | refine dr 1014 (k := ?_) | refine dr 1015 (k := ?_) | refine dr 1016 (k := ?_) | fail))); (all_goals (try (conv => whnf))); (all_goals (try (with_reducible exact trivial))); (repeat' ((first | (refine callee_fo (hc1) rfl ?_; rintro _ rfl) | (refine pcall_intro (hc1) rfl ?_) | (refine pcall_soft (fun _ => hc1) rfl ?_)); (repeat' ((conv => whnf); (first | ((with_reducible refine spl (fun hc => ?_) (fun hc => ?_)) <;> (try (exfalso; omega))) | ((with_reducible refine spl' (fun hc => ?_) (fun hc => ?_)) <;> (try (exfalso; omega))) | (with_reducible refine imp_intro (fun hc => ?_)) | refine vcq (k := ?_) | refine dr 1 (k := ?_) | refine dr 2 (k := ?_) | refine dr 3 (k := ?_) | refine dr 4 (k := ?_) | refine dr 5 (k := ?_) | refine dr 6 (k := ?_) | refine dr 7 (k := ?_) | refine dr 8 (k := ?_) | refine dr 9 (k := ?_) | refine dr 10 (k := ?_) | refine dr 11 (k := ?_) | refine dr 12 (k := ?_) | refine dr 1001 (k := ?_) | refine dr 1002 (k := ?_) | refine dr 1003 (k := ?_) | refine dr 1004 (k := ?_) | refine dr 1005 (k := ?_) | refine dr 1006 (k := ?_) | refine dr 1007 (k := ?_) | refine dr 1008 (k := ?_) | refine dr 1009 (k := ?_) | refine dr 1010 (k := ?_) | refine dr 1011 (k := ?_) | refine dr 1012 (k := ?_) | refine dr 1013 (k := ?_) | refine dr 1014 (k := ?_) | refine dr 1015 (k := ?_) | refine dr 1016 (k := ?_) | fail))); (all_goals (try (conv => whnf))); (all_goals (try (with_reducible exact trivial))))); (all_goals (try (refine ⟨_, rfl, ?_⟩; (repeat' ((conv => whnf); (first | ((with_reducible refine spl (fun hc => ?_) (fun hc => ?_)) <;> (try (exfalso; omega))) | ((with_reducible refine spl' (fun hc => ?_) (fun hc => ?_)) <;> (try (exfalso; omega))) | (with_reducible refine imp_intro (fun hc => ?_)) | refine vcq (k := ?_) | refine dr 1 (k := ?_) | refine dr 2 (k := ?_) | refine dr 3 (k := ?_) | refine dr 4 (k := ?_) | refine dr 5 (k := ?_) | refine dr 6 (k := ?_) | refine dr 7 (k := ?_) | refine dr 8 (k := ?_) | refine dr 9 (k := ?_) | refine dr 10 (k := ?_) | refine dr 11 (k := ?_) | refine dr 12 (k := ?_) | refine dr 1001 (k := ?_) | refine dr 1002 (k := ?_) | refine dr 1003 (k := ?_) | refine dr 1004 (k := ?_) | refine dr 1005 (k := ?_) | refine dr 1006 (k := ?_) | refine dr 1007 (k := ?_) | refine dr 1008 (k := ?_) | refine dr 1009 (k := ?_) | refine dr 1010 (k := ?_) | refine dr 1011 (k := ?_) | refine dr 1012 (k := ?_) | refine dr 1013 (k := ?_) | refine dr 1014 (k := ?_) | refine dr 1015 (k := ?_) | refine dr 1016 (k := ?_) | fail))); (all_goals (try (conv => whnf))); (all_goals (try (with_reducible exact trivial))))))
      · refine ⟨(i + 1, best), ⟨⟨by dsimp only; omega, ?_⟩, by dsimp only; omega⟩, some [some 0, some 1], ?_⟩
        · dsimp only
          rw [hp, Bands.pickBand, if_pos hc]
        · (repeat' ((conv => whnf); (first | ((with_reducible refine spl (fun hc => ?_) (fun hc => ?_)) <;> (try (exfalso; omega))) | ((with_reducible refine spl' (fun hc => ?_) (fun hc => ?_)) <;> (try (exfalso; omega))) | (with_reducible refine imp_intro (fun hc => ?_)) | refine vcq (k := ?_) | refine dr 1 (k := ?_) | refine dr 2 (k := ?_) | refine dr 3 (k := ?_) | refine dr 4 (k := ?_) | refine dr 5 (k := ?_) | refine dr 6 (k := ?_) | refine dr 7 (k := ?_) | refine dr 8 (k := ?_) | refine dr 9 (k := ?_) | refine dr 10 (k := ?_) | refine dr 11 (k := ?_) | refine dr 12 (k := ?_) | refine dr 1001 (k := ?_) | refine dr 1002 (k := ?_) | refine dr 1003 (k := ?_) | refine dr 1004 (k := ?_) | refine dr 1005 (k := ?_) | refine dr 1006 (k := ?_) | refine dr 1007 (k := ?_) | refine dr 1008 (k := ?_) | refine dr 1009 (k := ?_) | refine dr 1010 (k := ?_) | refine dr 1011 (k := ?_) | refine dr 1012 (k := ?_) | refine dr 1013 (k := ?_) | refine dr 1014 (k := ?_) | refine dr 1015 (k := ?_) | refine dr 1016 (k := ?_) | fail))); (all_goals (try (conv => whnf))); (all_goals (try (with_reducible exact trivial)))
      · rename_i hz
        refine ⟨(i + 1, i), ⟨⟨by dsimp only; omega, ?_⟩, by dsimp only; omega⟩, some [some 0, some 1], ?_⟩
        · dsimp only
          rw [hp, Bands.pickBand, if_neg hz, if_pos hc]
        · (repeat' ((conv => whnf); (first | ((with_reducible refine spl (fun hc => ?_) (fun hc => ?_)) <;> (try (exfalso; omega))) | ((with_reducible refine spl' (fun hc => ?_) (fun hc => ?_)) <;> (try (exfalso; omega))) | (with_reducible refine imp_intro (fun hc => ?_)) | refine vcq (k := ?_) | refine dr 1 (k := ?_) | refine dr 2 (k := ?_) | refine dr 3 (k := ?_) | refine dr 4 (k := ?_) | refine dr 5 (k := ?_) | refine dr 6 (k := ?_) | refine dr 7 (k := ?_) | refine dr 8 (k := ?_) | refine dr 9 (k := ?_) | refine dr 10 (k := ?_) | refine dr 11 (k := ?_) | refine dr 12 (k := ?_) | refine dr 1001 (k := ?_) | refine dr 1002 (k := ?_) | refine dr 1003 (k := ?_) | refine dr 1004 (k := ?_) | refine dr 1005 (k := ?_) | refine dr 1006 (k := ?_) | refine dr 1007 (k := ?_) | refine dr 1008 (k := ?_) | refine dr 1009 (k := ?_) | refine dr 1010 (k := ?_) | refine dr 1011 (k := ?_) | refine dr 1012 (k := ?_) | refine dr 1013 (k := ?_) | refine dr 1014 (k := ?_) | refine dr 1015 (k := ?_) | refine dr 1016 (k := ?_) | fail))); (all_goals (try (conv => whnf))); (all_goals (try (with_reducible exact trivial)))
      · rename_i hz
        (repeat' ((conv => whnf); (first | ((with_reducible refine spl (fun hc => ?_) (fun hc => ?_)) <;> (try (exfalso; omega))) | ((with_reducible refine spl' (fun hc => ?_) (fun hc => ?_)) <;> (try (exfalso; omega))) | (with_reducible refine imp_intro (fun hc => ?_)) | refine vcq (k := ?_) | refine dr 1 (k := ?_) | refine dr 2 (k := ?_) | refine dr 3 (k := ?_) | refine dr 4 (k := ?_) | refine dr 5 (k := ?_) | refine dr 6 (k := ?_) | refine dr 7 (k := ?_) | refine dr 8 (k := ?_) | refine dr 9 (k := ?_) | refine dr 10 (k := ?_) | refine dr 11 (k := ?_) | refine dr 12 (k := ?_) | refine dr 1001 (k := ?_) | refine dr 1002 (k := ?_) | refine dr 1003 (k := ?_) | refine dr 1004 (k := ?_) | refine dr 1005 (k := ?_) | refine dr 1006 (k := ?_) | refine dr 1007 (k := ?_) | refine dr 1008 (k := ?_) | refine dr 1009 (k := ?_) | refine dr 1010 (k := ?_) | refine dr 1011 (k := ?_) | refine dr 1012 (k := ?_) | refine dr 1013 (k := ?_) | refine dr 1014 (k := ?_) | refine dr 1015 (k := ?_) | refine dr 1016 (k := ?_) | fail))); (all_goals (try (conv => whnf))); (all_goals (try (with_reducible exact trivial))); (repeat' ((first | (refine callee_fo (hc2) rfl ?_; rintro _ rfl) | (refine pcall_intro (hc2) rfl ?_) | (refine pcall_soft (fun _ => hc2) rfl ?_)); (repeat' ((conv => whnf); (first | ((with_reducible refine spl (fun hc => ?_) (fun hc => ?_)) <;> (try (exfalso; omega))) | ((with_reducible refine spl' (fun hc => ?_) (fun hc => ?_)) <;> (try (exfalso; omega))) | (with_reducible refine imp_intro (fun hc => ?_)) | refine vcq (k := ?_) | refine dr 1 (k := ?_) | refine dr 2 (k := ?_) | refine dr 3 (k := ?_) | refine dr 4 (k := ?_) | refine dr 5 (k := ?_) | refine dr 6 (k := ?_) | refine dr 7 (k := ?_) | refine dr 8 (k := ?_) | refine dr 9 (k := ?_) | refine dr 10 (k := ?_) | refine dr 11 (k := ?_) | refine dr 12 (k := ?_) | refine dr 1001 (k := ?_) | refine dr 1002 (k := ?_) | refine dr 1003 (k := ?_) | refine dr 1004 (k := ?_) | refine dr 1005 (k := ?_) | refine dr 1006 (k := ?_) | refine dr 1007 (k := ?_) | refine dr 1008 (k := ?_) | refine dr 1009 (k := ?_) | refine dr 1010 (k := ?_) | refine dr 1011 (k := ?_) | refine dr 1012 (k := ?_) | refine dr 1013 (k := ?_) | refine dr 1014 (k := ?_) | refine dr 1015 (k := ?_) | refine dr 1016 (k := ?_) | fail))); (all_goals (try (conv => whnf))); (all_goals (try (with_reducible exact trivial))))); (all_goals (try (refine ⟨_, rfl, ?_⟩; (repeat' ((conv => whnf); (first | ((with_reducible refine spl (fun hc => ?_) (fun hc => ?_)) <;> (try (exfalso; omega))) | ((with_reducible refine spl' (fun hc => ?_) (fun hc => ?_)) <;> (try (exfalso; omega))) | (with_reducible refine imp_intro (fun hc => ?_)) | refine vcq (k := ?_) | refine dr 1 (k := ?_) | refine dr 2 (k := ?_) | refine dr 3 (k := ?_) | refine dr 4 (k := ?_) | refine dr 5 (k := ?_) | refine dr 6 (k := ?_) | refine dr 7 (k := ?_) | refine dr 8 (k := ?_) | refine dr 9 (k := ?_) | refine dr 10 (k := ?_) | refine dr 11 (k := ?_) | refine dr 12 (k := ?_) | refine dr 1001 (k := ?_) | refine dr 1002 (k := ?_) | refine dr 1003 (k := ?_) | refine dr 1004 (k := ?_) | refine dr 1005 (k := ?_) | refine dr 1006 (k := ?_) | refine dr 1007 (k := ?_) | refine dr 1008 (k := ?_) | refine dr 1009 (k := ?_) | refine dr 1010 (k := ?_) | refine dr 1011 (k := ?_) | refine dr 1012 (k := ?_) | refine dr 1013 (k := ?_) | refine dr 1014 (k := ?_) | refine dr 1015 (k := ?_) | refine dr 1016 (k := ?_) | fail))); (all_goals (try (conv => whnf))); (all_goals (try (with_reducible exact trivial))))))
        · rename_i hn _
          refine ⟨(i + 1, i), ⟨⟨by dsimp only; omega, ?_⟩, by dsimp only; omega⟩, some [some 0, some 1], ?_⟩
          · dsimp only
            rw [hp, Bands.pickBand, if_neg (by assumption), if_neg (by assumption), if_pos hc]
          · (repeat' ((conv => whnf); (first | ((with_reducible refine spl (fun hc => ?_) (fun hc => ?_)) <;> (try (exfalso; omega))) | ((with_reducible refine spl' (fun hc => ?_) (fun hc => ?_)) <;> (try (exfalso; omega))) | (with_reducible refine imp_intro (fun hc => ?_)) | refine vcq (k := ?_) | refine dr 1 (k := ?_) | refine dr 2 (k := ?_) | refine dr 3 (k := ?_) | refine dr 4 (k := ?_) | refine dr 5 (k := ?_) | refine dr 6 (k := ?_) | refine dr 7 (k := ?_) | refine dr 8 (k := ?_) | refine dr 9 (k := ?_) | refine dr 10 (k := ?_) | refine dr 11 (k := ?_) | refine dr 12 (k := ?_) | refine dr 1001 (k := ?_) | refine dr 1002 (k := ?_) | refine dr 1003 (k := ?_) | refine dr 1004 (k := ?_) | refine dr 1005 (k := ?_) | refine dr 1006 (k := ?_) | refine dr 1007 (k := ?_) | refine dr 1008 (k := ?_) | refine dr 1009 (k := ?_) | refine dr 1010 (k := ?_) | refine dr 1011 (k := ?_) | refine dr 1012 (k := ?_) | refine dr 1013 (k := ?_) | refine dr 1014 (k := ?_) | refine dr 1015 (k := ?_) | refine dr 1016 (k := ?_) | fail))); (all_goals (try (conv => whnf))); (all_goals (try (with_reducible exact trivial)))
        · refine ⟨(i + 1, best), ⟨⟨by dsimp only; omega, ?_⟩, by dsimp only; omega⟩, some [some 0, some 1], ?_⟩
          · dsimp only
            rw [hp, Bands.pickBand, if_neg (by assumption), if_neg (by assumption), if_neg hc]
          · (repeat' ((conv => whnf); (first | ((with_reducible refine spl (fun hc => ?_) (fun hc => ?_)) <;> (try (exfalso; omega))) | ((with_reducible refine spl' (fun hc => ?_) (fun hc => ?_)) <;> (try (exfalso; omega))) | (with_reducible refine imp_intro (fun hc => ?_)) | refine vcq (k := ?_) | refine dr 1 (k := ?_) | refine dr 2 (k := ?_) | refine dr 3 (k := ?_) | refine dr 4 (k := ?_) | refine dr 5 (k := ?_) | refine dr 6 (k := ?_) | refine dr 7 (k := ?_) | refine dr 8 (k := ?_) | refine dr 9 (k := ?_) | refine dr 10 (k := ?_) | refine dr 11 (k := ?_) | refine dr 12 (k := ?_) | refine dr 1001 (k := ?_) | refine dr 1002 (k := ?_) | refine dr 1003 (k := ?_) | refine dr 1004 (k := ?_) | refine dr 1005 (k := ?_) | refine dr 1006 (k := ?_) | refine dr 1007 (k := ?_) | refine dr 1008 (k := ?_) | refine dr 1009 (k := ?_) | refine dr 1010 (k := ?_) | refine dr 1011 (k := ?_) | refine dr 1012 (k := ?_) | refine dr 1013 (k := ?_) | refine dr 1014 (k := ?_) | refine dr 1015 (k := ?_) | refine dr 1016 (k := ?_) | fail))); (all_goals (try (conv => whnf))); (all_goals (try (with_reducible exact trivial)))
    · obtain rfl : i = b.B.toNat := by omega
      have hch : b.choose s.keys = best := hbest.symm
      (repeat' ((conv => whnf); (first | ((with_reducible refine spl (fun hc => ?_) (fun hc => ?_)) <;> (try (exfalso; omega))) | ((with_reducible refine spl' (fun hc => ?_) (fun hc => ?_)) <;> (try (exfalso; omega))) | (with_reducible refine imp_intro (fun hc => ?_)) | refine vcq (k := ?_) | refine dr 1 (k := ?_) | refine dr 2 (k := ?_) | refine dr 3 (k := ?_) | refine dr 4 (k := ?_) | refine dr 5 (k := ?_) | refine dr 6 (k := ?_) | refine dr 7 (k := ?_) | refine dr 8 (k := ?_) | refine dr 9 (k := ?_) | refine dr 10 (k := ?_) | refine dr 11 (k := ?_) | refine dr 12 (k := ?_) | refine dr 1001 (k := ?_) | refine dr 1002 (k := ?_) | refine dr 1003 (k := ?_) | refine dr 1004 (k := ?_) | refine dr 1005 (k := ?_) | refine dr 1006 (k := ?_) | refine dr 1007 (k := ?_) | refine dr 1008 (k := ?_) | refine dr 1009 (k := ?_) | refine dr 1010 (k := ?_) | refine dr 1011 (k := ?_) | refine dr 1012 (k := ?_) | refine dr 1013 (k := ?_) | refine dr 1014 (k := ?_) | refine dr 1015 (k := ?_) | refine dr 1016 (k := ?_) | fail))); (all_goals (try (conv => whnf))); (all_goals (try (with_reducible exact trivial)))
      refine ⟨_, rfl, ?_⟩
      (repeat' ((conv => whnf); (first | ((with_reducible refine spl (fun hc => ?_) (fun hc => ?_)) <;> (try (exfalso; omega))) | ((with_reducible refine spl' (fun hc => ?_) (fun hc => ?_)) <;> (try (exfalso; omega))) | (with_reducible refine imp_intro (fun hc => ?_)) | refine vcq (k := ?_) | refine dr 1 (k := ?_) | refine dr 2 (k := ?_) | refine dr 3 (k := ?_) | refine dr 4 (k := ?_) | refine dr 5 (k := ?_) | refine dr 6 (k := ?_) | refine dr 7 (k := ?_) | refine dr 8 (k := ?_) | refine dr 9 (k := ?_) | refine dr 10 (k := ?_) | refine dr 11 (k := ?_) | refine dr 12 (k := ?_) | refine dr 1001 (k := ?_) | refine dr 1002 (k := ?_) | refine dr 1003 (k := ?_) | refine dr 1004 (k := ?_) | refine dr 1005 (k := ?_) | refine dr 1006 (k := ?_) | refine dr 1007 (k := ?_) | refine dr 1008 (k := ?_) | refine dr 1009 (k := ?_) | refine dr 1010 (k := ?_) | refine dr 1011 (k := ?_) | refine dr 1012 (k := ?_) | refine dr 1013 (k := ?_) | refine dr 1014 (k := ?_) | refine dr 1015 (k := ?_) | refine dr 1016 (k := ?_) | fail))); (all_goals (try (conv => whnf))); (all_goals (try (with_reducible exact trivial)))
end Go.Proofs

namespace Go.Proofs
open Go Go.Sx
set_option maxRecDepth 100000
set_option maxHeartbeats 4000000
-- SxAid2

theorem ins_at {w : Int × Int} : ∀ {l : List (Int × Int)}, Asc l → ∀ {k : Nat}, k < l.length → (l.getD k (0, 0)).1 = w.1 → ∀ i, (ins w l).getD i (0, 0) = if i = k then w else l.getD i (0, 0)
  | [], _, k, h, _, _ => by simp at h
  | x :: l, ha, 0, _, h, i => by
    have h : x.1 = w.1 := h
    unfold ins
    rw [if_neg (by omega), if_pos h]
    cases i <;> simp
  | x :: l, ha, k + 1, hk, h, i => by
    have h1 := List.pairwise_cons.1 ha
    rw [List.getD_cons_succ] at h
    have hk : k < l.length := by simpa using hk
    have := h1.1 _ (getD_mem (d := (0, 0)) hk)
    unfold ins
    rw [if_pos (by omega)]
    cases i with
    | zero => simp
    | succ i =>
      rw [List.getD_cons_succ, List.getD_cons_succ, ins_at h1.2 hk h i]
      simp

theorem ins_mid {w : Int × Int} : ∀ {l : List (Int × Int)} {k : Nat}, k ≤ l.length → (∀ i, i < k → (l.getD i (0, 0)).1 < w.1) → (k < l.length → w.1 < (l.getD k (0, 0)).1) → (ins w l).length = l.length + 1 ∧ ∀ i, (ins w l).getD i (0, 0) = if i < k then l.getD i (0, 0) else if i = k then w else l.getD (i - 1) (0, 0)
  | [], k, h, _, _ => by
    obtain rfl : k = 0 := by simpa using h
    refine ⟨rfl, fun i => ?_⟩
    cases i <;> simp [ins]
  | x :: l, 0, _, _, h => by
    have h : w.1 < x.1 := h (by simp)
    unfold ins
    rw [if_neg (by omega), if_neg (by omega)]
    refine ⟨rfl, fun i => ?_⟩
    cases i <;> simp
  | x :: l, k + 1, hk, h1, h2 => by
    have hx : x.1 < w.1 := h1 0 (by omega)
    obtain ⟨g1, g2⟩ := ins_mid (w := w) (l := l) (k := k) (by simpa using hk) (fun i hi => by have := h1 (i + 1) (by omega); simpa using this) (fun h => by have := h2 (by simpa using h); simpa using this)
    unfold ins
    rw [if_pos hx]
    refine ⟨by simp [g1], fun i => ?_⟩
    cases i with
    | zero => simp
    | succ i =>
      rw [List.getD_cons_succ, g2 i]
      have e1 : (i + 1 < k + 1) = (i < k) := by simp
      have e2 : (i + 1 = k + 1) = (i = k) := by simp
      simp only [e1, e2]
      by_cases c1 : i < k
      · simp only [if_pos c1, List.getD_cons_succ]
      · simp only [if_neg c1]
        by_cases c2 : i = k
        · simp only [if_pos c2]
        · simp only [if_neg c2]
          obtain ⟨j, rfl⟩ : ∃ j, i = j + 1 := ⟨i - 1, by omega⟩
          simp

theorem ins_rows {c : List (Int × Int)} {w : Int × Int} {i : Nat} {f : Nat → List V} (k2 : ∀ j, (ins w c).getD j (0, 0) = if j < i then c.getD j (0, 0) else if j = i then w else c.getD (j - 1) (0, 0)) (j : Nat) :
    appF (0 + ((i : Int) - 0).toNat) (appF 0 f fun k => rowOf wC (0, 0) c (Int.toNat 0 + k)) (appF 1 (fun _ => [V.int .i64 w.1, V.int .i64 w.2]) fun k => rowOf wC (0, 0) c ((i : Int).toNat + k)) j = rowOf wC (0, 0) (ins w c) j := by
  have e1 : 0 + ((i : Int) - 0).toNat = i := by omega
  have e2 : (i : Int).toNat = i := by omega
  unfold appF rowOf
  rw [e1, e2, k2 j]
  by_cases c1 : j < i
  · rw [if_pos c1, if_pos c1, if_neg (by omega)]
    dsimp only
    rw [show Int.toNat 0 + (j - 0) = j by simp]
  · rw [if_neg c1, if_neg c1]
    by_cases c2 : j = i
    · rw [if_pos c2, if_pos (by omega)]
      rfl
    · rw [if_neg c2, if_neg (by omega)]
      dsimp only
      rw [show i + (j - i - 1) = j - 1 by omega]

theorem write45 (b : Bands) (hb : b.Ok) (s : St) (hs : s.Ok b) (hsm : s.Small 9000) (w : Int × Int) (hw : 0 ≤ w.1 ∧ w.1 < b.N) : PureC Try.prog 45 true [b.v, stV b.N.toNat b.B.toNat s, wV w] (· = stV b.N.toNat b.B.toNat (s.write b w)) := by
  have hB := hb.B
  have hT := hb.T
  have hC := hb.C
  have hNb := N_bounds hb
  have hln := hs.len
  have hks : ksOf s.cch = s.keys := rfl
  have hfs := findW_spec (n := w.1) s.cch
  refine pureC_of_exec Try.E_ok Try.func45 rfl (by kernel_rfl) ?_
  (repeat' ((conv => whnf); (first | ((with_reducible refine spl (fun hc => ?_) (fun hc => ?_)) <;> (try (exfalso; omega))) | ((with_reducible refine spl' (fun hc => ?_) (fun hc => ?_)) <;> (try (exfalso; omega))) | (with_reducible refine imp_intro (fun hc => ?_)) | refine vcq (k := ?_) | refine dr 6 (k := ?_) | refine dr 16 (k := ?_) | refine dr 8 (k := ?_) | fail))); (all_goals (try (conv => whnf))); (all_goals (try (with_reducible exact trivial)))
  refine callee_new (copyState63 b.N.toNat b.B.toNat (by omega) (by omega) s (by omega)) rfl ?_
  rintro _ _ ⟨rfl, rfl⟩
  (repeat' ((conv => whnf); (first | ((with_reducible refine spl (fun hc => ?_) (fun hc => ?_)) <;> (try (exfalso; omega))) | ((with_reducible refine spl' (fun hc => ?_) (fun hc => ?_)) <;> (try (exfalso; omega))) | (with_reducible refine imp_intro (fun hc => ?_)) | refine vcq (k := ?_) | refine dr 6 (k := ?_) | refine dr 16 (k := ?_) | refine dr 8 (k := ?_) | fail))); (all_goals (try (conv => whnf))); (all_goals (try (with_reducible exact trivial)))
  refine callee_view (find19 s.cch (by omega) w.1) ?_
  (repeat' ((conv => whnf); (first | ((with_reducible refine spl (fun hc => ?_) (fun hc => ?_)) <;> (try (exfalso; omega))) | ((with_reducible refine spl' (fun hc => ?_) (fun hc => ?_)) <;> (try (exfalso; omega))) | (with_reducible refine imp_intro (fun hc => ?_)) | refine vcq (k := ?_) | refine dr 6 (k := ?_) | refine dr 16 (k := ?_) | refine dr 8 (k := ?_) | fail))); (all_goals (try (conv => whnf))); (all_goals (try (with_reducible exact trivial)))
  rintro _ rfl
  (repeat' ((conv => whnf); (first | ((with_reducible refine spl (fun hc => ?_) (fun hc => ?_)) <;> (try (exfalso; omega))) | ((with_reducible refine spl' (fun hc => ?_) (fun hc => ?_)) <;> (try (exfalso; omega))) | (with_reducible refine imp_intro (fun hc => ?_)) | refine vcq (k := ?_) | refine dr 6 (k := ?_) | refine dr 16 (k := ?_) | refine dr 8 (k := ?_) | fail))); (all_goals (try (conv => whnf))); (all_goals (try (with_reducible exact trivial)))
  · have hin : w.1 ∈ s.keys := by
      rcases hfs with ⟨g1, g2⟩ | ⟨g1, g2, g3, g4⟩
      · omega
      · exact g4
    obtain ⟨g2, g3⟩ : findW s.cch w.1 < s.cch.length ∧ (s.cch.getD (findW s.cch w.1).toNat (0, 0)).1 = w.1 := by
      rcases hfs with ⟨g1, g2⟩ | ⟨g1, g2, g3, g4⟩
      · omega
      · exact ⟨g2, g3⟩
    have hat := ins_at hs.asc (w := w) (k := (findW s.cch w.1).toNat) (by omega) g3
    have hlen := ins_length (w := w) hs.asc
    rw [if_pos (show w.1 ∈ s.cch.map Prod.fst from hin)] at hlen
    unfold St.write
    rw [if_pos hin]
    refine ⟨_, rfl, ?_⟩
    (repeat' ((conv => whnf); (first | ((with_reducible refine spl (fun hc => ?_) (fun hc => ?_)) <;> (try (exfalso; omega))) | ((with_reducible refine spl' (fun hc => ?_) (fun hc => ?_)) <;> (try (exfalso; omega))) | (with_reducible refine imp_intro (fun hc => ?_)) | refine vcq (k := ?_) | refine dr 6 (k := ?_) | refine dr 16 (k := ?_) | refine dr 8 (k := ?_) | fail))); (all_goals (try (conv => whnf))); (all_goals (try (with_reducible exact trivial)))
    refine ⟨fun j _ => ?_, ?_⟩
    · dsimp only
      unfold rowOf
      rw [hat j]
      by_cases hj : j = (findW s.cch w.1).toNat
      · rw [spliceP_pos hj, if_pos hj]
        rfl
      · rw [spliceP_neg hj, if_neg hj]
    · (repeat' ((conv => whnf); (first | ((with_reducible refine spl (fun hc => ?_) (fun hc => ?_)) <;> (try (exfalso; omega))) | ((with_reducible refine spl' (fun hc => ?_) (fun hc => ?_)) <;> (try (exfalso; omega))) | (with_reducible refine imp_intro (fun hc => ?_)) | refine vcq (k := ?_) | refine dr 6 (k := ?_) | refine dr 16 (k := ?_) | refine dr 8 (k := ?_) | fail))); (all_goals (try (conv => whnf))); (all_goals (try (with_reducible exact trivial)))
  · have hnin : w.1 ∉ s.keys := by
      rcases hfs with ⟨g1, g2⟩ | ⟨g1, g2, g3, g4⟩
      · exact g2
      · omega
    · have hfull : (s.cch.length : Int) = b.C := by omega
      have hne : s.keys ≠ [] := by
        intro h
        have : s.cch.length = 0 := by
          have := congrArg List.length h
          simpa [St.keys] using this
        omega
      obtain ⟨_, _, k, _, h2, _, h4, _⟩ := choose_spec hb hne (keys_blk hs)
      have hch := choose64 b hb s hs
      rw [h2] at hch
      have hcl := clean48 b hb s hs ⟨by have := hsm.1; omega, by have := hsm.2; omega, by have := hsm.3; omega⟩ k h4
      have hwr : s.write b w = { s.clean b (k : Int) with cch := ins w (s.clean b (k : Int)).cch } := by
        unfold St.write
        rw [if_neg hnin, if_pos hfull, h2]
      have hco := clean_ok hb hs (k : Int)
      have hcn : w.1 ∉ (s.clean b (k : Int)).keys := by
        rw [clean_keys]
        exact fun h => hnin (List.mem_filter.1 h).1
      have hcb := hco.len
      rw [hwr]
      generalize s.clean b (k : Int) = c at *
      refine pcall_view hch (by (repeat' ((conv => whnf); (first | ((with_reducible refine spl (fun hc => ?_) (fun hc => ?_)) <;> (try (exfalso; omega))) | ((with_reducible refine spl' (fun hc => ?_) (fun hc => ?_)) <;> (try (exfalso; omega))) | (with_reducible refine imp_intro (fun hc => ?_)) | refine vcq (k := ?_) | refine dr 6 (k := ?_) | refine dr 16 (k := ?_) | refine dr 8 (k := ?_) | fail))); (all_goals (try (conv => whnf))); (all_goals (try (with_reducible exact trivial)))) ?_
      (repeat' ((conv => whnf); (first | ((with_reducible refine spl (fun hc => ?_) (fun hc => ?_)) <;> (try (exfalso; omega))) | ((with_reducible refine spl' (fun hc => ?_) (fun hc => ?_)) <;> (try (exfalso; omega))) | (with_reducible refine imp_intro (fun hc => ?_)) | refine vcq (k := ?_) | refine dr 6 (k := ?_) | refine dr 16 (k := ?_) | refine dr 8 (k := ?_) | fail))); (all_goals (try (conv => whnf))); (all_goals (try (with_reducible exact trivial)))
      refine pcall_view hcl (by (repeat' ((conv => whnf); (first | ((with_reducible refine spl (fun hc => ?_) (fun hc => ?_)) <;> (try (exfalso; omega))) | ((with_reducible refine spl' (fun hc => ?_) (fun hc => ?_)) <;> (try (exfalso; omega))) | (with_reducible refine imp_intro (fun hc => ?_)) | refine vcq (k := ?_) | refine dr 6 (k := ?_) | refine dr 16 (k := ?_) | refine dr 8 (k := ?_) | fail))); (all_goals (try (conv => whnf))); (all_goals (try (with_reducible exact trivial)))) ?_
      (repeat' ((conv => whnf); (first | ((with_reducible refine spl (fun hc => ?_) (fun hc => ?_)) <;> (try (exfalso; omega))) | ((with_reducible refine spl' (fun hc => ?_) (fun hc => ?_)) <;> (try (exfalso; omega))) | (with_reducible refine imp_intro (fun hc => ?_)) | refine vcq (k := ?_) | refine dr 6 (k := ?_) | refine dr 16 (k := ?_) | refine dr 8 (k := ?_) | fail))); (all_goals (try (conv => whnf))); (all_goals (try (with_reducible exact trivial)))
      refine ⟨Nat, fun i => i ≤ c.cch.length ∧ ∀ j, j < i → (c.cch.getD j (0, 0)).1 < w.1, fun i => c.cch.length - i, fun i => [(9, .int .i64 i)], fun _ => [], fun _ => [], 0, ⟨⟨by omega, fun j hj => by omega⟩, some [some 0, some 1, some 2, some 3, some 4, some 5, some 6, some 7], ?_⟩, ?_⟩
      · (repeat' ((conv => whnf); (first | ((with_reducible refine spl (fun hc => ?_) (fun hc => ?_)) <;> (try (exfalso; omega))) | ((with_reducible refine spl' (fun hc => ?_) (fun hc => ?_)) <;> (try (exfalso; omega))) | (with_reducible refine imp_intro (fun hc => ?_)) | refine vcq (k := ?_) | refine dr 6 (k := ?_) | refine dr 16 (k := ?_) | refine dr 8 (k := ?_) | fail))); (all_goals (try (conv => whnf))); (all_goals (try (with_reducible exact trivial)))
      · rintro i ⟨hi, hlo⟩
        have hti : (i : Int).toNat = i := Int.toNat_natCast i
        have hlo' := fun h : i < c.cch.length => hlo
        (repeat' ((conv => whnf); (first | ((with_reducible refine spl (fun hc => ?_) (fun hc => ?_)) <;> (try (exfalso; omega))) | ((with_reducible refine spl' (fun hc => ?_) (fun hc => ?_)) <;> (try (exfalso; omega))) | (with_reducible refine imp_intro (fun hc => ?_)) | refine vcq (k := ?_) | refine dr 6 (k := ?_) | refine dr 16 (k := ?_) | refine dr 8 (k := ?_) | fail))); (all_goals (try (conv => whnf))); (all_goals (try (with_reducible exact trivial)))
        · rw [hti] at hc
          refine ⟨i + 1, ⟨⟨by omega, fun j hj => ?_⟩, by dsimp only; omega⟩, some [some 0, some 1, some 2, some 3, some 4, some 5, some 6, some 7], ?_⟩
          · rcases Nat.lt_or_eq_of_le (show j ≤ i by omega) with h | rfl
            · exact hlo j h
            · exact hc.2
          · (repeat' ((conv => whnf); (first | ((with_reducible refine spl (fun hc => ?_) (fun hc => ?_)) <;> (try (exfalso; omega))) | ((with_reducible refine spl' (fun hc => ?_) (fun hc => ?_)) <;> (try (exfalso; omega))) | (with_reducible refine imp_intro (fun hc => ?_)) | refine vcq (k := ?_) | refine dr 6 (k := ?_) | refine dr 16 (k := ?_) | refine dr 8 (k := ?_) | fail))); (all_goals (try (conv => whnf))); (all_goals (try (with_reducible exact trivial)))
        · rw [hti] at hc
          have hhi : i < c.cch.length → w.1 < (c.cch.getD i (0, 0)).1 := fun h => by
            have hne : (c.cch.getD i (0, 0)).1 ≠ w.1 := fun he => hcn (List.mem_map.2 ⟨_, getD_mem h, he⟩)
            have : ¬ (c.cch.getD i (0, 0)).1 < w.1 := fun h2 => hc ⟨by omega, h2⟩
            omega
          obtain ⟨k1, k2⟩ := ins_mid (w := w) hi hlo hhi
          refine ⟨_, rfl, ?_⟩
          (repeat' ((conv => whnf); (first | ((with_reducible refine spl (fun hc => ?_) (fun hc => ?_)) <;> (try (exfalso; omega))) | ((with_reducible refine spl' (fun hc => ?_) (fun hc => ?_)) <;> (try (exfalso; omega))) | (with_reducible refine imp_intro (fun hc => ?_)) | refine vcq (k := ?_) | refine dr 6 (k := ?_) | refine dr 16 (k := ?_) | refine dr 8 (k := ?_) | fail))); (all_goals (try (conv => whnf))); (all_goals (try (with_reducible exact trivial)))
          refine ⟨fun j _ => ins_rows k2 j, ?_⟩
          (repeat' ((conv => whnf); (first | ((with_reducible refine spl (fun hc => ?_) (fun hc => ?_)) <;> (try (exfalso; omega))) | ((with_reducible refine spl' (fun hc => ?_) (fun hc => ?_)) <;> (try (exfalso; omega))) | (with_reducible refine imp_intro (fun hc => ?_)) | refine vcq (k := ?_) | refine dr 6 (k := ?_) | refine dr 16 (k := ?_) | refine dr 8 (k := ?_) | fail))); (all_goals (try (conv => whnf))); (all_goals (try (with_reducible exact trivial)))
  · have hnin : w.1 ∉ s.keys := by
      rcases hfs with ⟨g1, g2⟩ | ⟨g1, g2, g3, g4⟩
      · exact g2
      · omega
    · have hfull : ¬ (s.cch.length : Int) = b.C := by omega
      have hwr : s.write b w = { s with cch := ins w s.cch } := by
        unfold St.write
        rw [if_neg hnin, if_neg hfull]
      rw [hwr]
      have hco := hs
      have hcn := hnin
      have hcb := hln
      obtain ⟨c, rfl⟩ : ∃ c, c = s := ⟨s, rfl⟩
      refine ⟨Nat, fun i => i ≤ c.cch.length ∧ ∀ j, j < i → (c.cch.getD j (0, 0)).1 < w.1, fun i => c.cch.length - i, fun i => [(9, .int .i64 i)], fun _ => [], fun _ => [], 0, ⟨⟨by omega, fun j hj => by omega⟩, some [some 0, some 1, some 2, some 3, some 4, some 5, some 6, some 7], ?_⟩, ?_⟩
      · (repeat' ((conv => whnf); (first | ((with_reducible refine spl (fun hc => ?_) (fun hc => ?_)) <;> (try (exfalso; omega))) | ((with_reducible refine spl' (fun hc => ?_) (fun hc => ?_)) <;> (try (exfalso; omega))) | (with_reducible refine imp_intro (fun hc => ?_)) | refine vcq (k := ?_) | refine dr 6 (k := ?_) | refine dr 16 (k := ?_) | refine dr 8 (k := ?_) | fail))); (all_goals (try (conv => whnf))); (all_goals (try (with_reducible exact trivial)))
      · rintro i ⟨hi, hlo⟩
        have hti : (i : Int).toNat = i := Int.toNat_natCast i
        have hlo' := fun h : i < c.cch.length => hlo
        (repeat' ((conv => whnf); (first | ((with_reducible refine spl (fun hc => ?_) (fun hc => ?_)) <;> (try (exfalso; omega))) | ((with_reducible refine spl' (fun hc => ?_) (fun hc => ?_)) <;> (try (exfalso; omega))) | (with_reducible refine imp_intro (fun hc => ?_)) | refine vcq (k := ?_) | refine dr 6 (k := ?_) | refine dr 16 (k := ?_) | refine dr 8 (k := ?_) | fail))); (all_goals (try (conv => whnf))); (all_goals (try (with_reducible exact trivial)))
        · rw [hti] at hc
          refine ⟨i + 1, ⟨⟨by omega, fun j hj => ?_⟩, by dsimp only; omega⟩, some [some 0, some 1, some 2, some 3, some 4, some 5, some 6, some 7], ?_⟩
          · rcases Nat.lt_or_eq_of_le (show j ≤ i by omega) with h | rfl
            · exact hlo j h
            · exact hc.2
          · (repeat' ((conv => whnf); (first | ((with_reducible refine spl (fun hc => ?_) (fun hc => ?_)) <;> (try (exfalso; omega))) | ((with_reducible refine spl' (fun hc => ?_) (fun hc => ?_)) <;> (try (exfalso; omega))) | (with_reducible refine imp_intro (fun hc => ?_)) | refine vcq (k := ?_) | refine dr 6 (k := ?_) | refine dr 16 (k := ?_) | refine dr 8 (k := ?_) | fail))); (all_goals (try (conv => whnf))); (all_goals (try (with_reducible exact trivial)))
        · rw [hti] at hc
          have hhi : i < c.cch.length → w.1 < (c.cch.getD i (0, 0)).1 := fun h => by
            have hne : (c.cch.getD i (0, 0)).1 ≠ w.1 := fun he => hcn (List.mem_map.2 ⟨_, getD_mem h, he⟩)
            have : ¬ (c.cch.getD i (0, 0)).1 < w.1 := fun h2 => hc ⟨by omega, h2⟩
            omega
          obtain ⟨k1, k2⟩ := ins_mid (w := w) hi hlo hhi
          refine ⟨_, rfl, ?_⟩
          (repeat' ((conv => whnf); (first | ((with_reducible refine spl (fun hc => ?_) (fun hc => ?_)) <;> (try (exfalso; omega))) | ((with_reducible refine spl' (fun hc => ?_) (fun hc => ?_)) <;> (try (exfalso; omega))) | (with_reducible refine imp_intro (fun hc => ?_)) | refine vcq (k := ?_) | refine dr 6 (k := ?_) | refine dr 16 (k := ?_) | refine dr 8 (k := ?_) | fail))); (all_goals (try (conv => whnf))); (all_goals (try (with_reducible exact trivial)))
          refine ⟨fun j _ => ins_rows k2 j, ?_⟩
          (repeat' ((conv => whnf); (first | ((with_reducible refine spl (fun hc => ?_) (fun hc => ?_)) <;> (try (exfalso; omega))) | ((with_reducible refine spl' (fun hc => ?_) (fun hc => ?_)) <;> (try (exfalso; omega))) | (with_reducible refine imp_intro (fun hc => ?_)) | refine vcq (k := ?_) | refine dr 6 (k := ?_) | refine dr 16 (k := ?_) | refine dr 8 (k := ?_) | fail))); (all_goals (try (conv => whnf))); (all_goals (try (with_reducible exact trivial)))
end Go.Proofs

namespace Go.Proofs
open Go Go.Sx
set_option maxRecDepth 100000
set_option maxHeartbeats 4000000
-- SxAid2

theorem begin59 (b : Bands) (hb : b.Ok) : PureC Try.prog 59 false [b.v] (· = stV b.N.toNat b.B.toNat St.begin) := by
  have hB := hb.B
  have hNb := N_bounds hb
  refine pureC_of_exec Try.E_ok Try.func59 rfl (by kernel_rfl) ?_
  (repeat' ((conv => whnf); (first | ((with_reducible refine spl (fun hc => ?_) (fun hc => ?_)) <;> (try (exfalso; omega))) | ((with_reducible refine spl' (fun hc => ?_) (fun hc => ?_)) <;> (try (exfalso; omega))) | (with_reducible refine imp_intro (fun hc => ?_)) | refine vcq (k := ?_) | refine dr 7 (k := ?_) | fail))); (all_goals (try (conv => whnf))); (all_goals (try (with_reducible exact trivial))); (repeat' ((first | (refine callee_fo (many18 b hb) rfl ?_; rintro _ rfl) | (refine pcall_intro (many18 b hb) rfl ?_) | (refine pcall_soft (fun _ => many18 b hb) rfl ?_)); (repeat' ((conv => whnf); (first | ((with_reducible refine spl (fun hc => ?_) (fun hc => ?_)) <;> (try (exfalso; omega))) | ((with_reducible refine spl' (fun hc => ?_) (fun hc => ?_)) <;> (try (exfalso; omega))) | (with_reducible refine imp_intro (fun hc => ?_)) | refine vcq (k := ?_) | refine dr 7 (k := ?_) | fail))); (all_goals (try (conv => whnf))); (all_goals (try (with_reducible exact trivial))))); (all_goals (try (refine ⟨_, rfl, ?_⟩; (repeat' ((conv => whnf); (first | ((with_reducible refine spl (fun hc => ?_) (fun hc => ?_)) <;> (try (exfalso; omega))) | ((with_reducible refine spl' (fun hc => ?_) (fun hc => ?_)) <;> (try (exfalso; omega))) | (with_reducible refine imp_intro (fun hc => ?_)) | refine vcq (k := ?_) | refine dr 7 (k := ?_) | fail))); (all_goals (try (conv => whnf))); (all_goals (try (with_reducible exact trivial))))))

theorem play43 (b : Bands) (hb : b.Ok) (l : List (Int × Int)) (hl : l.length ≤ 8000) (hin : InB b l) : PureC Try.prog 43 true [b.v, .sl 2 l.length (rowOf wC (0, 0) l)] (· = stV b.N.toNat b.B.toNat (St.run b l)) := by
  refine pureC_of_exec Try.E_ok Try.func43 rfl (by kernel_rfl) ?_
  (repeat' ((conv => whnf); (first | ((with_reducible refine spl (fun hc => ?_) (fun hc => ?_)) <;> (try (exfalso; omega))) | ((with_reducible refine spl' (fun hc => ?_) (fun hc => ?_)) <;> (try (exfalso; omega))) | (with_reducible refine imp_intro (fun hc => ?_)) | refine vcq (k := ?_) | refine dr 7 (k := ?_) | fail))); (all_goals (try (conv => whnf))); (all_goals (try (with_reducible exact trivial))); (repeat' ((first | (refine callee_fo (begin59 b hb) rfl ?_; rintro _ rfl) | (refine pcall_intro (begin59 b hb) rfl ?_) | (refine pcall_soft (fun _ => begin59 b hb) rfl ?_)); (repeat' ((conv => whnf); (first | ((with_reducible refine spl (fun hc => ?_) (fun hc => ?_)) <;> (try (exfalso; omega))) | ((with_reducible refine spl' (fun hc => ?_) (fun hc => ?_)) <;> (try (exfalso; omega))) | (with_reducible refine imp_intro (fun hc => ?_)) | refine vcq (k := ?_) | refine dr 7 (k := ?_) | fail))); (all_goals (try (conv => whnf))); (all_goals (try (with_reducible exact trivial))))); (all_goals (try (refine ⟨_, rfl, ?_⟩; (repeat' ((conv => whnf); (first | ((with_reducible refine spl (fun hc => ?_) (fun hc => ?_)) <;> (try (exfalso; omega))) | ((with_reducible refine spl' (fun hc => ?_) (fun hc => ?_)) <;> (try (exfalso; omega))) | (with_reducible refine imp_intro (fun hc => ?_)) | refine vcq (k := ?_) | refine dr 7 (k := ?_) | fail))); (all_goals (try (conv => whnf))); (all_goals (try (with_reducible exact trivial))))))
  refine ⟨Nat, fun i => i ≤ l.length, fun i => l.length - i, fun i => [(6, .int .i64 i)], fun i => [(2, .cells 37 [.sl 1 b.N.toNat (fun j => [.int .i64 ((St.run b (l.take i)).med j)]), .sl 2 (St.run b (l.take i)).cch.length (rowOf wC (0, 0) (St.run b (l.take i)).cch), .sl 1 b.B.toNat (fun j => [.int .i64 ((St.run b (l.take i)).cnt j)]), .int .i64 (St.run b (l.take i)).cost, .int .i64 (St.run b (l.take i)).cleaned, .int .i64 (St.run b (l.take i)).refreshed])], fun _ => [], 0, ⟨by omega, some [some 0, some 1, some 2], ?_⟩, ?_⟩
  · (repeat' ((conv => whnf); (first | ((with_reducible refine spl (fun hc => ?_) (fun hc => ?_)) <;> (try (exfalso; omega))) | ((with_reducible refine spl' (fun hc => ?_) (fun hc => ?_)) <;> (try (exfalso; omega))) | (with_reducible refine imp_intro (fun hc => ?_)) | refine vcq (k := ?_) | refine dr 7 (k := ?_) | fail))); (all_goals (try (conv => whnf))); (all_goals (try (with_reducible exact trivial)))
  · intro i hi
    have hti : (i : Int).toNat = i := Int.toNat_natCast i
    by_cases hlt : i < l.length
    · obtain ⟨o1, o2⟩ := run_ok hb (hin.take i)
      have hli : (l.take i).length = i := by rw [List.length_take]; omega
      rw [hli] at o2
      have hw := hin _ (getD_mem (d := (0, 0)) hlt)
      have hsn := run_snoc (b := b) hlt
      have hgd : l.getD i (0, 0) = l.getD ((i : Int).toNat) (0, 0) := by rw [hti]
      rw [hgd] at hw hsn
      have hwr := write45 b hb (St.run b (l.take i)) o1 ⟨by have := o2.1; omega, by have := o2.2; omega, by have := o2.3; omega⟩ (l.getD ((i : Int).toNat) (0, 0)) hw
      rw [← hsn] at hwr
      (repeat' ((conv => whnf); (first | ((with_reducible refine spl (fun hc => ?_) (fun hc => ?_)) <;> (try (exfalso; omega))) | ((with_reducible refine spl' (fun hc => ?_) (fun hc => ?_)) <;> (try (exfalso; omega))) | (with_reducible refine imp_intro (fun hc => ?_)) | refine vcq (k := ?_) | refine dr 7 (k := ?_) | fail))); (all_goals (try (conv => whnf))); (all_goals (try (with_reducible exact trivial))); (repeat' ((first | (refine callee_fo (hwr) rfl ?_; rintro _ rfl) | (refine pcall_intro (hwr) rfl ?_) | (refine pcall_soft (fun _ => hwr) rfl ?_)); (repeat' ((conv => whnf); (first | ((with_reducible refine spl (fun hc => ?_) (fun hc => ?_)) <;> (try (exfalso; omega))) | ((with_reducible refine spl' (fun hc => ?_) (fun hc => ?_)) <;> (try (exfalso; omega))) | (with_reducible refine imp_intro (fun hc => ?_)) | refine vcq (k := ?_) | refine dr 7 (k := ?_) | fail))); (all_goals (try (conv => whnf))); (all_goals (try (with_reducible exact trivial))))); (all_goals (try (refine ⟨_, rfl, ?_⟩; (repeat' ((conv => whnf); (first | ((with_reducible refine spl (fun hc => ?_) (fun hc => ?_)) <;> (try (exfalso; omega))) | ((with_reducible refine spl' (fun hc => ?_) (fun hc => ?_)) <;> (try (exfalso; omega))) | (with_reducible refine imp_intro (fun hc => ?_)) | refine vcq (k := ?_) | refine dr 7 (k := ?_) | fail))); (all_goals (try (conv => whnf))); (all_goals (try (with_reducible exact trivial))))))
      refine ⟨i + 1, ⟨by omega, by dsimp only; omega⟩, some [some 0, some 1, some 2], ?_⟩
      (repeat' ((conv => whnf); (first | ((with_reducible refine spl (fun hc => ?_) (fun hc => ?_)) <;> (try (exfalso; omega))) | ((with_reducible refine spl' (fun hc => ?_) (fun hc => ?_)) <;> (try (exfalso; omega))) | (with_reducible refine imp_intro (fun hc => ?_)) | refine vcq (k := ?_) | refine dr 7 (k := ?_) | fail))); (all_goals (try (conv => whnf))); (all_goals (try (with_reducible exact trivial)))
    · obtain rfl : i = l.length := by omega
      have e : St.run b (l.take l.length) = St.run b l := by rw [List.take_length]
      dsimp only
      rw [e]
      (repeat' ((conv => whnf); (first | ((with_reducible refine spl (fun hc => ?_) (fun hc => ?_)) <;> (try (exfalso; omega))) | ((with_reducible refine spl' (fun hc => ?_) (fun hc => ?_)) <;> (try (exfalso; omega))) | (with_reducible refine imp_intro (fun hc => ?_)) | refine vcq (k := ?_) | refine dr 7 (k := ?_) | fail))); (all_goals (try (conv => whnf))); (all_goals (try (with_reducible exact trivial)))
      refine ⟨_, rfl, ?_⟩
      (repeat' ((conv => whnf); (first | ((with_reducible refine spl (fun hc => ?_) (fun hc => ?_)) <;> (try (exfalso; omega))) | ((with_reducible refine spl' (fun hc => ?_) (fun hc => ?_)) <;> (try (exfalso; omega))) | (with_reducible refine imp_intro (fun hc => ?_)) | refine vcq (k := ?_) | refine dr 7 (k := ?_) | fail))); (all_goals (try (conv => whnf))); (all_goals (try (with_reducible exact trivial)))

theorem run30 (b : Bands) (l : List (Int × Int)) (hl : l.length ≤ 8000) : PureC Try.prog 30 true [b.v, .sl 2 l.length (rowOf wC (0, 0) l)] (· = .tup [stV (resN b l) (resB b l) (resR b l), .int .i64 (chk b l)]) := by
  refine pureC_of_exec Try.E_ok Try.func30 rfl (by kernel_rfl) ?_
  (repeat' ((conv => whnf); (first | ((with_reducible refine spl (fun hc => ?_) (fun hc => ?_)) <;> (try (exfalso; omega))) | ((with_reducible refine spl' (fun hc => ?_) (fun hc => ?_)) <;> (try (exfalso; omega))) | (with_reducible refine imp_intro (fun hc => ?_)) | refine vcq (k := ?_) | refine dr 7 (k := ?_) | fail))); (all_goals (try (conv => whnf))); (all_goals (try (with_reducible exact trivial))); (repeat' ((first | (refine callee_fo (check29 b l hl) rfl ?_; rintro _ rfl) | (refine pcall_intro (check29 b l hl) rfl ?_) | (refine pcall_soft (fun _ => check29 b l hl) rfl ?_)); (repeat' ((conv => whnf); (first | ((with_reducible refine spl (fun hc => ?_) (fun hc => ?_)) <;> (try (exfalso; omega))) | ((with_reducible refine spl' (fun hc => ?_) (fun hc => ?_)) <;> (try (exfalso; omega))) | (with_reducible refine imp_intro (fun hc => ?_)) | refine vcq (k := ?_) | refine dr 7 (k := ?_) | fail))); (all_goals (try (conv => whnf))); (all_goals (try (with_reducible exact trivial)))))
  · unfold resN resB resR
    rw [if_neg hc, if_neg hc, if_neg hc]
    refine ⟨_, rfl, ?_⟩
    (repeat' ((conv => whnf); (first | ((with_reducible refine spl (fun hc => ?_) (fun hc => ?_)) <;> (try (exfalso; omega))) | ((with_reducible refine spl' (fun hc => ?_) (fun hc => ?_)) <;> (try (exfalso; omega))) | (with_reducible refine imp_intro (fun hc => ?_)) | refine vcq (k := ?_) | refine dr 7 (k := ?_) | fail))); (all_goals (try (conv => whnf))); (all_goals (try (with_reducible exact trivial)))
  · have hz := Classical.not_not.1 hc
    obtain ⟨hb, h1, h2⟩ := chk_ok hz
    unfold resN resB resR
    rw [if_pos hz, if_pos hz, if_pos hz]
    (repeat' ((conv => whnf); (first | ((with_reducible refine spl (fun hc => ?_) (fun hc => ?_)) <;> (try (exfalso; omega))) | ((with_reducible refine spl' (fun hc => ?_) (fun hc => ?_)) <;> (try (exfalso; omega))) | (with_reducible refine imp_intro (fun hc => ?_)) | refine vcq (k := ?_) | refine dr 7 (k := ?_) | fail))); (all_goals (try (conv => whnf))); (all_goals (try (with_reducible exact trivial))); (repeat' ((first | (refine callee_fo (play43 b hb l hl h2.inB) rfl ?_; rintro _ rfl) | (refine pcall_intro (play43 b hb l hl h2.inB) rfl ?_) | (refine pcall_soft (fun _ => play43 b hb l hl h2.inB) rfl ?_)); (repeat' ((conv => whnf); (first | ((with_reducible refine spl (fun hc => ?_) (fun hc => ?_)) <;> (try (exfalso; omega))) | ((with_reducible refine spl' (fun hc => ?_) (fun hc => ?_)) <;> (try (exfalso; omega))) | (with_reducible refine imp_intro (fun hc => ?_)) | refine vcq (k := ?_) | refine dr 7 (k := ?_) | fail))); (all_goals (try (conv => whnf))); (all_goals (try (with_reducible exact trivial)))))
    refine ⟨_, rfl, ?_⟩
    (repeat' ((conv => whnf); (first | ((with_reducible refine spl (fun hc => ?_) (fun hc => ?_)) <;> (try (exfalso; omega))) | ((with_reducible refine spl' (fun hc => ?_) (fun hc => ?_)) <;> (try (exfalso; omega))) | (with_reducible refine imp_intro (fun hc => ?_)) | refine vcq (k := ?_) | refine dr 7 (k := ?_) | fail))); (all_goals (try (conv => whnf))); (all_goals (try (with_reducible exact trivial)))

theorem read24 (b : Bands) (l : List (Int × Int)) (hl : l.length ≤ 8000) (n : Int) : PureC Try.prog 24 true [b.v, .sl 2 l.length (rowOf wC (0, 0) l), .int .i64 n] (· = .tup [.int .i64 (rdRes b l n).1, .int .i64 (rdRes b l n).2]) := by
  refine pureC_of_exec Try.E_ok Try.func24 rfl (by kernel_rfl) ?_
  (repeat' ((conv => whnf); (first | ((with_reducible refine spl (fun hc => ?_) (fun hc => ?_)) <;> (try (exfalso; omega))) | ((with_reducible refine spl' (fun hc => ?_) (fun hc => ?_)) <;> (try (exfalso; omega))) | (with_reducible refine imp_intro (fun hc => ?_)) | refine vcq (k := ?_) | refine dr 7 (k := ?_) | fail))); (all_goals (try (conv => whnf))); (all_goals (try (with_reducible exact trivial))); (repeat' ((first | (refine callee_fo (check29 b l hl) rfl ?_; rintro _ rfl) | (refine pcall_intro (check29 b l hl) rfl ?_) | (refine pcall_soft (fun _ => check29 b l hl) rfl ?_)); (repeat' ((conv => whnf); (first | ((with_reducible refine spl (fun hc => ?_) (fun hc => ?_)) <;> (try (exfalso; omega))) | ((with_reducible refine spl' (fun hc => ?_) (fun hc => ?_)) <;> (try (exfalso; omega))) | (with_reducible refine imp_intro (fun hc => ?_)) | refine vcq (k := ?_) | refine dr 7 (k := ?_) | fail))); (all_goals (try (conv => whnf))); (all_goals (try (with_reducible exact trivial)))))
  · unfold rdRes
    rw [if_pos hc]
    refine ⟨_, rfl, ?_⟩
    (repeat' ((conv => whnf); (first | ((with_reducible refine spl (fun hc => ?_) (fun hc => ?_)) <;> (try (exfalso; omega))) | ((with_reducible refine spl' (fun hc => ?_) (fun hc => ?_)) <;> (try (exfalso; omega))) | (with_reducible refine imp_intro (fun hc => ?_)) | refine vcq (k := ?_) | refine dr 7 (k := ?_) | fail))); (all_goals (try (conv => whnf))); (all_goals (try (with_reducible exact trivial)))
  · have hz := Classical.not_not.1 hc
    obtain ⟨hb, h1, h2⟩ := chk_ok hz
    have ho := (run_ok hb h2.inB).1
    have hln := ho.len
    have hC := hb.C
    have hNb := N_bounds hb
    have hfs := findW_spec (n := n) (St.run b l).cch
    have hla := fun k hk => look_getD ho.asc (i := k) hk
    unfold rdRes
    rw [if_neg hc]
    (repeat' ((conv => whnf); (first | ((with_reducible refine spl (fun hc => ?_) (fun hc => ?_)) <;> (try (exfalso; omega))) | ((with_reducible refine spl' (fun hc => ?_) (fun hc => ?_)) <;> (try (exfalso; omega))) | (with_reducible refine imp_intro (fun hc => ?_)) | refine vcq (k := ?_) | refine dr 7 (k := ?_) | fail))); (all_goals (try (conv => whnf))); (all_goals (try (with_reducible exact trivial))); (repeat' ((first | (refine callee_fo (isBlock12 b hb n) rfl ?_; rintro _ rfl) | (refine pcall_intro (isBlock12 b hb n) rfl ?_) | (refine pcall_soft (fun _ => isBlock12 b hb n) rfl ?_)); (repeat' ((conv => whnf); (first | ((with_reducible refine spl (fun hc => ?_) (fun hc => ?_)) <;> (try (exfalso; omega))) | ((with_reducible refine spl' (fun hc => ?_) (fun hc => ?_)) <;> (try (exfalso; omega))) | (with_reducible refine imp_intro (fun hc => ?_)) | refine vcq (k := ?_) | refine dr 7 (k := ?_) | fail))); (all_goals (try (conv => whnf))); (all_goals (try (with_reducible exact trivial)))))
    · rw [if_pos hc]
      refine ⟨_, rfl, ?_⟩
      (repeat' ((conv => whnf); (first | ((with_reducible refine spl (fun hc => ?_) (fun hc => ?_)) <;> (try (exfalso; omega))) | ((with_reducible refine spl' (fun hc => ?_) (fun hc => ?_)) <;> (try (exfalso; omega))) | (with_reducible refine imp_intro (fun hc => ?_)) | refine vcq (k := ?_) | refine dr 7 (k := ?_) | fail))); (all_goals (try (conv => whnf))); (all_goals (try (with_reducible exact trivial)))
    · have hn := Classical.not_not.1 hc
      rw [if_neg hc]
      have hrd : (St.run b l).read n = if n ∈ (St.run b l).keys then look (St.run b l).cch n else (St.run b l).med n.toNat := rfl
      (repeat' ((conv => whnf); (first | ((with_reducible refine spl (fun hc => ?_) (fun hc => ?_)) <;> (try (exfalso; omega))) | ((with_reducible refine spl' (fun hc => ?_) (fun hc => ?_)) <;> (try (exfalso; omega))) | (with_reducible refine imp_intro (fun hc => ?_)) | refine vcq (k := ?_) | refine dr 7 (k := ?_) | fail))); (all_goals (try (conv => whnf))); (all_goals (try (with_reducible exact trivial))); (repeat' ((first | (refine callee_fo (play43 b hb l hl h2.inB) rfl ?_; rintro _ rfl) | (refine pcall_intro (play43 b hb l hl h2.inB) rfl ?_) | (refine pcall_soft (fun _ => play43 b hb l hl h2.inB) rfl ?_)); (repeat' ((conv => whnf); (first | ((with_reducible refine spl (fun hc => ?_) (fun hc => ?_)) <;> (try (exfalso; omega))) | ((with_reducible refine spl' (fun hc => ?_) (fun hc => ?_)) <;> (try (exfalso; omega))) | (with_reducible refine imp_intro (fun hc => ?_)) | refine vcq (k := ?_) | refine dr 7 (k := ?_) | fail))); (all_goals (try (conv => whnf))); (all_goals (try (with_reducible exact trivial)))))
      refine callee_fo (find19 (St.run b l).cch (by omega) n) rfl ?_
      rintro _ rfl
      (repeat' ((conv => whnf); (first | ((with_reducible refine spl (fun hc => ?_) (fun hc => ?_)) <;> (try (exfalso; omega))) | ((with_reducible refine spl' (fun hc => ?_) (fun hc => ?_)) <;> (try (exfalso; omega))) | (with_reducible refine imp_intro (fun hc => ?_)) | refine vcq (k := ?_) | refine dr 7 (k := ?_) | fail))); (all_goals (try (conv => whnf))); (all_goals (try (with_reducible exact trivial)))
      · rcases hfs with ⟨g1, g2⟩ | ⟨g1, g2, g3, g4⟩
        · omega
        · have := hla _ (show (findW (St.run b l).cch n).toNat < _ by omega)
          rw [g3] at this
          have g4 : n ∈ (St.run b l).keys := g4
          rw [hrd, if_pos g4, this]
          refine ⟨_, rfl, ?_⟩
          (repeat' ((conv => whnf); (first | ((with_reducible refine spl (fun hc => ?_) (fun hc => ?_)) <;> (try (exfalso; omega))) | ((with_reducible refine spl' (fun hc => ?_) (fun hc => ?_)) <;> (try (exfalso; omega))) | (with_reducible refine imp_intro (fun hc => ?_)) | refine vcq (k := ?_) | refine dr 7 (k := ?_) | fail))); (all_goals (try (conv => whnf))); (all_goals (try (with_reducible exact trivial)))
      · rcases hfs with ⟨g1, g2⟩ | ⟨g1, g2, g3, g4⟩
        · have g2 : ¬ n ∈ (St.run b l).keys := g2
          rw [hrd, if_neg g2]
          refine ⟨_, rfl, ?_⟩
          (repeat' ((conv => whnf); (first | ((with_reducible refine spl (fun hc => ?_) (fun hc => ?_)) <;> (try (exfalso; omega))) | ((with_reducible refine spl' (fun hc => ?_) (fun hc => ?_)) <;> (try (exfalso; omega))) | (with_reducible refine imp_intro (fun hc => ?_)) | refine vcq (k := ?_) | refine dr 7 (k := ?_) | fail))); (all_goals (try (conv => whnf))); (all_goals (try (with_reducible exact trivial)))
        · omega

theorem due32 (b : Bands) (l : List (Int × Int)) (hl : l.length ≤ 8000) : PureC Try.prog 32 true [b.v, .sl 2 l.length (rowOf wC (0, 0) l)] (· = .tup [.sl 1 (resB b l) (fun j => [.int .i64 (b.L - (resR b l).cnt j)]), .int .i64 (chk b l)]) := by
  refine pureC_of_exec Try.E_ok Try.func32 rfl (by kernel_rfl) ?_
  (repeat' ((conv => whnf); (first | ((with_reducible refine spl (fun hc => ?_) (fun hc => ?_)) <;> (try (exfalso; omega))) | ((with_reducible refine spl' (fun hc => ?_) (fun hc => ?_)) <;> (try (exfalso; omega))) | (with_reducible refine imp_intro (fun hc => ?_)) | refine vcq (k := ?_) | refine dr 10 (k := ?_) | fail))); (all_goals (try (conv => whnf))); (all_goals (try (with_reducible exact trivial))); (repeat' ((first | (refine callee_fo (check29 b l hl) rfl ?_; rintro _ rfl) | (refine pcall_intro (check29 b l hl) rfl ?_) | (refine pcall_soft (fun _ => check29 b l hl) rfl ?_)); (repeat' ((conv => whnf); (first | ((with_reducible refine spl (fun hc => ?_) (fun hc => ?_)) <;> (try (exfalso; omega))) | ((with_reducible refine spl' (fun hc => ?_) (fun hc => ?_)) <;> (try (exfalso; omega))) | (with_reducible refine imp_intro (fun hc => ?_)) | refine vcq (k := ?_) | refine dr 10 (k := ?_) | fail))); (all_goals (try (conv => whnf))); (all_goals (try (with_reducible exact trivial)))))
  · unfold resB resR
    rw [if_neg hc, if_neg hc]
    refine ⟨_, rfl, ?_⟩
    (repeat' ((conv => whnf); (first | ((with_reducible refine spl (fun hc => ?_) (fun hc => ?_)) <;> (try (exfalso; omega))) | ((with_reducible refine spl' (fun hc => ?_) (fun hc => ?_)) <;> (try (exfalso; omega))) | (with_reducible refine imp_intro (fun hc => ?_)) | refine vcq (k := ?_) | refine dr 10 (k := ?_) | fail))); (all_goals (try (conv => whnf))); (all_goals (try (with_reducible exact trivial)))
  · have hz := Classical.not_not.1 hc
    obtain ⟨hb, h1, h2⟩ := chk_ok hz
    obtain ⟨o1, o2⟩ := run_ok hb h2.inB
    have hB := hb.B
    have hL := hb.L
    unfold resB resR
    rw [if_pos hz, if_pos hz]
    (repeat' ((conv => whnf); (first | ((with_reducible refine spl (fun hc => ?_) (fun hc => ?_)) <;> (try (exfalso; omega))) | ((with_reducible refine spl' (fun hc => ?_) (fun hc => ?_)) <;> (try (exfalso; omega))) | (with_reducible refine imp_intro (fun hc => ?_)) | refine vcq (k := ?_) | refine dr 10 (k := ?_) | fail))); (all_goals (try (conv => whnf))); (all_goals (try (with_reducible exact trivial))); (repeat' ((first | (refine callee_fo (play43 b hb l hl h2.inB) rfl ?_; rintro _ rfl) | (refine pcall_intro (play43 b hb l hl h2.inB) rfl ?_) | (refine pcall_soft (fun _ => play43 b hb l hl h2.inB) rfl ?_)); (repeat' ((conv => whnf); (first | ((with_reducible refine spl (fun hc => ?_) (fun hc => ?_)) <;> (try (exfalso; omega))) | ((with_reducible refine spl' (fun hc => ?_) (fun hc => ?_)) <;> (try (exfalso; omega))) | (with_reducible refine imp_intro (fun hc => ?_)) | refine vcq (k := ?_) | refine dr 10 (k := ?_) | fail))); (all_goals (try (conv => whnf))); (all_goals (try (with_reducible exact trivial)))))
    refine ⟨Nat, fun i => i ≤ b.B.toNat, fun i => b.B.toNat - i, fun i => [(9, .int .i64 i), (8, .osl 2 i)], fun _ => [], fun i => [.row 3 1 i (fun j => [.int .i64 (b.L - (St.run b l).cnt j)]) true], 0, ⟨by omega, some [some 0, some 1, none], ?_⟩, ?_⟩
    · (repeat' ((conv => whnf); (first | ((with_reducible refine spl (fun hc => ?_) (fun hc => ?_)) <;> (try (exfalso; omega))) | ((with_reducible refine spl' (fun hc => ?_) (fun hc => ?_)) <;> (try (exfalso; omega))) | (with_reducible refine imp_intro (fun hc => ?_)) | refine vcq (k := ?_) | refine dr 10 (k := ?_) | fail))); (all_goals (try (conv => whnf))); (all_goals (try (with_reducible exact trivial)))
    · intro i hi
      have hci := o1.cnt ((i : Int).toNat)
      have hti : (i : Int).toNat = i := Int.toNat_natCast i
      (repeat' ((conv => whnf); (first | ((with_reducible refine spl (fun hc => ?_) (fun hc => ?_)) <;> (try (exfalso; omega))) | ((with_reducible refine spl' (fun hc => ?_) (fun hc => ?_)) <;> (try (exfalso; omega))) | (with_reducible refine imp_intro (fun hc => ?_)) | refine vcq (k := ?_) | refine dr 10 (k := ?_) | fail))); (all_goals (try (conv => whnf))); (all_goals (try (with_reducible exact trivial)))
      · refine ⟨i + 1, ⟨by omega, by dsimp only; omega⟩, some [some 0, some 1, some 4], ?_⟩
        (repeat' ((conv => whnf); (first | ((with_reducible refine spl (fun hc => ?_) (fun hc => ?_)) <;> (try (exfalso; omega))) | ((with_reducible refine spl' (fun hc => ?_) (fun hc => ?_)) <;> (try (exfalso; omega))) | (with_reducible refine imp_intro (fun hc => ?_)) | refine vcq (k := ?_) | refine dr 10 (k := ?_) | fail))); (all_goals (try (conv => whnf))); (all_goals (try (with_reducible exact trivial)))
        refine ⟨appF_snoc (fun _ _ => rfl) (by rw [hti]), ?_⟩
        (repeat' ((conv => whnf); (first | ((with_reducible refine spl (fun hc => ?_) (fun hc => ?_)) <;> (try (exfalso; omega))) | ((with_reducible refine spl' (fun hc => ?_) (fun hc => ?_)) <;> (try (exfalso; omega))) | (with_reducible refine imp_intro (fun hc => ?_)) | refine vcq (k := ?_) | refine dr 10 (k := ?_) | fail))); (all_goals (try (conv => whnf))); (all_goals (try (with_reducible exact trivial)))
      · obtain rfl : i = b.B.toNat := by omega
        refine ⟨_, rfl, ?_⟩
        (repeat' ((conv => whnf); (first | ((with_reducible refine spl (fun hc => ?_) (fun hc => ?_)) <;> (try (exfalso; omega))) | ((with_reducible refine spl' (fun hc => ?_) (fun hc => ?_)) <;> (try (exfalso; omega))) | (with_reducible refine imp_intro (fun hc => ?_)) | refine vcq (k := ?_) | refine dr 10 (k := ?_) | fail))); (all_goals (try (conv => whnf))); (all_goals (try (with_reducible exact trivial)))

theorem price26 (b : Bands) (l : List (Int × Int)) (hl : l.length ≤ 8000) (n : Int) : PureC Try.prog 26 true [b.v, .sl 2 l.length (rowOf wC (0, 0) l), .int .i64 n] (· = .tup [.int .i64 (if chk b l = 0 ∧ 0 ≤ n ∧ n < b.N then ((St.run b l).write b (n, 0)).cost - (St.run b l).cost else 0), .int .i64 (if chk b l = 0 then (if 0 ≤ n ∧ n < b.N then 0 else 1) else chk b l)]) := by
  refine pureC_of_exec Try.E_ok Try.func26 rfl (by kernel_rfl) ?_
  (repeat' ((conv => whnf); (first | ((with_reducible refine spl (fun hc => ?_) (fun hc => ?_)) <;> (try (exfalso; omega))) | ((with_reducible refine spl' (fun hc => ?_) (fun hc => ?_)) <;> (try (exfalso; omega))) | (with_reducible refine imp_intro (fun hc => ?_)) | refine vcq (k := ?_) | refine dr 10 (k := ?_) | fail))); (all_goals (try (conv => whnf))); (all_goals (try (with_reducible exact trivial))); (repeat' ((first | (refine callee_fo (check29 b l hl) rfl ?_; rintro _ rfl) | (refine pcall_intro (check29 b l hl) rfl ?_) | (refine pcall_soft (fun _ => check29 b l hl) rfl ?_)); (repeat' ((conv => whnf); (first | ((with_reducible refine spl (fun hc => ?_) (fun hc => ?_)) <;> (try (exfalso; omega))) | ((with_reducible refine spl' (fun hc => ?_) (fun hc => ?_)) <;> (try (exfalso; omega))) | (with_reducible refine imp_intro (fun hc => ?_)) | refine vcq (k := ?_) | refine dr 10 (k := ?_) | fail))); (all_goals (try (conv => whnf))); (all_goals (try (with_reducible exact trivial)))))
  · rw [if_neg (fun h => hc h.1), if_neg hc]
    refine ⟨_, rfl, ?_⟩
    (repeat' ((conv => whnf); (first | ((with_reducible refine spl (fun hc => ?_) (fun hc => ?_)) <;> (try (exfalso; omega))) | ((with_reducible refine spl' (fun hc => ?_) (fun hc => ?_)) <;> (try (exfalso; omega))) | (with_reducible refine imp_intro (fun hc => ?_)) | refine vcq (k := ?_) | refine dr 10 (k := ?_) | fail))); (all_goals (try (conv => whnf))); (all_goals (try (with_reducible exact trivial)))
  · have hz := Classical.not_not.1 hc
    obtain ⟨hb, h1, h2⟩ := chk_ok hz
    obtain ⟨o1, o2⟩ := run_ok hb h2.inB
    rw [if_pos hz]
    (repeat' ((conv => whnf); (first | ((with_reducible refine spl (fun hc => ?_) (fun hc => ?_)) <;> (try (exfalso; omega))) | ((with_reducible refine spl' (fun hc => ?_) (fun hc => ?_)) <;> (try (exfalso; omega))) | (with_reducible refine imp_intro (fun hc => ?_)) | refine vcq (k := ?_) | refine dr 10 (k := ?_) | fail))); (all_goals (try (conv => whnf))); (all_goals (try (with_reducible exact trivial))); (repeat' ((first | (refine callee_fo (isBlock12 b hb n) rfl ?_; rintro _ rfl) | (refine pcall_intro (isBlock12 b hb n) rfl ?_) | (refine pcall_soft (fun _ => isBlock12 b hb n) rfl ?_)); (repeat' ((conv => whnf); (first | ((with_reducible refine spl (fun hc => ?_) (fun hc => ?_)) <;> (try (exfalso; omega))) | ((with_reducible refine spl' (fun hc => ?_) (fun hc => ?_)) <;> (try (exfalso; omega))) | (with_reducible refine imp_intro (fun hc => ?_)) | refine vcq (k := ?_) | refine dr 10 (k := ?_) | fail))); (all_goals (try (conv => whnf))); (all_goals (try (with_reducible exact trivial)))))
    · rw [if_neg (fun h => hc h.2), if_neg hc]
      refine ⟨_, rfl, ?_⟩
      (repeat' ((conv => whnf); (first | ((with_reducible refine spl (fun hc => ?_) (fun hc => ?_)) <;> (try (exfalso; omega))) | ((with_reducible refine spl' (fun hc => ?_) (fun hc => ?_)) <;> (try (exfalso; omega))) | (with_reducible refine imp_intro (fun hc => ?_)) | refine vcq (k := ?_) | refine dr 10 (k := ?_) | fail))); (all_goals (try (conv => whnf))); (all_goals (try (with_reducible exact trivial)))
    · have hn := Classical.not_not.1 hc
      rw [if_pos ⟨hz, hn⟩, if_pos hn]
      have q1 := o2.1
      have q2 := o2.2
      have q3 := o2.3
      have q4 := (write_small hb o2 (w := (n, 0))).1
      (repeat' ((conv => whnf); (first | ((with_reducible refine spl (fun hc => ?_) (fun hc => ?_)) <;> (try (exfalso; omega))) | ((with_reducible refine spl' (fun hc => ?_) (fun hc => ?_)) <;> (try (exfalso; omega))) | (with_reducible refine imp_intro (fun hc => ?_)) | refine vcq (k := ?_) | refine dr 10 (k := ?_) | fail))); (all_goals (try (conv => whnf))); (all_goals (try (with_reducible exact trivial))); (repeat' ((first | (refine callee_fo (play43 b hb l hl h2.inB) rfl ?_; rintro _ rfl) | (refine pcall_intro (play43 b hb l hl h2.inB) rfl ?_) | (refine pcall_soft (fun _ => play43 b hb l hl h2.inB) rfl ?_) | (refine callee_fo (write45 b hb _ o1 ⟨by omega, by omega, by omega⟩ (n, 0) hn) rfl ?_; rintro _ rfl) | (refine pcall_intro (write45 b hb _ o1 ⟨by omega, by omega, by omega⟩ (n, 0) hn) rfl ?_) | (refine pcall_soft (fun _ => write45 b hb _ o1 ⟨by omega, by omega, by omega⟩ (n, 0) hn) rfl ?_)); (repeat' ((conv => whnf); (first | ((with_reducible refine spl (fun hc => ?_) (fun hc => ?_)) <;> (try (exfalso; omega))) | ((with_reducible refine spl' (fun hc => ?_) (fun hc => ?_)) <;> (try (exfalso; omega))) | (with_reducible refine imp_intro (fun hc => ?_)) | refine vcq (k := ?_) | refine dr 10 (k := ?_) | fail))); (all_goals (try (conv => whnf))); (all_goals (try (with_reducible exact trivial)))))
      refine ⟨_, rfl, ?_⟩
      (repeat' ((conv => whnf); (first | ((with_reducible refine spl (fun hc => ?_) (fun hc => ?_)) <;> (try (exfalso; omega))) | ((with_reducible refine spl' (fun hc => ?_) (fun hc => ?_)) <;> (try (exfalso; omega))) | (with_reducible refine imp_intro (fun hc => ?_)) | refine vcq (k := ?_) | refine dr 10 (k := ?_) | fail))); (all_goals (try (conv => whnf))); (all_goals (try (with_reducible exact trivial)))

/-- all bands, one by one -/
theorem flush_bands {b : Bands} {ks : List Int} : ∀ (is : List Nat) (s : St), is.Pairwise (· < ·) → (∀ i ∈ is, b.slots i s.keys = b.slots i ks) →
    is.foldl (fun s (i : Nat) => if b.slots i s.keys = 0 then s else s.clean b (i : Int)) s = ((is.map (b.jobOf ks)).filter Job.has).foldl (fun s j => s.clean b j.1) s
  | [], _, _, _ => rfl
  | i :: is, s, hp, h => by
    have h1 := List.pairwise_cons.1 hp
    rw [List.foldl_cons, List.map_cons, h i List.mem_cons_self]
    by_cases hz : b.slots i ks = 0
    · rw [if_pos hz, List.filter_cons_of_neg (by rw [has_jobOf]; simp [hz])]
      exact flush_bands is s h1.2 (fun j hj => h j (List.mem_cons_of_mem _ hj))
    · rw [if_neg hz, List.filter_cons_of_pos (has_jobOf.2 hz), List.foldl_cons, jobOf_fst hz]
      refine flush_bands is _ h1.2 (fun j hj => ?_)
      rw [clean_keys, slots_filter (by have := h1.1 j hj; omega)]
      exact h j (List.mem_cons_of_mem _ hj)

def St.flushTo (b : Bands) (s : St) (n : Nat) : St := (List.range n).foldl (fun s (i : Nat) => if b.slots i s.keys = 0 then s else s.clean b (i : Int)) s

theorem flushTo_all {b : Bands} {s : St} : s.flushTo b b.B.toNat = s.flush b :=
  flush_bands (ks := s.keys) _ s List.pairwise_lt_range (fun _ _ => rfl)

theorem flushTo_succ {b : Bands} {s : St} {n : Nat} : s.flushTo b (n + 1) = if b.slots n (s.flushTo b n).keys = 0 then s.flushTo b n else (s.flushTo b n).clean b (n : Int) := range_foldl_succ

theorem flushTo_ok {b : Bands} (hb : b.Ok) {s : St} {m : Int} (h1 : s.Ok b) (h2 : s.Small m) : ∀ n : Nat, (s.flushTo b n).Ok b ∧ (s.flushTo b n).Small (m + n)
  | 0 => ⟨h1, by simpa [St.flushTo] using h2⟩
  | n + 1 => by
    obtain ⟨g1, g2⟩ := flushTo_ok hb h1 h2 n
    rw [flushTo_succ]
    split
    · refine ⟨g1, ?_⟩
      obtain ⟨c1, c2, c3⟩ := g2
      exact ⟨by omega, by omega, by omega⟩
    · refine ⟨clean_ok hb g1 _, ?_⟩
      have := clean_small hb g2 (n : Int)
      rw [show m + ((n + 1 : Nat) : Int) = m + n + 1 by omega]
      exact this

theorem flush33 (b : Bands) (l : List (Int × Int)) (hl : l.length ≤ 8000) : PureC Try.prog 33 true [b.v, .sl 2 l.length (rowOf wC (0, 0) l)] (· = .tup [stV (resN b l) (resB b l) (resF b l), .int .i64 (chk b l)]) := by
  refine pureC_of_exec Try.E_ok Try.func33 rfl (by kernel_rfl) ?_
  (repeat' ((conv => whnf); (first | ((with_reducible refine spl (fun hc => ?_) (fun hc => ?_)) <;> (try (exfalso; omega))) | ((with_reducible refine spl' (fun hc => ?_) (fun hc => ?_)) <;> (try (exfalso; omega))) | (with_reducible refine imp_intro (fun hc => ?_)) | refine vcq (k := ?_) | refine dr 10 (k := ?_) | fail))); (all_goals (try (conv => whnf))); (all_goals (try (with_reducible exact trivial))); (repeat' ((first | (refine callee_fo (check29 b l hl) rfl ?_; rintro _ rfl) | (refine pcall_intro (check29 b l hl) rfl ?_) | (refine pcall_soft (fun _ => check29 b l hl) rfl ?_)); (repeat' ((conv => whnf); (first | ((with_reducible refine spl (fun hc => ?_) (fun hc => ?_)) <;> (try (exfalso; omega))) | ((with_reducible refine spl' (fun hc => ?_) (fun hc => ?_)) <;> (try (exfalso; omega))) | (with_reducible refine imp_intro (fun hc => ?_)) | refine vcq (k := ?_) | refine dr 10 (k := ?_) | fail))); (all_goals (try (conv => whnf))); (all_goals (try (with_reducible exact trivial)))))
  · unfold resN resB resF
    rw [if_neg hc, if_neg hc, if_neg hc]
    refine ⟨_, rfl, ?_⟩
    (repeat' ((conv => whnf); (first | ((with_reducible refine spl (fun hc => ?_) (fun hc => ?_)) <;> (try (exfalso; omega))) | ((with_reducible refine spl' (fun hc => ?_) (fun hc => ?_)) <;> (try (exfalso; omega))) | (with_reducible refine imp_intro (fun hc => ?_)) | refine vcq (k := ?_) | refine dr 10 (k := ?_) | fail))); (all_goals (try (conv => whnf))); (all_goals (try (with_reducible exact trivial)))
  · have hz := Classical.not_not.1 hc
    obtain ⟨hb, h1, h2⟩ := chk_ok hz
    obtain ⟨o1, o2⟩ := run_ok hb h2.inB
    have hB := hb.B
    have hC := hb.C
    unfold resN resB resF
    rw [if_pos hz, if_pos hz, if_pos hz]
    have hfo := fun i => flushTo_ok hb o1 o2 i
    have hfs := fun i => flushTo_succ (b := b) (s := St.run b l) (n := i)
    (repeat' ((conv => whnf); (first | ((with_reducible refine spl (fun hc => ?_) (fun hc => ?_)) <;> (try (exfalso; omega))) | ((with_reducible refine spl' (fun hc => ?_) (fun hc => ?_)) <;> (try (exfalso; omega))) | (with_reducible refine imp_intro (fun hc => ?_)) | refine vcq (k := ?_) | refine dr 10 (k := ?_) | fail))); (all_goals (try (conv => whnf))); (all_goals (try (with_reducible exact trivial))); (repeat' ((first | (refine callee_fo (play43 b hb l hl h2.inB) rfl ?_; rintro _ rfl) | (refine pcall_intro (play43 b hb l hl h2.inB) rfl ?_) | (refine pcall_soft (fun _ => play43 b hb l hl h2.inB) rfl ?_)); (repeat' ((conv => whnf); (first | ((with_reducible refine spl (fun hc => ?_) (fun hc => ?_)) <;> (try (exfalso; omega))) | ((with_reducible refine spl' (fun hc => ?_) (fun hc => ?_)) <;> (try (exfalso; omega))) | (with_reducible refine imp_intro (fun hc => ?_)) | refine vcq (k := ?_) | refine dr 10 (k := ?_) | fail))); (all_goals (try (conv => whnf))); (all_goals (try (with_reducible exact trivial)))))
    refine ⟨Nat × St, fun q => q.1 ≤ b.B.toNat ∧ q.2 = (St.run b l).flushTo b q.1, fun q => b.B.toNat - q.1, fun q => [(8, .int .i64 q.1)], fun q => [(2, .cells 37 [.sl 1 b.N.toNat (fun j => [.int .i64 (q.2.med j)]), .sl 2 q.2.cch.length (rowOf wC (0, 0) q.2.cch), .sl 1 b.B.toNat (fun j => [.int .i64 (q.2.cnt j)]), .int .i64 q.2.cost, .int .i64 q.2.cleaned, .int .i64 q.2.refreshed])], fun _ => [], (0, St.run b l), ⟨⟨by simp, rfl⟩, some [some 0, some 1, some 2], ?_⟩, ?_⟩
    · (repeat' ((conv => whnf); (first | ((with_reducible refine spl (fun hc => ?_) (fun hc => ?_)) <;> (try (exfalso; omega))) | ((with_reducible refine spl' (fun hc => ?_) (fun hc => ?_)) <;> (try (exfalso; omega))) | (with_reducible refine imp_intro (fun hc => ?_)) | refine vcq (k := ?_) | refine dr 10 (k := ?_) | fail))); (all_goals (try (conv => whnf))); (all_goals (try (with_reducible exact trivial)))
    · rintro ⟨i, s⟩ ⟨hi, hs⟩
      dsimp only at hi hs
      obtain ⟨g1, g2⟩ := hfo i
      have g3 := hfs i
      rw [← hs] at g1 g2 g3
      have hln := g1.len
      have hsn := slots_nonneg (b := b) i s.keys
      have hks : ksOf s.cch = s.keys := rfl
      have hco := costOf42 b hb s.cch (by omega) g1.blk i
      rw [hks] at hco
      by_cases hlt : i < b.B.toNat
      · have hcl := clean48 b hb s g1 ⟨by have := g2.1; omega, by have := g2.2; omega, by have := g2.3; omega⟩ i (by omega)
        (repeat' ((conv => whnf); (first | ((with_reducible refine spl (fun hc => ?_) (fun hc => ?_)) <;> (try (exfalso; omega))) | ((with_reducible refine spl' (fun hc => ?_) (fun hc => ?_)) <;> (try (exfalso; omega))) | (with_reducible refine imp_intro (fun hc => ?_)) | refine vcq (k := ?_) | refine dr 10 (k := ?_) | fail))); (all_goals (try (conv => whnf))); (all_goals (try (with_reducible exact trivial))); (repeat' ((first | (refine callee_fo (hco) rfl ?_; rintro _ rfl) | (refine pcall_intro (hco) rfl ?_) | (refine pcall_soft (fun _ => hco) rfl ?_) | (refine callee_fo (hcl) rfl ?_; rintro _ rfl) | (refine pcall_intro (hcl) rfl ?_) | (refine pcall_soft (fun _ => hcl) rfl ?_)); (repeat' ((conv => whnf); (first | ((with_reducible refine spl (fun hc => ?_) (fun hc => ?_)) <;> (try (exfalso; omega))) | ((with_reducible refine spl' (fun hc => ?_) (fun hc => ?_)) <;> (try (exfalso; omega))) | (with_reducible refine imp_intro (fun hc => ?_)) | refine vcq (k := ?_) | refine dr 10 (k := ?_) | fail))); (all_goals (try (conv => whnf))); (all_goals (try (with_reducible exact trivial)))))
        · refine ⟨(i + 1, s.clean b (i : Int)), ⟨⟨by dsimp only; omega, ?_⟩, by dsimp only; omega⟩, some [some 0, some 1, some 2], ?_⟩
          · dsimp only
            rw [g3, if_neg (by omega)]
          · (repeat' ((conv => whnf); (first | ((with_reducible refine spl (fun hc => ?_) (fun hc => ?_)) <;> (try (exfalso; omega))) | ((with_reducible refine spl' (fun hc => ?_) (fun hc => ?_)) <;> (try (exfalso; omega))) | (with_reducible refine imp_intro (fun hc => ?_)) | refine vcq (k := ?_) | refine dr 10 (k := ?_) | fail))); (all_goals (try (conv => whnf))); (all_goals (try (with_reducible exact trivial)))
        · refine ⟨(i + 1, s), ⟨⟨by dsimp only; omega, ?_⟩, by dsimp only; omega⟩, some [some 0, some 1, some 2], ?_⟩
          · dsimp only
            rw [g3, if_pos (by omega)]
          · (repeat' ((conv => whnf); (first | ((with_reducible refine spl (fun hc => ?_) (fun hc => ?_)) <;> (try (exfalso; omega))) | ((with_reducible refine spl' (fun hc => ?_) (fun hc => ?_)) <;> (try (exfalso; omega))) | (with_reducible refine imp_intro (fun hc => ?_)) | refine vcq (k := ?_) | refine dr 10 (k := ?_) | fail))); (all_goals (try (conv => whnf))); (all_goals (try (with_reducible exact trivial)))
      · obtain rfl : i = b.B.toNat := by omega
        rw [flushTo_all] at hs
        rw [← hs]
        (repeat' ((conv => whnf); (first | ((with_reducible refine spl (fun hc => ?_) (fun hc => ?_)) <;> (try (exfalso; omega))) | ((with_reducible refine spl' (fun hc => ?_) (fun hc => ?_)) <;> (try (exfalso; omega))) | (with_reducible refine imp_intro (fun hc => ?_)) | refine vcq (k := ?_) | refine dr 10 (k := ?_) | fail))); (all_goals (try (conv => whnf))); (all_goals (try (with_reducible exact trivial)))
        refine ⟨_, rfl, ?_⟩
        (repeat' ((conv => whnf); (first | ((with_reducible refine spl (fun hc => ?_) (fun hc => ?_)) <;> (try (exfalso; omega))) | ((with_reducible refine spl' (fun hc => ?_) (fun hc => ?_)) <;> (try (exfalso; omega))) | (with_reducible refine imp_intro (fun hc => ?_)) | refine vcq (k := ?_) | refine dr 10 (k := ?_) | fail))); (all_goals (try (conv => whnf))); (all_goals (try (with_reducible exact trivial)))
end Go.Proofs

namespace Go.Proofs
open Go Go.Sx
set_option maxRecDepth 100000
set_option maxHeartbeats 4000000
-- SxAid2

theorem clean27 (b : Bands) (l : List (Int × Int)) (hl : l.length ≤ 8000) (need : Int) : PureC Try.prog 27 true [b.v, .sl 2 l.length (rowOf wC (0, 0) l), .int .i64 need] (· = .tup [.int .i64 (clRes b l need).1, .int .i64 (clRes b l need).2.1, .int .i64 (clRes b l need).2.2]) := by
  refine pureC_of_exec Try.E_ok Try.func27 rfl (by kernel_rfl) ?_
  (repeat' ((conv => whnf); (first | ((with_reducible refine spl (fun hc => ?_) (fun hc => ?_)) <;> (try (exfalso; omega))) | ((with_reducible refine spl' (fun hc => ?_) (fun hc => ?_)) <;> (try (exfalso; omega))) | (with_reducible refine imp_intro (fun hc => ?_)) | refine vcq (k := ?_) | refine dr 1 (k := ?_) | refine dr 2 (k := ?_) | refine dr 3 (k := ?_) | refine dr 4 (k := ?_) | refine dr 5 (k := ?_) | refine dr 6 (k := ?_) | refine dr 7 (k := ?_) | refine dr 8 (k := ?_) | refine dr 9 (k := ?_) | refine dr 10 (k := ?_) | refine dr 11 (k := ?_) | refine dr 12 (k := ?_) | refine dr 1001 (k := ?_) | refine dr 1002 (k := ?_) | refine dr 1003 (k := ?_) | refine dr 1004 (k := ?_) | refine dr 1005 (k := ?_) | refine dr 1006 (k := ?_) | refine dr 1007 (k := ?_) | refine dr 1008 (k := ?_) | refine dr 1009 (k := ?_) | refine dr 1010 (k := ?_) | refine dr 1011 (k := ?_) | refine dr 1012 (k := ?_) | refine dr 1013 (k := ?_) | refine dr 1014 (k := ?_) | refine dr 1015 (k := ?_) | refine dr 1016 (k := ?_) | fail))); (all_goals (try (conv => whnf))); (all_goals (try (with_reducible exact trivial))); (repeat' ((first | (refine callee_fo (check29 b l hl) rfl ?_; rintro _ rfl) | (refine pcall_intro (check29 b l hl) rfl ?_) | (refine pcall_soft (fun _ => check29 b l hl) rfl ?_) | (refine callee_fo (within35 need 0 b.C) rfl ?_; rintro _ rfl) | (refine pcall_intro (within35 need 0 b.C) rfl ?_) | (refine pcall_soft (fun _ => within35 need 0 b.C) rfl ?_)); (repeat' ((conv => whnf); (first | ((with_reducible refine spl (fun hc => ?_) (fun hc => ?_)) <;> (try (exfalso; omega))) | ((with_reducible refine spl' (fun hc => ?_) (fun hc => ?_)) <;> (try (exfalso; omega))) | (with_reducible refine imp_intro (fun hc => ?_)) | refine vcq (k := ?_) | refine dr 1 (k := ?_) | refine dr 2 (k := ?_) | refine dr 3 (k := ?_) | refine dr 4 (k := ?_) | refine dr 5 (k := ?_) | refine dr 6 (k := ?_) | refine dr 7 (k := ?_) | refine dr 8 (k := ?_) | refine dr 9 (k := ?_) | refine dr 10 (k := ?_) | refine dr 11 (k := ?_) | refine dr 12 (k := ?_) | refine dr 1001 (k := ?_) | refine dr 1002 (k := ?_) | refine dr 1003 (k := ?_) | refine dr 1004 (k := ?_) | refine dr 1005 (k := ?_) | refine dr 1006 (k := ?_) | refine dr 1007 (k := ?_) | refine dr 1008 (k := ?_) | refine dr 1009 (k := ?_) | refine dr 1010 (k := ?_) | refine dr 1011 (k := ?_) | refine dr 1012 (k := ?_) | refine dr 1013 (k := ?_) | refine dr 1014 (k := ?_) | refine dr 1015 (k := ?_) | refine dr 1016 (k := ?_) | fail))); (all_goals (try (conv => whnf))); (all_goals (try (with_reducible exact trivial)))))
  · have e : clRes b l need = (0, 0, chk b l) := by unfold clRes; rw [if_pos hc]
    rw [e]
    refine ⟨_, rfl, ?_⟩
    (repeat' ((conv => whnf); (first | ((with_reducible refine spl (fun hc => ?_) (fun hc => ?_)) <;> (try (exfalso; omega))) | ((with_reducible refine spl' (fun hc => ?_) (fun hc => ?_)) <;> (try (exfalso; omega))) | (with_reducible refine imp_intro (fun hc => ?_)) | refine vcq (k := ?_) | refine dr 1 (k := ?_) | refine dr 2 (k := ?_) | refine dr 3 (k := ?_) | refine dr 4 (k := ?_) | refine dr 5 (k := ?_) | refine dr 6 (k := ?_) | refine dr 7 (k := ?_) | refine dr 8 (k := ?_) | refine dr 9 (k := ?_) | refine dr 10 (k := ?_) | refine dr 11 (k := ?_) | refine dr 12 (k := ?_) | refine dr 1001 (k := ?_) | refine dr 1002 (k := ?_) | refine dr 1003 (k := ?_) | refine dr 1004 (k := ?_) | refine dr 1005 (k := ?_) | refine dr 1006 (k := ?_) | refine dr 1007 (k := ?_) | refine dr 1008 (k := ?_) | refine dr 1009 (k := ?_) | refine dr 1010 (k := ?_) | refine dr 1011 (k := ?_) | refine dr 1012 (k := ?_) | refine dr 1013 (k := ?_) | refine dr 1014 (k := ?_) | refine dr 1015 (k := ?_) | refine dr 1016 (k := ?_) | fail))); (all_goals (try (conv => whnf))); (all_goals (try (with_reducible exact trivial)))
  · have e : clRes b l need = (0, 0, 1) := by rename_i hz; unfold clRes; rw [if_neg hz, if_pos (by omega)]
    rw [e]
    refine ⟨_, rfl, ?_⟩
    (repeat' ((conv => whnf); (first | ((with_reducible refine spl (fun hc => ?_) (fun hc => ?_)) <;> (try (exfalso; omega))) | ((with_reducible refine spl' (fun hc => ?_) (fun hc => ?_)) <;> (try (exfalso; omega))) | (with_reducible refine imp_intro (fun hc => ?_)) | refine vcq (k := ?_) | refine dr 1 (k := ?_) | refine dr 2 (k := ?_) | refine dr 3 (k := ?_) | refine dr 4 (k := ?_) | refine dr 5 (k := ?_) | refine dr 6 (k := ?_) | refine dr 7 (k := ?_) | refine dr 8 (k := ?_) | refine dr 9 (k := ?_) | refine dr 10 (k := ?_) | refine dr 11 (k := ?_) | refine dr 12 (k := ?_) | refine dr 1001 (k := ?_) | refine dr 1002 (k := ?_) | refine dr 1003 (k := ?_) | refine dr 1004 (k := ?_) | refine dr 1005 (k := ?_) | refine dr 1006 (k := ?_) | refine dr 1007 (k := ?_) | refine dr 1008 (k := ?_) | refine dr 1009 (k := ?_) | refine dr 1010 (k := ?_) | refine dr 1011 (k := ?_) | refine dr 1012 (k := ?_) | refine dr 1013 (k := ?_) | refine dr 1014 (k := ?_) | refine dr 1015 (k := ?_) | refine dr 1016 (k := ?_) | fail))); (all_goals (try (conv => whnf))); (all_goals (try (with_reducible exact trivial)))
  · rename_i hz0
    have hz := Classical.not_not.1 hz0
    obtain ⟨hb, h1, h2⟩ := chk_ok hz
    obtain ⟨o1, o2⟩ := run_ok hb h2.inB
    have hB := hb.B
    have hC := hb.C
    have e : clRes b l need = ((b.best (St.run b l).keys need).1, (b.best (St.run b l).keys need).2.1, 0) := by unfold clRes; rw [if_neg hz0, if_neg (by omega)]
    rw [e]
    have hpow : 1 ≤ 2 ^ b.B.toNat ∧ 2 ^ b.B.toNat ≤ 64 := ⟨Nat.one_le_two_pow, by
      have : 2 ^ b.B.toNat ≤ 2 ^ 6 := Nat.pow_le_pow_right (by omega) (by omega)
      simpa using this⟩
    have hp2 := (show (1 : Int) * 2 ^ b.B.toNat = ((2 ^ b.B.toNat : Nat) : Int) by simp)
    have hcl2 := o1.len
    have hks : ksOf (St.run b l).cch = (St.run b l).keys := rfl
    have hkl : (St.run b l).keys.length = (St.run b l).cch.length := by simp [St.keys]
    have hca := fun set hs => costOfAll21 b hb (St.run b l).cch (by omega) o1.blk set hs
    rw [hks] at hca
    have hbest : b.best (St.run b l).keys need = (List.range (2 ^ b.B.toNat)).foldl (b.stepSet (St.run b l).keys need) (0, 0, false) := rfl
    have hsb : ∀ y, 0 ≤ b.sumS (St.run b l).keys y b.B.toNat ∧ b.sumS (St.run b l).keys y b.B.toNat ≤ 72 := fun y => by
      have g := sumS_le (b := b) (ks := (St.run b l).keys) (set := y) b.B.toNat
      have g2 : ((St.run b l).keys.length : Int) * (b.B.toNat : Int) ≤ 12 * 6 := Int.mul_le_mul (by omega) (by omega) (by omega) (by omega)
      omega
    generalize hM : 2 ^ b.B.toNat = M at *
    (repeat' ((conv => whnf); (first | ((with_reducible refine spl (fun hc => ?_) (fun hc => ?_)) <;> (try (exfalso; omega))) | ((with_reducible refine spl' (fun hc => ?_) (fun hc => ?_)) <;> (try (exfalso; omega))) | (with_reducible refine imp_intro (fun hc => ?_)) | refine vcq (k := ?_) | refine dr 1 (k := ?_) | refine dr 2 (k := ?_) | refine dr 3 (k := ?_) | refine dr 4 (k := ?_) | refine dr 5 (k := ?_) | refine dr 6 (k := ?_) | refine dr 7 (k := ?_) | refine dr 8 (k := ?_) | refine dr 9 (k := ?_) | refine dr 10 (k := ?_) | refine dr 11 (k := ?_) | refine dr 12 (k := ?_) | refine dr 1001 (k := ?_) | refine dr 1002 (k := ?_) | refine dr 1003 (k := ?_) | refine dr 1004 (k := ?_) | refine dr 1005 (k := ?_) | refine dr 1006 (k := ?_) | refine dr 1007 (k := ?_) | refine dr 1008 (k := ?_) | refine dr 1009 (k := ?_) | refine dr 1010 (k := ?_) | refine dr 1011 (k := ?_) | refine dr 1012 (k := ?_) | refine dr 1013 (k := ?_) | refine dr 1014 (k := ?_) | refine dr 1015 (k := ?_) | refine dr 1016 (k := ?_) | fail))); (all_goals (try (conv => whnf))); (all_goals (try (with_reducible exact trivial))); (repeat' ((first | (refine callee_fo (play43 b hb l hl h2.inB) rfl ?_; rintro _ rfl) | (refine pcall_intro (play43 b hb l hl h2.inB) rfl ?_) | (refine pcall_soft (fun _ => play43 b hb l hl h2.inB) rfl ?_)); (repeat' ((conv => whnf); (first | ((with_reducible refine spl (fun hc => ?_) (fun hc => ?_)) <;> (try (exfalso; omega))) | ((with_reducible refine spl' (fun hc => ?_) (fun hc => ?_)) <;> (try (exfalso; omega))) | (with_reducible refine imp_intro (fun hc => ?_)) | refine vcq (k := ?_) | refine dr 1 (k := ?_) | refine dr 2 (k := ?_) | refine dr 3 (k := ?_) | refine dr 4 (k := ?_) | refine dr 5 (k := ?_) | refine dr 6 (k := ?_) | refine dr 7 (k := ?_) | refine dr 8 (k := ?_) | refine dr 9 (k := ?_) | refine dr 10 (k := ?_) | refine dr 11 (k := ?_) | refine dr 12 (k := ?_) | refine dr 1001 (k := ?_) | refine dr 1002 (k := ?_) | refine dr 1003 (k := ?_) | refine dr 1004 (k := ?_) | refine dr 1005 (k := ?_) | refine dr 1006 (k := ?_) | refine dr 1007 (k := ?_) | refine dr 1008 (k := ?_) | refine dr 1009 (k := ?_) | refine dr 1010 (k := ?_) | refine dr 1011 (k := ?_) | refine dr 1012 (k := ?_) | refine dr 1013 (k := ?_) | refine dr 1014 (k := ?_) | refine dr 1015 (k := ?_) | refine dr 1016 (k := ?_) | fail))); (all_goals (try (conv => whnf))); (all_goals (try (with_reducible exact trivial)))))
    refine ⟨Nat × Int × Int × Bool, fun q => q.1 ≤ M ∧ q.2 = (List.range q.1).foldl (b.stepSet (St.run b l).keys need) (0, 0, false), fun q => M - q.1, fun q => [(12, .int .i64 q.1), (6, .int .i64 q.2.1), (7, .int .i64 q.2.2.1), (11, .prop (q.2.2.2 = true) inferInstance)], fun _ => [], fun _ => [], (0, 0, 0, false), ⟨⟨by simp, rfl⟩, some [some 0, some 1], ?_⟩, ?_⟩
    · (repeat' ((conv => whnf); (first | ((with_reducible refine spl (fun hc => ?_) (fun hc => ?_)) <;> (try (exfalso; omega))) | ((with_reducible refine spl' (fun hc => ?_) (fun hc => ?_)) <;> (try (exfalso; omega))) | (with_reducible refine imp_intro (fun hc => ?_)) | refine vcq (k := ?_) | refine dr 1 (k := ?_) | refine dr 2 (k := ?_) | refine dr 3 (k := ?_) | refine dr 4 (k := ?_) | refine dr 5 (k := ?_) | refine dr 6 (k := ?_) | refine dr 7 (k := ?_) | refine dr 8 (k := ?_) | refine dr 9 (k := ?_) | refine dr 10 (k := ?_) | refine dr 11 (k := ?_) | refine dr 12 (k := ?_) | refine dr 1001 (k := ?_) | refine dr 1002 (k := ?_) | refine dr 1003 (k := ?_) | refine dr 1004 (k := ?_) | refine dr 1005 (k := ?_) | refine dr 1006 (k := ?_) | refine dr 1007 (k := ?_) | refine dr 1008 (k := ?_) | refine dr 1009 (k := ?_) | refine dr 1010 (k := ?_) | refine dr 1011 (k := ?_) | refine dr 1012 (k := ?_) | refine dr 1013 (k := ?_) | refine dr 1014 (k := ?_) | refine dr 1015 (k := ?_) | refine dr 1016 (k := ?_) | fail))); (all_goals (try (conv => whnf))); (all_goals (try (with_reducible exact trivial)))
      refine ⟨by simp, ?_⟩
      (repeat' ((conv => whnf); (first | ((with_reducible refine spl (fun hc => ?_) (fun hc => ?_)) <;> (try (exfalso; omega))) | ((with_reducible refine spl' (fun hc => ?_) (fun hc => ?_)) <;> (try (exfalso; omega))) | (with_reducible refine imp_intro (fun hc => ?_)) | refine vcq (k := ?_) | refine dr 1 (k := ?_) | refine dr 2 (k := ?_) | refine dr 3 (k := ?_) | refine dr 4 (k := ?_) | refine dr 5 (k := ?_) | refine dr 6 (k := ?_) | refine dr 7 (k := ?_) | refine dr 8 (k := ?_) | refine dr 9 (k := ?_) | refine dr 10 (k := ?_) | refine dr 11 (k := ?_) | refine dr 12 (k := ?_) | refine dr 1001 (k := ?_) | refine dr 1002 (k := ?_) | refine dr 1003 (k := ?_) | refine dr 1004 (k := ?_) | refine dr 1005 (k := ?_) | refine dr 1006 (k := ?_) | refine dr 1007 (k := ?_) | refine dr 1008 (k := ?_) | refine dr 1009 (k := ?_) | refine dr 1010 (k := ?_) | refine dr 1011 (k := ?_) | refine dr 1012 (k := ?_) | refine dr 1013 (k := ?_) | refine dr 1014 (k := ?_) | refine dr 1015 (k := ?_) | refine dr 1016 (k := ?_) | fail))); (all_goals (try (conv => whnf))); (all_goals (try (with_reducible exact trivial)))
    · rintro ⟨set, r1, r2, r3⟩ ⟨q1, q2⟩
      dsimp only at q1 q2
      (repeat' ((conv => whnf); (first | ((with_reducible refine spl (fun hc => ?_) (fun hc => ?_)) <;> (try (exfalso; omega))) | ((with_reducible refine spl' (fun hc => ?_) (fun hc => ?_)) <;> (try (exfalso; omega))) | (with_reducible refine imp_intro (fun hc => ?_)) | refine vcq (k := ?_) | refine dr 1 (k := ?_) | refine dr 2 (k := ?_) | refine dr 3 (k := ?_) | refine dr 4 (k := ?_) | refine dr 5 (k := ?_) | refine dr 6 (k := ?_) | refine dr 7 (k := ?_) | refine dr 8 (k := ?_) | refine dr 9 (k := ?_) | refine dr 10 (k := ?_) | refine dr 11 (k := ?_) | refine dr 12 (k := ?_) | refine dr 1001 (k := ?_) | refine dr 1002 (k := ?_) | refine dr 1003 (k := ?_) | refine dr 1004 (k := ?_) | refine dr 1005 (k := ?_) | refine dr 1006 (k := ?_) | refine dr 1007 (k := ?_) | refine dr 1008 (k := ?_) | refine dr 1009 (k := ?_) | refine dr 1010 (k := ?_) | refine dr 1011 (k := ?_) | refine dr 1012 (k := ?_) | refine dr 1013 (k := ?_) | refine dr 1014 (k := ?_) | refine dr 1015 (k := ?_) | refine dr 1016 (k := ?_) | fail))); (all_goals (try (conv => whnf))); (all_goals (try (with_reducible exact trivial)))
      refine ⟨⟨by show (0 : Int) ≤ b.B; omega, by show (b.B : Int) ≤ 18446744073709551615; omega⟩, ?_⟩
      (repeat' ((conv => whnf); (first | ((with_reducible refine spl (fun hc => ?_) (fun hc => ?_)) <;> (try (exfalso; omega))) | ((with_reducible refine spl' (fun hc => ?_) (fun hc => ?_)) <;> (try (exfalso; omega))) | (with_reducible refine imp_intro (fun hc => ?_)) | refine vcq (k := ?_) | refine dr 1 (k := ?_) | refine dr 2 (k := ?_) | refine dr 3 (k := ?_) | refine dr 4 (k := ?_) | refine dr 5 (k := ?_) | refine dr 6 (k := ?_) | refine dr 7 (k := ?_) | refine dr 8 (k := ?_) | refine dr 9 (k := ?_) | refine dr 10 (k := ?_) | refine dr 11 (k := ?_) | refine dr 12 (k := ?_) | refine dr 1001 (k := ?_) | refine dr 1002 (k := ?_) | refine dr 1003 (k := ?_) | refine dr 1004 (k := ?_) | refine dr 1005 (k := ?_) | refine dr 1006 (k := ?_) | refine dr 1007 (k := ?_) | refine dr 1008 (k := ?_) | refine dr 1009 (k := ?_) | refine dr 1010 (k := ?_) | refine dr 1011 (k := ?_) | refine dr 1012 (k := ?_) | refine dr 1013 (k := ?_) | refine dr 1014 (k := ?_) | refine dr 1015 (k := ?_) | refine dr 1016 (k := ?_) | fail))); (all_goals (try (conv => whnf))); (all_goals (try (with_reducible exact trivial)))
      refine ⟨⟨by omega, by show b.B.toNat ≤ 64; omega, by rw [hp2]; exact inR64 (by omega) (by omega)⟩, ?_⟩
      rw [hp2]
      by_cases hset : set < M
      · have hx := hca set (by omega)
        have hsx := hsb set
        have hfit : b.fitSet (St.run b l).keys need set = true ↔ b.okSet (St.run b l).keys set = true ∧ need ≤ b.C - (St.run b l).keys.length + b.sumS (St.run b l).keys set b.B.toNat := by
          unfold Bands.fitSet
          rw [Bool.and_eq_true, decide_eq_true_eq]
        have hst := range_foldl_succ (f := b.stepSet (St.run b l).keys need) (a := ((0, 0, false) : Int × Int × Bool)) (n := set)
        rw [← q2] at hst
        have hstep : b.stepSet (St.run b l).keys need (r1, r2, r3) set = if b.fitSet (St.run b l).keys need set = true ∧ (r3 = false ∨ b.sumC (St.run b l).keys set b.B.toNat < r2) then ((set : Int), b.sumC (St.run b l).keys set b.B.toNat, true) else (r1, r2, r3) := rfl
        rw [hstep] at hst
        by_cases k1 : b.okSet (St.run b l).keys set = true
        · rw [if_pos k1, if_pos k1] at hx
          (repeat' ((conv => whnf); (first | ((with_reducible refine spl (fun hc => ?_) (fun hc => ?_)) <;> (try (exfalso; omega))) | ((with_reducible refine spl' (fun hc => ?_) (fun hc => ?_)) <;> (try (exfalso; omega))) | (with_reducible refine imp_intro (fun hc => ?_)) | refine vcq (k := ?_) | refine dr 1 (k := ?_) | refine dr 2 (k := ?_) | refine dr 3 (k := ?_) | refine dr 4 (k := ?_) | refine dr 5 (k := ?_) | refine dr 6 (k := ?_) | refine dr 7 (k := ?_) | refine dr 8 (k := ?_) | refine dr 9 (k := ?_) | refine dr 10 (k := ?_) | refine dr 11 (k := ?_) | refine dr 12 (k := ?_) | refine dr 1001 (k := ?_) | refine dr 1002 (k := ?_) | refine dr 1003 (k := ?_) | refine dr 1004 (k := ?_) | refine dr 1005 (k := ?_) | refine dr 1006 (k := ?_) | refine dr 1007 (k := ?_) | refine dr 1008 (k := ?_) | refine dr 1009 (k := ?_) | refine dr 1010 (k := ?_) | refine dr 1011 (k := ?_) | refine dr 1012 (k := ?_) | refine dr 1013 (k := ?_) | refine dr 1014 (k := ?_) | refine dr 1015 (k := ?_) | refine dr 1016 (k := ?_) | fail))); (all_goals (try (conv => whnf))); (all_goals (try (with_reducible exact trivial))); (repeat' ((first | (refine callee_fo (hx) rfl ?_; rintro _ rfl) | (refine pcall_intro (hx) rfl ?_) | (refine pcall_soft (fun _ => hx) rfl ?_)); (repeat' ((conv => whnf); (first | ((with_reducible refine spl (fun hc => ?_) (fun hc => ?_)) <;> (try (exfalso; omega))) | ((with_reducible refine spl' (fun hc => ?_) (fun hc => ?_)) <;> (try (exfalso; omega))) | (with_reducible refine imp_intro (fun hc => ?_)) | refine vcq (k := ?_) | refine dr 1 (k := ?_) | refine dr 2 (k := ?_) | refine dr 3 (k := ?_) | refine dr 4 (k := ?_) | refine dr 5 (k := ?_) | refine dr 6 (k := ?_) | refine dr 7 (k := ?_) | refine dr 8 (k := ?_) | refine dr 9 (k := ?_) | refine dr 10 (k := ?_) | refine dr 11 (k := ?_) | refine dr 12 (k := ?_) | refine dr 1001 (k := ?_) | refine dr 1002 (k := ?_) | refine dr 1003 (k := ?_) | refine dr 1004 (k := ?_) | refine dr 1005 (k := ?_) | refine dr 1006 (k := ?_) | refine dr 1007 (k := ?_) | refine dr 1008 (k := ?_) | refine dr 1009 (k := ?_) | refine dr 1010 (k := ?_) | refine dr 1011 (k := ?_) | refine dr 1012 (k := ?_) | refine dr 1013 (k := ?_) | refine dr 1014 (k := ?_) | refine dr 1015 (k := ?_) | refine dr 1016 (k := ?_) | fail))); (all_goals (try (conv => whnf))); (all_goals (try (with_reducible exact trivial)))))
          · dsimp only at hc
            refine ⟨(set + 1, (set : Int), b.sumC (St.run b l).keys set b.B.toNat, true), ⟨⟨by dsimp only; omega, ?_⟩, by dsimp only; omega⟩, some [some 0, some 1], ?_⟩
            · dsimp only
              have hcond : r3 = false ∨ b.sumC (St.run b l).keys set b.B.toNat < r2 := by
                rcases hc.2 with g | g
                · exact .inl (by simpa using g)
                · exact .inr g
              rw [hst, if_pos ⟨hfit.2 ⟨hc.1.1, by omega⟩, hcond⟩]
            · (repeat' ((conv => whnf); (first | ((with_reducible refine spl (fun hc => ?_) (fun hc => ?_)) <;> (try (exfalso; omega))) | ((with_reducible refine spl' (fun hc => ?_) (fun hc => ?_)) <;> (try (exfalso; omega))) | (with_reducible refine imp_intro (fun hc => ?_)) | refine vcq (k := ?_) | refine dr 1 (k := ?_) | refine dr 2 (k := ?_) | refine dr 3 (k := ?_) | refine dr 4 (k := ?_) | refine dr 5 (k := ?_) | refine dr 6 (k := ?_) | refine dr 7 (k := ?_) | refine dr 8 (k := ?_) | refine dr 9 (k := ?_) | refine dr 10 (k := ?_) | refine dr 11 (k := ?_) | refine dr 12 (k := ?_) | refine dr 1001 (k := ?_) | refine dr 1002 (k := ?_) | refine dr 1003 (k := ?_) | refine dr 1004 (k := ?_) | refine dr 1005 (k := ?_) | refine dr 1006 (k := ?_) | refine dr 1007 (k := ?_) | refine dr 1008 (k := ?_) | refine dr 1009 (k := ?_) | refine dr 1010 (k := ?_) | refine dr 1011 (k := ?_) | refine dr 1012 (k := ?_) | refine dr 1013 (k := ?_) | refine dr 1014 (k := ?_) | refine dr 1015 (k := ?_) | refine dr 1016 (k := ?_) | fail))); (all_goals (try (conv => whnf))); (all_goals (try (with_reducible exact trivial)))
          · dsimp only at hc
            refine ⟨(set + 1, r1, r2, r3), ⟨⟨by dsimp only; omega, ?_⟩, by dsimp only; omega⟩, some [some 0, some 1], ?_⟩
            · dsimp only
              rw [hst, if_neg]
              rintro ⟨g1, g2⟩
              refine hc ⟨⟨k1, by have := (hfit.1 g1).2; omega⟩, ?_⟩
              rcases g2 with g | g
              · exact .inl (by simp [g])
              · exact .inr g
            · (repeat' ((conv => whnf); (first | ((with_reducible refine spl (fun hc => ?_) (fun hc => ?_)) <;> (try (exfalso; omega))) | ((with_reducible refine spl' (fun hc => ?_) (fun hc => ?_)) <;> (try (exfalso; omega))) | (with_reducible refine imp_intro (fun hc => ?_)) | refine vcq (k := ?_) | refine dr 1 (k := ?_) | refine dr 2 (k := ?_) | refine dr 3 (k := ?_) | refine dr 4 (k := ?_) | refine dr 5 (k := ?_) | refine dr 6 (k := ?_) | refine dr 7 (k := ?_) | refine dr 8 (k := ?_) | refine dr 9 (k := ?_) | refine dr 10 (k := ?_) | refine dr 11 (k := ?_) | refine dr 12 (k := ?_) | refine dr 1001 (k := ?_) | refine dr 1002 (k := ?_) | refine dr 1003 (k := ?_) | refine dr 1004 (k := ?_) | refine dr 1005 (k := ?_) | refine dr 1006 (k := ?_) | refine dr 1007 (k := ?_) | refine dr 1008 (k := ?_) | refine dr 1009 (k := ?_) | refine dr 1010 (k := ?_) | refine dr 1011 (k := ?_) | refine dr 1012 (k := ?_) | refine dr 1013 (k := ?_) | refine dr 1014 (k := ?_) | refine dr 1015 (k := ?_) | refine dr 1016 (k := ?_) | fail))); (all_goals (try (conv => whnf))); (all_goals (try (with_reducible exact trivial)))
        · rw [if_neg k1, if_neg k1] at hx
          (repeat' ((conv => whnf); (first | ((with_reducible refine spl (fun hc => ?_) (fun hc => ?_)) <;> (try (exfalso; omega))) | ((with_reducible refine spl' (fun hc => ?_) (fun hc => ?_)) <;> (try (exfalso; omega))) | (with_reducible refine imp_intro (fun hc => ?_)) | refine vcq (k := ?_) | refine dr 1 (k := ?_) | refine dr 2 (k := ?_) | refine dr 3 (k := ?_) | refine dr 4 (k := ?_) | refine dr 5 (k := ?_) | refine dr 6 (k := ?_) | refine dr 7 (k := ?_) | refine dr 8 (k := ?_) | refine dr 9 (k := ?_) | refine dr 10 (k := ?_) | refine dr 11 (k := ?_) | refine dr 12 (k := ?_) | refine dr 1001 (k := ?_) | refine dr 1002 (k := ?_) | refine dr 1003 (k := ?_) | refine dr 1004 (k := ?_) | refine dr 1005 (k := ?_) | refine dr 1006 (k := ?_) | refine dr 1007 (k := ?_) | refine dr 1008 (k := ?_) | refine dr 1009 (k := ?_) | refine dr 1010 (k := ?_) | refine dr 1011 (k := ?_) | refine dr 1012 (k := ?_) | refine dr 1013 (k := ?_) | refine dr 1014 (k := ?_) | refine dr 1015 (k := ?_) | refine dr 1016 (k := ?_) | fail))); (all_goals (try (conv => whnf))); (all_goals (try (with_reducible exact trivial))); (repeat' ((first | (refine callee_fo (hx) rfl ?_; rintro _ rfl) | (refine pcall_intro (hx) rfl ?_) | (refine pcall_soft (fun _ => hx) rfl ?_)); (repeat' ((conv => whnf); (first | ((with_reducible refine spl (fun hc => ?_) (fun hc => ?_)) <;> (try (exfalso; omega))) | ((with_reducible refine spl' (fun hc => ?_) (fun hc => ?_)) <;> (try (exfalso; omega))) | (with_reducible refine imp_intro (fun hc => ?_)) | refine vcq (k := ?_) | refine dr 1 (k := ?_) | refine dr 2 (k := ?_) | refine dr 3 (k := ?_) | refine dr 4 (k := ?_) | refine dr 5 (k := ?_) | refine dr 6 (k := ?_) | refine dr 7 (k := ?_) | refine dr 8 (k := ?_) | refine dr 9 (k := ?_) | refine dr 10 (k := ?_) | refine dr 11 (k := ?_) | refine dr 12 (k := ?_) | refine dr 1001 (k := ?_) | refine dr 1002 (k := ?_) | refine dr 1003 (k := ?_) | refine dr 1004 (k := ?_) | refine dr 1005 (k := ?_) | refine dr 1006 (k := ?_) | refine dr 1007 (k := ?_) | refine dr 1008 (k := ?_) | refine dr 1009 (k := ?_) | refine dr 1010 (k := ?_) | refine dr 1011 (k := ?_) | refine dr 1012 (k := ?_) | refine dr 1013 (k := ?_) | refine dr 1014 (k := ?_) | refine dr 1015 (k := ?_) | refine dr 1016 (k := ?_) | fail))); (all_goals (try (conv => whnf))); (all_goals (try (with_reducible exact trivial)))))
          · dsimp only at hc
            exact absurd hc.1.1 k1
          · refine ⟨(set + 1, r1, r2, r3), ⟨⟨by dsimp only; omega, ?_⟩, by dsimp only; omega⟩, some [some 0, some 1], ?_⟩
            · dsimp only
              rw [hst, if_neg]
              exact fun g => k1 (hfit.1 g.1).1
            · (repeat' ((conv => whnf); (first | ((with_reducible refine spl (fun hc => ?_) (fun hc => ?_)) <;> (try (exfalso; omega))) | ((with_reducible refine spl' (fun hc => ?_) (fun hc => ?_)) <;> (try (exfalso; omega))) | (with_reducible refine imp_intro (fun hc => ?_)) | refine vcq (k := ?_) | refine dr 1 (k := ?_) | refine dr 2 (k := ?_) | refine dr 3 (k := ?_) | refine dr 4 (k := ?_) | refine dr 5 (k := ?_) | refine dr 6 (k := ?_) | refine dr 7 (k := ?_) | refine dr 8 (k := ?_) | refine dr 9 (k := ?_) | refine dr 10 (k := ?_) | refine dr 11 (k := ?_) | refine dr 12 (k := ?_) | refine dr 1001 (k := ?_) | refine dr 1002 (k := ?_) | refine dr 1003 (k := ?_) | refine dr 1004 (k := ?_) | refine dr 1005 (k := ?_) | refine dr 1006 (k := ?_) | refine dr 1007 (k := ?_) | refine dr 1008 (k := ?_) | refine dr 1009 (k := ?_) | refine dr 1010 (k := ?_) | refine dr 1011 (k := ?_) | refine dr 1012 (k := ?_) | refine dr 1013 (k := ?_) | refine dr 1014 (k := ?_) | refine dr 1015 (k := ?_) | refine dr 1016 (k := ?_) | fail))); (all_goals (try (conv => whnf))); (all_goals (try (with_reducible exact trivial)))
      · obtain rfl : set = M := by omega
        (repeat' ((conv => whnf); (first | ((with_reducible refine spl (fun hc => ?_) (fun hc => ?_)) <;> (try (exfalso; omega))) | ((with_reducible refine spl' (fun hc => ?_) (fun hc => ?_)) <;> (try (exfalso; omega))) | (with_reducible refine imp_intro (fun hc => ?_)) | refine vcq (k := ?_) | refine dr 1 (k := ?_) | refine dr 2 (k := ?_) | refine dr 3 (k := ?_) | refine dr 4 (k := ?_) | refine dr 5 (k := ?_) | refine dr 6 (k := ?_) | refine dr 7 (k := ?_) | refine dr 8 (k := ?_) | refine dr 9 (k := ?_) | refine dr 10 (k := ?_) | refine dr 11 (k := ?_) | refine dr 12 (k := ?_) | refine dr 1001 (k := ?_) | refine dr 1002 (k := ?_) | refine dr 1003 (k := ?_) | refine dr 1004 (k := ?_) | refine dr 1005 (k := ?_) | refine dr 1006 (k := ?_) | refine dr 1007 (k := ?_) | refine dr 1008 (k := ?_) | refine dr 1009 (k := ?_) | refine dr 1010 (k := ?_) | refine dr 1011 (k := ?_) | refine dr 1012 (k := ?_) | refine dr 1013 (k := ?_) | refine dr 1014 (k := ?_) | refine dr 1015 (k := ?_) | refine dr 1016 (k := ?_) | fail))); (all_goals (try (conv => whnf))); (all_goals (try (with_reducible exact trivial)))
        rw [hbest, ← q2]
        refine ⟨_, rfl, ?_⟩
        (repeat' ((conv => whnf); (first | ((with_reducible refine spl (fun hc => ?_) (fun hc => ?_)) <;> (try (exfalso; omega))) | ((with_reducible refine spl' (fun hc => ?_) (fun hc => ?_)) <;> (try (exfalso; omega))) | (with_reducible refine imp_intro (fun hc => ?_)) | refine vcq (k := ?_) | refine dr 1 (k := ?_) | refine dr 2 (k := ?_) | refine dr 3 (k := ?_) | refine dr 4 (k := ?_) | refine dr 5 (k := ?_) | refine dr 6 (k := ?_) | refine dr 7 (k := ?_) | refine dr 8 (k := ?_) | refine dr 9 (k := ?_) | refine dr 10 (k := ?_) | refine dr 11 (k := ?_) | refine dr 12 (k := ?_) | refine dr 1001 (k := ?_) | refine dr 1002 (k := ?_) | refine dr 1003 (k := ?_) | refine dr 1004 (k := ?_) | refine dr 1005 (k := ?_) | refine dr 1006 (k := ?_) | refine dr 1007 (k := ?_) | refine dr 1008 (k := ?_) | refine dr 1009 (k := ?_) | refine dr 1010 (k := ?_) | refine dr 1011 (k := ?_) | refine dr 1012 (k := ?_) | refine dr 1013 (k := ?_) | refine dr 1014 (k := ?_) | refine dr 1015 (k := ?_) | refine dr 1016 (k := ?_) | fail))); (all_goals (try (conv => whnf))); (all_goals (try (with_reducible exact trivial)))

theorem sameInts34 (n : Nat) (f : Nat → Int) (hn : n ≤ 1000) : PureC Try.prog 34 false [.sl 1 n (fun j => [.int .i64 (f j)]), .sl 1 n (fun j => [.int .i64 (f j)])] (· = .prop True inferInstance) := by
  refine pureC_of_exec Try.E_ok Try.func34 rfl (by kernel_rfl) ?_
  (repeat' ((conv => whnf); (first | ((with_reducible refine spl (fun hc => ?_) (fun hc => ?_)) <;> (try (exfalso; omega))) | ((with_reducible refine spl' (fun hc => ?_) (fun hc => ?_)) <;> (try (exfalso; omega))) | (with_reducible refine imp_intro (fun hc => ?_)) | refine vcq (k := ?_) | refine dr 9 (k := ?_) | fail))); (all_goals (try (conv => whnf))); (all_goals (try (with_reducible exact trivial)))
  refine ⟨Nat, fun i => i ≤ n, fun i => n - i, fun i => [(5, .int .i64 i)], fun _ => [], fun _ => [], 0, ⟨by omega, none, ?_⟩, ?_⟩
  · (repeat' ((conv => whnf); (first | ((with_reducible refine spl (fun hc => ?_) (fun hc => ?_)) <;> (try (exfalso; omega))) | ((with_reducible refine spl' (fun hc => ?_) (fun hc => ?_)) <;> (try (exfalso; omega))) | (with_reducible refine imp_intro (fun hc => ?_)) | refine vcq (k := ?_) | refine dr 9 (k := ?_) | fail))); (all_goals (try (conv => whnf))); (all_goals (try (with_reducible exact trivial)))
  · intro i hi
    (repeat' ((conv => whnf); (first | ((with_reducible refine spl (fun hc => ?_) (fun hc => ?_)) <;> (try (exfalso; omega))) | ((with_reducible refine spl' (fun hc => ?_) (fun hc => ?_)) <;> (try (exfalso; omega))) | (with_reducible refine imp_intro (fun hc => ?_)) | refine vcq (k := ?_) | refine dr 9 (k := ?_) | fail))); (all_goals (try (conv => whnf))); (all_goals (try (with_reducible exact trivial)))
    · refine ⟨i + 1, ⟨by omega, by dsimp only; omega⟩, none, ?_⟩
      (repeat' ((conv => whnf); (first | ((with_reducible refine spl (fun hc => ?_) (fun hc => ?_)) <;> (try (exfalso; omega))) | ((with_reducible refine spl' (fun hc => ?_) (fun hc => ?_)) <;> (try (exfalso; omega))) | (with_reducible refine imp_intro (fun hc => ?_)) | refine vcq (k := ?_) | refine dr 9 (k := ?_) | fail))); (all_goals (try (conv => whnf))); (all_goals (try (with_reducible exact trivial)))
    · refine ⟨_, rfl, ?_⟩
      (repeat' ((conv => whnf); (first | ((with_reducible refine spl (fun hc => ?_) (fun hc => ?_)) <;> (try (exfalso; omega))) | ((with_reducible refine spl' (fun hc => ?_) (fun hc => ?_)) <;> (try (exfalso; omega))) | (with_reducible refine imp_intro (fun hc => ?_)) | refine vcq (k := ?_) | refine dr 9 (k := ?_) | fail))); (all_goals (try (conv => whnf))); (all_goals (try (with_reducible exact trivial)))

theorem same23 (n m : Nat) (s : St) (hn : n ≤ 1000) (hm : m ≤ 1000) (hs : s.cch.length ≤ 1000) : PureC Try.prog 23 false [stV n m s, stV n m s] (· = .prop True inferInstance) := by
  refine pureC_of_exec Try.E_ok Try.func23 rfl (by kernel_rfl) ?_
  (repeat' ((conv => whnf); (first | ((with_reducible refine spl (fun hc => ?_) (fun hc => ?_)) <;> (try (exfalso; omega))) | ((with_reducible refine spl' (fun hc => ?_) (fun hc => ?_)) <;> (try (exfalso; omega))) | (with_reducible refine imp_intro (fun hc => ?_)) | refine vcq (k := ?_) | refine dr 11 (k := ?_) | fail))); (all_goals (try (conv => whnf))); (all_goals (try (with_reducible exact trivial)))
  refine ⟨Nat, fun i => i ≤ n, fun i => n - i, fun i => [(16, .any), (19, .any), (25, .any), (28, .any), (34, .any), (36, .any), (41, .any), (43, .any), (48, .any), (50, .any), (5, .int .i64 i)], fun _ => [], fun _ => [], 0, ⟨by omega, some [some 0, some 1], ?_⟩, ?_⟩
  · (repeat' ((conv => whnf); (first | ((with_reducible refine spl (fun hc => ?_) (fun hc => ?_)) <;> (try (exfalso; omega))) | ((with_reducible refine spl' (fun hc => ?_) (fun hc => ?_)) <;> (try (exfalso; omega))) | (with_reducible refine imp_intro (fun hc => ?_)) | refine vcq (k := ?_) | refine dr 11 (k := ?_) | fail))); (all_goals (try (conv => whnf))); (all_goals (try (with_reducible exact trivial)))
  · intro i hi
    (repeat' ((conv => whnf); (first | ((with_reducible refine spl (fun hc => ?_) (fun hc => ?_)) <;> (try (exfalso; omega))) | ((with_reducible refine spl' (fun hc => ?_) (fun hc => ?_)) <;> (try (exfalso; omega))) | (with_reducible refine imp_intro (fun hc => ?_)) | refine vcq (k := ?_) | refine dr 11 (k := ?_) | fail))); (all_goals (try (conv => whnf))); (all_goals (try (with_reducible exact trivial)))
    · refine ⟨i + 1, ⟨by omega, by dsimp only; omega⟩, some [some 0, some 1], ?_⟩
      (repeat' ((conv => whnf); (first | ((with_reducible refine spl (fun hc => ?_) (fun hc => ?_)) <;> (try (exfalso; omega))) | ((with_reducible refine spl' (fun hc => ?_) (fun hc => ?_)) <;> (try (exfalso; omega))) | (with_reducible refine imp_intro (fun hc => ?_)) | refine vcq (k := ?_) | refine dr 11 (k := ?_) | fail))); (all_goals (try (conv => whnf))); (all_goals (try (with_reducible exact trivial)))
    · refine ⟨Nat, fun i => i ≤ s.cch.length, fun i => s.cch.length - i, fun i => [(6, .int .i64 i)], fun _ => [], fun _ => [], 0, ⟨by omega, some [some 0, some 1], ?_⟩, ?_⟩
      · (repeat' ((conv => whnf); (first | ((with_reducible refine spl (fun hc => ?_) (fun hc => ?_)) <;> (try (exfalso; omega))) | ((with_reducible refine spl' (fun hc => ?_) (fun hc => ?_)) <;> (try (exfalso; omega))) | (with_reducible refine imp_intro (fun hc => ?_)) | refine vcq (k := ?_) | refine dr 11 (k := ?_) | fail))); (all_goals (try (conv => whnf))); (all_goals (try (with_reducible exact trivial)))
      · intro i hi
        (repeat' ((conv => whnf); (first | ((with_reducible refine spl (fun hc => ?_) (fun hc => ?_)) <;> (try (exfalso; omega))) | ((with_reducible refine spl' (fun hc => ?_) (fun hc => ?_)) <;> (try (exfalso; omega))) | (with_reducible refine imp_intro (fun hc => ?_)) | refine vcq (k := ?_) | refine dr 11 (k := ?_) | fail))); (all_goals (try (conv => whnf))); (all_goals (try (with_reducible exact trivial)))
        · refine ⟨i + 1, ⟨by omega, by dsimp only; omega⟩, some [some 0, some 1], ?_⟩
          (repeat' ((conv => whnf); (first | ((with_reducible refine spl (fun hc => ?_) (fun hc => ?_)) <;> (try (exfalso; omega))) | ((with_reducible refine spl' (fun hc => ?_) (fun hc => ?_)) <;> (try (exfalso; omega))) | (with_reducible refine imp_intro (fun hc => ?_)) | refine vcq (k := ?_) | refine dr 11 (k := ?_) | fail))); (all_goals (try (conv => whnf))); (all_goals (try (with_reducible exact trivial)))
        · refine ⟨Nat, fun i => i ≤ m, fun i => m - i, fun i => [(7, .int .i64 i)], fun _ => [], fun _ => [], 0, ⟨by omega, some [some 0, some 1], ?_⟩, ?_⟩
          · (repeat' ((conv => whnf); (first | ((with_reducible refine spl (fun hc => ?_) (fun hc => ?_)) <;> (try (exfalso; omega))) | ((with_reducible refine spl' (fun hc => ?_) (fun hc => ?_)) <;> (try (exfalso; omega))) | (with_reducible refine imp_intro (fun hc => ?_)) | refine vcq (k := ?_) | refine dr 11 (k := ?_) | fail))); (all_goals (try (conv => whnf))); (all_goals (try (with_reducible exact trivial)))
          · intro i hi
            (repeat' ((conv => whnf); (first | ((with_reducible refine spl (fun hc => ?_) (fun hc => ?_)) <;> (try (exfalso; omega))) | ((with_reducible refine spl' (fun hc => ?_) (fun hc => ?_)) <;> (try (exfalso; omega))) | (with_reducible refine imp_intro (fun hc => ?_)) | refine vcq (k := ?_) | refine dr 11 (k := ?_) | fail))); (all_goals (try (conv => whnf))); (all_goals (try (with_reducible exact trivial)))
            · refine ⟨i + 1, ⟨by omega, by dsimp only; omega⟩, some [some 0, some 1], ?_⟩
              (repeat' ((conv => whnf); (first | ((with_reducible refine spl (fun hc => ?_) (fun hc => ?_)) <;> (try (exfalso; omega))) | ((with_reducible refine spl' (fun hc => ?_) (fun hc => ?_)) <;> (try (exfalso; omega))) | (with_reducible refine imp_intro (fun hc => ?_)) | refine vcq (k := ?_) | refine dr 11 (k := ?_) | fail))); (all_goals (try (conv => whnf))); (all_goals (try (with_reducible exact trivial)))
            · refine ⟨_, rfl, ?_⟩
              (repeat' ((conv => whnf); (first | ((with_reducible refine spl (fun hc => ?_) (fun hc => ?_)) <;> (try (exfalso; omega))) | ((with_reducible refine spl' (fun hc => ?_) (fun hc => ?_)) <;> (try (exfalso; omega))) | (with_reducible refine imp_intro (fun hc => ?_)) | refine vcq (k := ?_) | refine dr 11 (k := ?_) | fail))); (all_goals (try (conv => whnf))); (all_goals (try (with_reducible exact trivial)))

theorem copied22p (l : List (Int × Int)) (hl : l.length ≤ 1048576) : PureC Try.prog 22 false [.sl 2 l.length (rowOf wC (0, 0) l)] (· = .sl 2 l.length (rowOf wC (0, 0) l)) := by
  refine pureC_of_exec Try.E_ok Try.func22 rfl (by kernel_rfl) ?_
  (repeat' ((conv => whnf); (first | ((with_reducible refine spl (fun hc => ?_) (fun hc => ?_)) <;> (try (exfalso; omega))) | ((with_reducible refine spl' (fun hc => ?_) (fun hc => ?_)) <;> (try (exfalso; omega))) | (with_reducible refine imp_intro (fun hc => ?_)) | refine vcq (k := ?_) | refine dr 11 (k := ?_) | fail))); (all_goals (try (conv => whnf))); (all_goals (try (with_reducible exact trivial)))
  refine ⟨_, rfl, ?_⟩
  (repeat' ((conv => whnf); (first | ((with_reducible refine spl (fun hc => ?_) (fun hc => ?_)) <;> (try (exfalso; omega))) | ((with_reducible refine spl' (fun hc => ?_) (fun hc => ?_)) <;> (try (exfalso; omega))) | (with_reducible refine imp_intro (fun hc => ?_)) | refine vcq (k := ?_) | refine dr 11 (k := ?_) | fail))); (all_goals (try (conv => whnf))); (all_goals (try (with_reducible exact trivial)))
end Go.Proofs

namespace Go.Proofs
open Go Go.Sx
set_option maxRecDepth 100000
set_option maxHeartbeats 4000000
-- SxAid2

theorem asks7 (b : Bands) (l : List (Int × Int)) (hl : l.length ≤ 9223372036854775807) (n need : Int) : PureC Try.prog 7 false [b.v, .sl 2 l.length (rowOf wC (0, 0) l), .agg [.int .i64 n, .int .i64 need]] (· = .prop True inferInstance) := by
  refine pureC_of_exec Try.E_ok Try.func7 rfl (by kernel_rfl) ?_
  (repeat' ((conv => whnf); (first | ((with_reducible refine spl (fun hc => ?_) (fun hc => ?_)) <;> (try (exfalso; omega))) | ((with_reducible refine spl' (fun hc => ?_) (fun hc => ?_)) <;> (try (exfalso; omega))) | (with_reducible refine imp_intro (fun hc => ?_)) | refine vcq (k := ?_) | refine dr 11 (k := ?_) | refine dr 13 (k := ?_) | fail))); (all_goals (try (conv => whnf))); (all_goals (try (with_reducible exact trivial)))
  · refine callee_fo works13 rfl ?_
    rintro _ rfl
    (repeat' ((conv => whnf); (first | ((with_reducible refine spl (fun hc => ?_) (fun hc => ?_)) <;> (try (exfalso; omega))) | ((with_reducible refine spl' (fun hc => ?_) (fun hc => ?_)) <;> (try (exfalso; omega))) | (with_reducible refine imp_intro (fun hc => ?_)) | refine vcq (k := ?_) | refine dr 11 (k := ?_) | refine dr 13 (k := ?_) | fail))); (all_goals (try (conv => whnf))); (all_goals (try (with_reducible exact trivial)))
    refine ⟨_, rfl, ?_⟩
    (repeat' ((conv => whnf); (first | ((with_reducible refine spl (fun hc => ?_) (fun hc => ?_)) <;> (try (exfalso; omega))) | ((with_reducible refine spl' (fun hc => ?_) (fun hc => ?_)) <;> (try (exfalso; omega))) | (with_reducible refine imp_intro (fun hc => ?_)) | refine vcq (k := ?_) | refine dr 11 (k := ?_) | refine dr 13 (k := ?_) | fail))); (all_goals (try (conv => whnf))); (all_goals (try (with_reducible exact trivial)))
  · have hl8 : l.length ≤ 8000 := by omega
    (repeat' ((conv => whnf); (first | ((with_reducible refine spl (fun hc => ?_) (fun hc => ?_)) <;> (try (exfalso; omega))) | ((with_reducible refine spl' (fun hc => ?_) (fun hc => ?_)) <;> (try (exfalso; omega))) | (with_reducible refine imp_intro (fun hc => ?_)) | refine vcq (k := ?_) | refine dr 11 (k := ?_) | refine dr 13 (k := ?_) | fail))); (all_goals (try (conv => whnf))); (all_goals (try (with_reducible exact trivial))); (repeat' ((first | (refine callee_fo (copied22p l (by omega)) rfl ?_; rintro _ rfl) | (refine pcall_intro (copied22p l (by omega)) rfl ?_) | (refine pcall_soft (fun _ => copied22p l (by omega)) rfl ?_) | (refine callee_fo (read14 b l hl8 n) rfl ?_; rintro _ rfl) | (refine pcall_intro (read14 b l hl8 n) rfl ?_) | (refine pcall_soft (fun _ => read14 b l hl8 n) rfl ?_) | (refine callee_fo (read24 b l hl8 n) rfl ?_; rintro _ rfl) | (refine pcall_intro (read24 b l hl8 n) rfl ?_) | (refine pcall_soft (fun _ => read24 b l hl8 n) rfl ?_) | (refine callee_fo (price25 b l hl8 n) rfl ?_; rintro _ rfl) | (refine pcall_intro (price25 b l hl8 n) rfl ?_) | (refine pcall_soft (fun _ => price25 b l hl8 n) rfl ?_) | (refine callee_fo (price26 b l hl8 n) rfl ?_; rintro _ rfl) | (refine pcall_intro (price26 b l hl8 n) rfl ?_) | (refine pcall_soft (fun _ => price26 b l hl8 n) rfl ?_) | (refine callee_fo (clean20 b l hl8 need) rfl ?_; rintro _ rfl) | (refine pcall_intro (clean20 b l hl8 need) rfl ?_) | (refine pcall_soft (fun _ => clean20 b l hl8 need) rfl ?_) | (refine callee_fo (clean27 b l hl8 need) rfl ?_; rintro _ rfl) | (refine pcall_intro (clean27 b l hl8 need) rfl ?_) | (refine pcall_soft (fun _ => clean27 b l hl8 need) rfl ?_) | (refine callee_fo (works13) rfl ?_; rintro _ rfl) | (refine pcall_intro (works13) rfl ?_) | (refine pcall_soft (fun _ => works13) rfl ?_)); (repeat' ((conv => whnf); (first | ((with_reducible refine spl (fun hc => ?_) (fun hc => ?_)) <;> (try (exfalso; omega))) | ((with_reducible refine spl' (fun hc => ?_) (fun hc => ?_)) <;> (try (exfalso; omega))) | (with_reducible refine imp_intro (fun hc => ?_)) | refine vcq (k := ?_) | refine dr 11 (k := ?_) | refine dr 13 (k := ?_) | fail))); (all_goals (try (conv => whnf))); (all_goals (try (with_reducible exact trivial)))))
    refine ⟨_, rfl, ?_⟩
    (repeat' ((conv => whnf); (first | ((with_reducible refine spl (fun hc => ?_) (fun hc => ?_)) <;> (try (exfalso; omega))) | ((with_reducible refine spl' (fun hc => ?_) (fun hc => ?_)) <;> (try (exfalso; omega))) | (with_reducible refine imp_intro (fun hc => ?_)) | refine vcq (k := ?_) | refine dr 11 (k := ?_) | refine dr 13 (k := ?_) | fail))); (all_goals (try (conv => whnf))); (all_goals (try (with_reducible exact trivial)))

theorem res_small (b : Bands) (l : List (Int × Int)) : resN b l ≤ 1000 ∧ resB b l ≤ 1000 ∧ (resR b l).cch.length ≤ 1000 ∧ (resF b l).cch.length ≤ 1000 := by
  unfold resN resB resR resF
  by_cases hz : chk b l = 0
  · rw [if_pos hz, if_pos hz, if_pos hz, if_pos hz]
    obtain ⟨hb, h1, h2⟩ := chk_ok hz
    obtain ⟨o1, o2⟩ := run_ok hb h2.inB
    have := N_bounds hb
    have := hb.B
    have := hb.C
    have := o1.len
    refine ⟨by omega, by omega, by omega, ?_⟩
    rw [flush_cch hb o1]
    simp
  · rw [if_neg hz, if_neg hz, if_neg hz, if_neg hz]
    simp [St.begin]

theorem runs8 (b : Bands) (l : List (Int × Int)) (hl : l.length ≤ 9223372036854775807) : PureC Try.prog 8 false [b.v, .sl 2 l.length (rowOf wC (0, 0) l)] (· = .prop True inferInstance) := by
  refine pureC_of_exec Try.E_ok Try.func8 rfl (by kernel_rfl) ?_
  (repeat' ((conv => whnf); (first | ((with_reducible refine spl (fun hc => ?_) (fun hc => ?_)) <;> (try (exfalso; omega))) | ((with_reducible refine spl' (fun hc => ?_) (fun hc => ?_)) <;> (try (exfalso; omega))) | (with_reducible refine imp_intro (fun hc => ?_)) | refine vcq (k := ?_) | refine dr 8 (k := ?_) | refine dr 9 (k := ?_) | refine dr 2008 (k := ?_) | fail))); (all_goals (try (conv => whnf))); (all_goals (try (with_reducible exact trivial)))
  · refine callee_fo works13 rfl ?_
    rintro _ rfl
    (repeat' ((conv => whnf); (first | ((with_reducible refine spl (fun hc => ?_) (fun hc => ?_)) <;> (try (exfalso; omega))) | ((with_reducible refine spl' (fun hc => ?_) (fun hc => ?_)) <;> (try (exfalso; omega))) | (with_reducible refine imp_intro (fun hc => ?_)) | refine vcq (k := ?_) | refine dr 8 (k := ?_) | refine dr 9 (k := ?_) | refine dr 2008 (k := ?_) | fail))); (all_goals (try (conv => whnf))); (all_goals (try (with_reducible exact trivial)))
    refine ⟨_, rfl, ?_⟩
    (repeat' ((conv => whnf); (first | ((with_reducible refine spl (fun hc => ?_) (fun hc => ?_)) <;> (try (exfalso; omega))) | ((with_reducible refine spl' (fun hc => ?_) (fun hc => ?_)) <;> (try (exfalso; omega))) | (with_reducible refine imp_intro (fun hc => ?_)) | refine vcq (k := ?_) | refine dr 8 (k := ?_) | refine dr 9 (k := ?_) | refine dr 2008 (k := ?_) | fail))); (all_goals (try (conv => whnf))); (all_goals (try (with_reducible exact trivial)))
  · have hl8 : l.length ≤ 8000 := by omega
    obtain ⟨r1, r2, r3, r4⟩ := res_small b l
    (repeat' ((conv => whnf); (first | ((with_reducible refine spl (fun hc => ?_) (fun hc => ?_)) <;> (try (exfalso; omega))) | ((with_reducible refine spl' (fun hc => ?_) (fun hc => ?_)) <;> (try (exfalso; omega))) | (with_reducible refine imp_intro (fun hc => ?_)) | refine vcq (k := ?_) | refine dr 8 (k := ?_) | refine dr 9 (k := ?_) | refine dr 2008 (k := ?_) | fail))); (all_goals (try (conv => whnf))); (all_goals (try (with_reducible exact trivial))); (repeat' ((first | (refine callee_fo (copied22p l (by omega)) rfl ?_; rintro _ rfl) | (refine pcall_intro (copied22p l (by omega)) rfl ?_) | (refine pcall_soft (fun _ => copied22p l (by omega)) rfl ?_) | (refine callee_fo (check28 b l hl8) rfl ?_; rintro _ rfl) | (refine pcall_intro (check28 b l hl8) rfl ?_) | (refine pcall_soft (fun _ => check28 b l hl8) rfl ?_) | (refine callee_fo (check29 b l hl8) rfl ?_; rintro _ rfl) | (refine pcall_intro (check29 b l hl8) rfl ?_) | (refine pcall_soft (fun _ => check29 b l hl8) rfl ?_) | (refine callee_fo (run16 b l hl8) rfl ?_; rintro _ rfl) | (refine pcall_intro (run16 b l hl8) rfl ?_) | (refine pcall_soft (fun _ => run16 b l hl8) rfl ?_) | (refine callee_fo (run30 b l hl8) rfl ?_; rintro _ rfl) | (refine pcall_intro (run30 b l hl8) rfl ?_) | (refine pcall_soft (fun _ => run30 b l hl8) rfl ?_) | (refine callee_fo (due31 b l hl8) rfl ?_; rintro _ rfl) | (refine pcall_intro (due31 b l hl8) rfl ?_) | (refine pcall_soft (fun _ => due31 b l hl8) rfl ?_) | (refine callee_fo (due32 b l hl8) rfl ?_; rintro _ rfl) | (refine pcall_intro (due32 b l hl8) rfl ?_) | (refine pcall_soft (fun _ => due32 b l hl8) rfl ?_) | (refine callee_fo (flush17 b l hl8) rfl ?_; rintro _ rfl) | (refine pcall_intro (flush17 b l hl8) rfl ?_) | (refine pcall_soft (fun _ => flush17 b l hl8) rfl ?_) | (refine callee_fo (flush33 b l hl8) rfl ?_; rintro _ rfl) | (refine pcall_intro (flush33 b l hl8) rfl ?_) | (refine pcall_soft (fun _ => flush33 b l hl8) rfl ?_) | (refine callee_fo (same23 (resN b l) (resB b l) (resR b l) r1 r2 r3) rfl ?_; rintro _ rfl) | (refine pcall_intro (same23 (resN b l) (resB b l) (resR b l) r1 r2 r3) rfl ?_) | (refine pcall_soft (fun _ => same23 (resN b l) (resB b l) (resR b l) r1 r2 r3) rfl ?_) | (refine callee_fo (sameInts34 (resB b l) (fun j => b.L - (resR b l).cnt j) r2) rfl ?_; rintro _ rfl) | (refine pcall_intro (sameInts34 (resB b l) (fun j => b.L - (resR b l).cnt j) r2) rfl ?_) | (refine pcall_soft (fun _ => sameInts34 (resB b l) (fun j => b.L - (resR b l).cnt j) r2) rfl ?_) | (refine callee_fo (same23 (resN b l) (resB b l) (resF b l) r1 r2 r4) rfl ?_; rintro _ rfl) | (refine pcall_intro (same23 (resN b l) (resB b l) (resF b l) r1 r2 r4) rfl ?_) | (refine pcall_soft (fun _ => same23 (resN b l) (resB b l) (resF b l) r1 r2 r4) rfl ?_) | (refine callee_fo (works13) rfl ?_; rintro _ rfl) | (refine pcall_intro (works13) rfl ?_) | (refine pcall_soft (fun _ => works13) rfl ?_)); (repeat' ((conv => whnf); (first | ((with_reducible refine spl (fun hc => ?_) (fun hc => ?_)) <;> (try (exfalso; omega))) | ((with_reducible refine spl' (fun hc => ?_) (fun hc => ?_)) <;> (try (exfalso; omega))) | (with_reducible refine imp_intro (fun hc => ?_)) | refine vcq (k := ?_) | refine dr 8 (k := ?_) | refine dr 9 (k := ?_) | refine dr 2008 (k := ?_) | fail))); (all_goals (try (conv => whnf))); (all_goals (try (with_reducible exact trivial)))))
    all_goals (first | (exfalso; revert hc; simp; done) | (refine ⟨_, rfl, ?_⟩; (repeat' ((conv => whnf); (first | ((with_reducible refine spl (fun hc => ?_) (fun hc => ?_)) <;> (try (exfalso; omega))) | ((with_reducible refine spl' (fun hc => ?_) (fun hc => ?_)) <;> (try (exfalso; omega))) | (with_reducible refine imp_intro (fun hc => ?_)) | refine vcq (k := ?_) | refine dr 8 (k := ?_) | refine dr 9 (k := ?_) | refine dr 2008 (k := ?_) | fail))); (all_goals (try (conv => whnf))); (all_goals (try (with_reducible exact trivial)))))
end Go.Proofs
