/- Own work: a text of the proof of a law (ArmT3). -/
import Derived.Test.YtghddmaihcjmlaaArmT
import Derived.Test.YtghddmaihcjmlaaArmN
import Derived.Test.YtghddmaihcjmlaaSxAid2
namespace Go.Proofs
open Go Go.Sx
set_option maxRecDepth 100000
set_option maxHeartbeats 4000000

theorem areShocks29'' (a : Arm) (t x v : Int) (ks : List Int) (hks : ks.length ≤ 9223372036854775807) (hv : a.Valid t x v) : PureC Try.prog 29 false [a.v, .sl 1 ks.length (rowOf intCs 0 ks)] (· = .prop (a.Shocks ks) (Classical.propDecidable _)) :=
  areShocks29 a (Arm.err_zero hv.2).1 ks hks

theorem inTime9B (a : Arm) (t x v : Int) (ks : List Int) (hfd : ¬ a.Found (a.There t) x v) (hks : ks.length ≤ 9223372036854775807) : PureC Try.prog 9 false [a.v, seekV t x v ks] (· = .prop True inferInstance) := by
  refine pureC_of_exec Try.E_ok Try.func9 rfl (by kernel_rfl) ?_
  (repeat' ((conv => whnf); (first | ((with_reducible refine spl (fun hc => ?_) (fun hc => ?_)) <;> (try (exfalso; omega))) | ((with_reducible refine spl' (fun hc => ?_) (fun hc => ?_)) <;> (try (exfalso; omega))) | (with_reducible refine imp_intro (fun hc => ?_)) | refine vcq (k := ?_) | refine dr 54 (k := ?_) | refine dr 15 (k := ?_) | refine dr 51 (k := ?_) | fail))); (all_goals (try (conv => whnf))); (all_goals (try (with_reducible exact trivial))); (repeat' ((first | (refine callee_fo (valid11 a t x v) rfl ?_; rintro _ rfl) | (refine pcall_intro (valid11 a t x v) rfl ?_) | (refine pcall_soft (fun _ => valid11 a t x v) rfl ?_) | (refine callee_fo (works12) rfl ?_; rintro _ rfl) | (refine pcall_intro (works12) rfl ?_) | (refine pcall_soft (fun _ => works12) rfl ?_) | (refine callee_fo (areShocks29'' a t x v ks hks (Classical.not_not.1 ‹_›)) rfl ?_; rintro _ rfl) | (refine pcall_intro (areShocks29'' a t x v ks hks (Classical.not_not.1 ‹_›)) rfl ?_) | (refine pcall_soft (fun _ => areShocks29'' a t x v ks hks (Classical.not_not.1 ‹_›)) rfl ?_)); (repeat' ((conv => whnf); (first | ((with_reducible refine spl (fun hc => ?_) (fun hc => ?_)) <;> (try (exfalso; omega))) | ((with_reducible refine spl' (fun hc => ?_) (fun hc => ?_)) <;> (try (exfalso; omega))) | (with_reducible refine imp_intro (fun hc => ?_)) | refine vcq (k := ?_) | refine dr 54 (k := ?_) | refine dr 15 (k := ?_) | refine dr 51 (k := ?_) | fail))); (all_goals (try (conv => whnf))); (all_goals (try (with_reducible exact trivial))))); (all_goals (try (refine ⟨_, rfl, ?_⟩; (repeat' ((conv => whnf); (first | ((with_reducible refine spl (fun hc => ?_) (fun hc => ?_)) <;> (try (exfalso; omega))) | ((with_reducible refine spl' (fun hc => ?_) (fun hc => ?_)) <;> (try (exfalso; omega))) | (with_reducible refine imp_intro (fun hc => ?_)) | refine vcq (k := ?_) | refine dr 54 (k := ?_) | refine dr 15 (k := ?_) | refine dr 51 (k := ?_) | fail))); (all_goals (try (conv => whnf))); (all_goals (try (with_reducible exact trivial))))))
  have hv : a.Valid t x v := Classical.not_not.1 ‹_›
  obtain ⟨ha, ht, hx⟩ := Arm.err_zero hv.2
  have hx : a.Has x v := hx (x, v) (by simp)
  have hsh : a.Shocks ks := Classical.not_not.1 hc
  obtain ⟨hsl, hsk⟩ := hsh
  have hL := ha.L
  have hS := ha.S
  have hF := ha.F
  have hK := ha.K
  have hG := ha.G
  have hW := ha.W
  have he0 : a.err t [] = 0 := Arm.err_ok ha ht (by simp)
  obtain ⟨l, hl⟩ : ∃ l, l = sel (a.There t) a.spots := ⟨_, rfl⟩
  have hmem : ∀ y u, (y, u) ∈ l ↔ a.There t y u := by
    intro y u
    rw [hl, mem_sel, a.mem_spots ha]
    exact ⟨fun h => h.2, fun h => ⟨Arm.Kept.has h, h⟩⟩
  have hll : l.length ≤ 697 := by rw [hl]; exact Nat.le_trans (sel_le _ _) (Arm.spots_le ha)
  have hst : PureC Try.prog 21 true [a.v, .int .i64 t] (· = .tup [.sl 2 l.length (rowOf spotCs (0, 0) l), .int .i64 0]) := by
    have h1 := stays21 a t
    have h2 : a.stays t = l := (if_pos he0).trans hl.symm
    rw [h2, he0] at h1
    exact h1
  clear hl
  have hstp := steps13 a t x v
  have hrun := run30 a t x v ks (by omega)
  have hn1 : ¬ (200 < ks.length ∨ ∃ k ∈ ks, ¬ (-a.K ≤ k ∧ k ≤ a.K)) := by
    rintro (h | ⟨k, h1, h2⟩)
    · omega
    · exact h2 (hsk k h1)
  have hf : a.stepsE t x v = 3 := by unfold Arm.stepsE; rw [if_pos hv.2, if_neg hfd]
  have hn : a.stepsN t x v = 0 := if_neg (fun h => hfd h.2)
  have hg : a.runE t x v ks = 3 := by unfold Arm.runE; rw [if_pos hv.2, if_neg hn1, if_neg hfd]
  have ho : a.runO t x v ks = [] := if_neg (by rw [hg]; omega)
  rw [hf, hn] at hstp
  rw [hg, ho] at hrun
  (repeat' ((conv => whnf); (first | ((with_reducible refine spl (fun hc => ?_) (fun hc => ?_)) <;> (try (exfalso; omega))) | ((with_reducible refine spl' (fun hc => ?_) (fun hc => ?_)) <;> (try (exfalso; omega))) | (with_reducible refine imp_intro (fun hc => ?_)) | refine vcq (k := ?_) | refine dr 54 (k := ?_) | refine dr 15 (k := ?_) | refine dr 51 (k := ?_) | fail))); (all_goals (try (conv => whnf))); (all_goals (try (with_reducible exact trivial))); (repeat' ((first | (refine callee_fo (hst) rfl ?_; rintro _ rfl) | (refine pcall_intro (hst) rfl ?_) | (refine pcall_soft (fun _ => hst) rfl ?_) | (refine callee_fo (hstp) rfl ?_; rintro _ rfl) | (refine pcall_intro (hstp) rfl ?_) | (refine pcall_soft (fun _ => hstp) rfl ?_) | (refine callee_fo (hrun) rfl ?_; rintro _ rfl) | (refine pcall_intro (hrun) rfl ?_) | (refine pcall_soft (fun _ => hrun) rfl ?_)); (repeat' ((conv => whnf); (first | ((with_reducible refine spl (fun hc => ?_) (fun hc => ?_)) <;> (try (exfalso; omega))) | ((with_reducible refine spl' (fun hc => ?_) (fun hc => ?_)) <;> (try (exfalso; omega))) | (with_reducible refine imp_intro (fun hc => ?_)) | refine vcq (k := ?_) | refine dr 54 (k := ?_) | refine dr 15 (k := ?_) | refine dr 51 (k := ?_) | fail))); (all_goals (try (conv => whnf))); (all_goals (try (with_reducible exact trivial))))); (all_goals (try (refine ⟨_, rfl, ?_⟩; (repeat' ((conv => whnf); (first | ((with_reducible refine spl (fun hc => ?_) (fun hc => ?_)) <;> (try (exfalso; omega))) | ((with_reducible refine spl' (fun hc => ?_) (fun hc => ?_)) <;> (try (exfalso; omega))) | (with_reducible refine imp_intro (fun hc => ?_)) | refine vcq (k := ?_) | refine dr 54 (k := ?_) | refine dr 15 (k := ?_) | refine dr 51 (k := ?_) | fail))); (all_goals (try (conv => whnf))); (all_goals (try (with_reducible exact trivial))))))
  refine ⟨Nat, fun i => i ≤ l.length, fun i => l.length - i, fun i => [(12, .int .i64 i), (25, .any)], fun _ => [], fun _ => [], 0, ⟨by omega, none, ?_⟩, ?_⟩
  · (repeat' ((conv => whnf); (first | ((with_reducible refine spl (fun hc => ?_) (fun hc => ?_)) <;> (try (exfalso; omega))) | ((with_reducible refine spl' (fun hc => ?_) (fun hc => ?_)) <;> (try (exfalso; omega))) | (with_reducible refine imp_intro (fun hc => ?_)) | refine vcq (k := ?_) | refine dr 54 (k := ?_) | refine dr 15 (k := ?_) | refine dr 51 (k := ?_) | fail))); (all_goals (try (conv => whnf))); (all_goals (try (with_reducible exact trivial)))
  · intro i hi
    have hi : i ≤ l.length := hi
    (repeat' ((conv => whnf); (first | ((with_reducible refine spl (fun hc => ?_) (fun hc => ?_)) <;> (try (exfalso; omega))) | ((with_reducible refine spl' (fun hc => ?_) (fun hc => ?_)) <;> (try (exfalso; omega))) | (with_reducible refine imp_intro (fun hc => ?_)) | refine vcq (k := ?_) | refine dr 54 (k := ?_) | refine dr 15 (k := ?_) | refine dr 51 (k := ?_) | fail))); (all_goals (try (conv => whnf))); (all_goals (try (with_reducible exact trivial)))
    · have hlt : i < l.length := by omega
      have hq : l.getD (i : Int).toNat (0, 0) = l[i] := by simp [List.getD_eq_getElem?_getD, hlt]
      have hth := (hmem l[i].1 l[i].2).1 (List.getElem_mem hlt)
      have hhs : a.Has l[i].1 l[i].2 := Arm.Kept.has hth
      have htr : a.Track t l[i].1 l[i].2 := hth.told
      (repeat' ((conv => whnf); (first | ((with_reducible refine spl (fun hc => ?_) (fun hc => ?_)) <;> (try (exfalso; omega))) | ((with_reducible refine spl' (fun hc => ?_) (fun hc => ?_)) <;> (try (exfalso; omega))) | (with_reducible refine imp_intro (fun hc => ?_)) | refine vcq (k := ?_) | refine dr 54 (k := ?_) | refine dr 15 (k := ?_) | refine dr 51 (k := ?_) | fail))); (all_goals (try (conv => whnf))); (all_goals (try (with_reducible exact trivial))); (repeat' ((first | (refine callee_fo (isState17 a ha _ _) rfl ?_; rintro _ rfl) | (refine pcall_intro (isState17 a ha _ _) rfl ?_) | (refine pcall_soft (fun _ => isState17 a ha _ _) rfl ?_)); (repeat' ((conv => whnf); (first | ((with_reducible refine spl (fun hc => ?_) (fun hc => ?_)) <;> (try (exfalso; omega))) | ((with_reducible refine spl' (fun hc => ?_) (fun hc => ?_)) <;> (try (exfalso; omega))) | (with_reducible refine imp_intro (fun hc => ?_)) | refine vcq (k := ?_) | refine dr 54 (k := ?_) | refine dr 15 (k := ?_) | refine dr 51 (k := ?_) | fail))); (all_goals (try (conv => whnf))); (all_goals (try (with_reducible exact trivial))))); (all_goals (try (refine ⟨_, rfl, ?_⟩; (repeat' ((conv => whnf); (first | ((with_reducible refine spl (fun hc => ?_) (fun hc => ?_)) <;> (try (exfalso; omega))) | ((with_reducible refine spl' (fun hc => ?_) (fun hc => ?_)) <;> (try (exfalso; omega))) | (with_reducible refine imp_intro (fun hc => ?_)) | refine vcq (k := ?_) | refine dr 54 (k := ?_) | refine dr 15 (k := ?_) | refine dr 51 (k := ?_) | fail))); (all_goals (try (conv => whnf))); (all_goals (try (with_reducible exact trivial))))))
      · exfalso
        rw [hq] at hc
        unfold Arm.Track at htr
        rcases hc with (((hc | hc) | hc) | hc) | hc
        · exact hc hhs
        all_goals omega
      · refine ⟨i + 1, ⟨by omega, by dsimp only; omega⟩, none, ?_⟩
        (repeat' ((conv => whnf); (first | ((with_reducible refine spl (fun hc => ?_) (fun hc => ?_)) <;> (try (exfalso; omega))) | ((with_reducible refine spl' (fun hc => ?_) (fun hc => ?_)) <;> (try (exfalso; omega))) | (with_reducible refine imp_intro (fun hc => ?_)) | refine vcq (k := ?_) | refine dr 54 (k := ?_) | refine dr 15 (k := ?_) | refine dr 51 (k := ?_) | fail))); (all_goals (try (conv => whnf))); (all_goals (try (with_reducible exact trivial)))
    · (repeat' ((conv => whnf); (first | ((with_reducible refine spl (fun hc => ?_) (fun hc => ?_)) <;> (try (exfalso; omega))) | ((with_reducible refine spl' (fun hc => ?_) (fun hc => ?_)) <;> (try (exfalso; omega))) | (with_reducible refine imp_intro (fun hc => ?_)) | refine vcq (k := ?_) | refine dr 54 (k := ?_) | refine dr 15 (k := ?_) | refine dr 51 (k := ?_) | fail))); (all_goals (try (conv => whnf))); (all_goals (try (with_reducible exact trivial))); (repeat' ((first | (refine callee_fo (in16 l (by omega) x v) rfl ?_; rintro _ rfl) | (refine pcall_intro (in16 l (by omega) x v) rfl ?_) | (refine pcall_soft (fun _ => in16 l (by omega) x v) rfl ?_) | (refine callee_fo (works12) rfl ?_; rintro _ rfl) | (refine pcall_intro (works12) rfl ?_) | (refine pcall_soft (fun _ => works12) rfl ?_)); (repeat' ((conv => whnf); (first | ((with_reducible refine spl (fun hc => ?_) (fun hc => ?_)) <;> (try (exfalso; omega))) | ((with_reducible refine spl' (fun hc => ?_) (fun hc => ?_)) <;> (try (exfalso; omega))) | (with_reducible refine imp_intro (fun hc => ?_)) | refine vcq (k := ?_) | refine dr 54 (k := ?_) | refine dr 15 (k := ?_) | refine dr 51 (k := ?_) | fail))); (all_goals (try (conv => whnf))); (all_goals (try (with_reducible exact trivial))))); (all_goals (try (refine ⟨_, rfl, ?_⟩; (repeat' ((conv => whnf); (first | ((with_reducible refine spl (fun hc => ?_) (fun hc => ?_)) <;> (try (exfalso; omega))) | ((with_reducible refine spl' (fun hc => ?_) (fun hc => ?_)) <;> (try (exfalso; omega))) | (with_reducible refine imp_intro (fun hc => ?_)) | refine vcq (k := ?_) | refine dr 54 (k := ?_) | refine dr 15 (k := ?_) | refine dr 51 (k := ?_) | fail))); (all_goals (try (conv => whnf))); (all_goals (try (with_reducible exact trivial))))))
      · exact absurd ((hmem x v).1 (Classical.not_not.1 hc)) (fun h => hfd ⟨0, h⟩)
end Go.Proofs
