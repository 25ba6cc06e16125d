/- Own work: a text of the proof of a law (ArmT2). -/
import Derived.Test.YtghddmaihcjmlaaArmT
import Derived.Test.YtghddmaihcjmlaaArmN
import Derived.Test.YtghddmaihcjmlaaSxAid2
namespace Go.Proofs
open Go Go.Sx
set_option maxRecDepth 100000
set_option maxHeartbeats 4000000

theorem areShocks29' (a : Arm) (t x v : Int) (ks : List Int) (hks : ks.length ≤ 9223372036854775807) (hv : a.Valid t x v) : PureC Try.prog 29 false [a.v, .sl 1 ks.length (rowOf intCs 0 ks)] (· = .prop (a.Shocks ks) (Classical.propDecidable _)) :=
  areShocks29 a (Arm.err_zero hv.2).1 ks hks

theorem Arm.moved_there {a : Arm} {t : Int} {s : Int × Int} {ks : List Int} (h : a.Found (a.There t) s.1 s.2) (hk : ∀ k ∈ ks, -a.K ≤ k ∧ k ≤ a.K) : ∀ i, i ≤ ks.length → a.rk (a.There t) s.1 s.2 ≤ i → a.There t (a.moved t s (ks.take i)).1 (a.moved t s (ks.take i)).2 := by
  have key : ∀ i, i ≤ ks.length → a.rk (a.There t) (a.moved t s (ks.take i)).1 (a.moved t s (ks.take i)).2 ≤ a.rk (a.There t) s.1 s.2 - i := by
    intro i
    induction i with
    | zero => intro _; simp [Arm.moved]
    | succ i ih =>
      intro hi
      have h1 := ih (by omega)
      have h2 := (Arm.move_found (Arm.moved_found h hk i (by omega)) (hk _ (List.getElem_mem hi))).2
      rw [Arm.moved_succ hi]
      omega
  intro i hi hr
  have h1 := key i hi
  have h2 := (Arm.moved_found h hk i hi).rk.1
  have h3 : a.rk (a.There t) (a.moved t s (ks.take i)).1 (a.moved t s (ks.take i)).2 = 0 := by omega
  rw [h3] at h2
  exact h2

theorem inTime9A (a : Arm) (t x v : Int) (ks : List Int) (hfd : a.Found (a.There t) x v) (hks : ks.length ≤ 9223372036854775807) : PureC Try.prog 9 false [a.v, seekV t x v ks] (· = .prop True inferInstance) := by
  refine pureC_of_exec Try.E_ok Try.func9 rfl (by kernel_rfl) ?_
  (repeat' ((conv => whnf); (first | ((with_reducible refine spl (fun hc => ?_) (fun hc => ?_)) <;> (try (exfalso; omega))) | ((with_reducible refine spl' (fun hc => ?_) (fun hc => ?_)) <;> (try (exfalso; omega))) | (with_reducible refine imp_intro (fun hc => ?_)) | refine vcq (k := ?_) | refine dr 54 (k := ?_) | refine dr 15 (k := ?_) | refine dr 51 (k := ?_) | fail))); (all_goals (try (conv => whnf))); (all_goals (try (with_reducible exact trivial))); (repeat' ((first | (refine callee_fo (valid11 a t x v) rfl ?_; rintro _ rfl) | (refine pcall_intro (valid11 a t x v) rfl ?_) | (refine pcall_soft (fun _ => valid11 a t x v) rfl ?_) | (refine callee_fo (works12) rfl ?_; rintro _ rfl) | (refine pcall_intro (works12) rfl ?_) | (refine pcall_soft (fun _ => works12) rfl ?_) | (refine callee_fo (areShocks29' a t x v ks hks (Classical.not_not.1 ‹_›)) rfl ?_; rintro _ rfl) | (refine pcall_intro (areShocks29' a t x v ks hks (Classical.not_not.1 ‹_›)) rfl ?_) | (refine pcall_soft (fun _ => areShocks29' a t x v ks hks (Classical.not_not.1 ‹_›)) rfl ?_)); (repeat' ((conv => whnf); (first | ((with_reducible refine spl (fun hc => ?_) (fun hc => ?_)) <;> (try (exfalso; omega))) | ((with_reducible refine spl' (fun hc => ?_) (fun hc => ?_)) <;> (try (exfalso; omega))) | (with_reducible refine imp_intro (fun hc => ?_)) | refine vcq (k := ?_) | refine dr 54 (k := ?_) | refine dr 15 (k := ?_) | refine dr 51 (k := ?_) | fail))); (all_goals (try (conv => whnf))); (all_goals (try (with_reducible exact trivial))))); (all_goals (try (refine ⟨_, rfl, ?_⟩; (repeat' ((conv => whnf); (first | ((with_reducible refine spl (fun hc => ?_) (fun hc => ?_)) <;> (try (exfalso; omega))) | ((with_reducible refine spl' (fun hc => ?_) (fun hc => ?_)) <;> (try (exfalso; omega))) | (with_reducible refine imp_intro (fun hc => ?_)) | refine vcq (k := ?_) | refine dr 54 (k := ?_) | refine dr 15 (k := ?_) | refine dr 51 (k := ?_) | fail))); (all_goals (try (conv => whnf))); (all_goals (try (with_reducible exact trivial))))))
  have hv : a.Valid t x v := Classical.not_not.1 ‹_›
  obtain ⟨ha, ht, hx⟩ := Arm.err_zero hv.2
  have hx : a.Has x v := hx (x, v) (by simp)
  have hsh : a.Shocks ks := Classical.not_not.1 hc
  obtain ⟨hsl, hsk⟩ := hsh
  have hL := ha.L
  have hS := ha.S
  have hF := ha.F
  have hK := ha.K
  have hG := ha.G
  have hW := ha.W
  have he0 : a.err t [] = 0 := Arm.err_ok ha ht (by simp)
  obtain ⟨l, hl⟩ : ∃ l, l = sel (a.There t) a.spots := ⟨_, rfl⟩
  have hmem : ∀ y u, (y, u) ∈ l ↔ a.There t y u := by
    intro y u
    rw [hl, mem_sel, a.mem_spots ha]
    exact ⟨fun h => h.2, fun h => ⟨Arm.Kept.has h, h⟩⟩
  have hll : l.length ≤ 697 := by rw [hl]; exact Nat.le_trans (sel_le _ _) (Arm.spots_le ha)
  have hst : PureC Try.prog 21 true [a.v, .int .i64 t] (· = .tup [.sl 2 l.length (rowOf spotCs (0, 0) l), .int .i64 0]) := by
    have h1 := stays21 a t
    have h2 : a.stays t = l := (if_pos he0).trans hl.symm
    rw [h2, he0] at h1
    exact h1
  clear hl
  have hstp := steps13 a t x v
  have hrun := run30 a t x v ks (by omega)
  have hn1 : ¬ (200 < ks.length ∨ ∃ k ∈ ks, ¬ (-a.K ≤ k ∧ k ≤ a.K)) := by
    rintro (h | ⟨k, h1, h2⟩)
    · omega
    · exact h2 (hsk k h1)
  have hf : a.stepsE t x v = 0 := by unfold Arm.stepsE; rw [if_pos hv.2, if_pos hfd]
  have hn : a.stepsN t x v = a.rk (a.There t) x v := if_pos ⟨hv.2, hfd⟩
  have hg : a.runE t x v ks = 0 := by unfold Arm.runE; rw [if_pos hv.2, if_neg hn1, if_pos hfd]
  have ho : a.runO t x v ks = a.run t (x, v) ks := if_pos hg
  rw [hf, hn] at hstp
  rw [hg, ho] at hrun
  have hrl : (a.run t (x, v) ks).length = ks.length := by simp [Arm.run]
  have hrg : ∀ i, i < ks.length → (a.run t (x, v) ks).getD i (0, 0) = a.moved t (x, v) (ks.take (i + 1)) := by
    intro i hi
    simp [Arm.run, List.getD_eq_getElem?_getD, hi]
  generalize a.run t (x, v) ks = run at hrun hrl hrg
  have hz : ((a.rk (a.There t) x v : Nat) : Int) = 0 ↔ a.There t x v := by
    have := hfd.rk
    constructor
    · intro h
      have h0 : a.rk (a.There t) x v = 0 := by omega
      have h1 := this.1
      rw [h0] at h1
      exact h1
    · intro h
      have : a.rk (a.There t) x v = 0 := a.rk_eq ⟨h, fun m hm => by omega⟩
      omega
  (repeat' ((conv => whnf); (first | ((with_reducible refine spl (fun hc => ?_) (fun hc => ?_)) <;> (try (exfalso; omega))) | ((with_reducible refine spl' (fun hc => ?_) (fun hc => ?_)) <;> (try (exfalso; omega))) | (with_reducible refine imp_intro (fun hc => ?_)) | refine vcq (k := ?_) | refine dr 54 (k := ?_) | refine dr 15 (k := ?_) | refine dr 51 (k := ?_) | fail))); (all_goals (try (conv => whnf))); (all_goals (try (with_reducible exact trivial))); (repeat' ((first | (refine callee_fo (hst) rfl ?_; rintro _ rfl) | (refine pcall_intro (hst) rfl ?_) | (refine pcall_soft (fun _ => hst) rfl ?_) | (refine callee_fo (hstp) rfl ?_; rintro _ rfl) | (refine pcall_intro (hstp) rfl ?_) | (refine pcall_soft (fun _ => hstp) rfl ?_) | (refine callee_fo (hrun) rfl ?_; rintro _ rfl) | (refine pcall_intro (hrun) rfl ?_) | (refine pcall_soft (fun _ => hrun) rfl ?_)); (repeat' ((conv => whnf); (first | ((with_reducible refine spl (fun hc => ?_) (fun hc => ?_)) <;> (try (exfalso; omega))) | ((with_reducible refine spl' (fun hc => ?_) (fun hc => ?_)) <;> (try (exfalso; omega))) | (with_reducible refine imp_intro (fun hc => ?_)) | refine vcq (k := ?_) | refine dr 54 (k := ?_) | refine dr 15 (k := ?_) | refine dr 51 (k := ?_) | fail))); (all_goals (try (conv => whnf))); (all_goals (try (with_reducible exact trivial))))); (all_goals (try (refine ⟨_, rfl, ?_⟩; (repeat' ((conv => whnf); (first | ((with_reducible refine spl (fun hc => ?_) (fun hc => ?_)) <;> (try (exfalso; omega))) | ((with_reducible refine spl' (fun hc => ?_) (fun hc => ?_)) <;> (try (exfalso; omega))) | (with_reducible refine imp_intro (fun hc => ?_)) | refine vcq (k := ?_) | refine dr 54 (k := ?_) | refine dr 15 (k := ?_) | refine dr 51 (k := ?_) | fail))); (all_goals (try (conv => whnf))); (all_goals (try (with_reducible exact trivial))))))
  refine ⟨Nat, fun i => i ≤ l.length, fun i => l.length - i, fun i => [(12, .int .i64 i), (25, .any)], fun _ => [], fun _ => [], 0, ⟨by omega, none, ?_⟩, ?_⟩
  · (repeat' ((conv => whnf); (first | ((with_reducible refine spl (fun hc => ?_) (fun hc => ?_)) <;> (try (exfalso; omega))) | ((with_reducible refine spl' (fun hc => ?_) (fun hc => ?_)) <;> (try (exfalso; omega))) | (with_reducible refine imp_intro (fun hc => ?_)) | refine vcq (k := ?_) | refine dr 54 (k := ?_) | refine dr 15 (k := ?_) | refine dr 51 (k := ?_) | fail))); (all_goals (try (conv => whnf))); (all_goals (try (with_reducible exact trivial)))
  · intro i hi
    have hi : i ≤ l.length := hi
    (repeat' ((conv => whnf); (first | ((with_reducible refine spl (fun hc => ?_) (fun hc => ?_)) <;> (try (exfalso; omega))) | ((with_reducible refine spl' (fun hc => ?_) (fun hc => ?_)) <;> (try (exfalso; omega))) | (with_reducible refine imp_intro (fun hc => ?_)) | refine vcq (k := ?_) | refine dr 54 (k := ?_) | refine dr 15 (k := ?_) | refine dr 51 (k := ?_) | fail))); (all_goals (try (conv => whnf))); (all_goals (try (with_reducible exact trivial)))
    · have hlt : i < l.length := by omega
      have hq : l.getD (i : Int).toNat (0, 0) = l[i] := by simp [List.getD_eq_getElem?_getD, hlt]
      have hth := (hmem l[i].1 l[i].2).1 (List.getElem_mem hlt)
      have hhs : a.Has l[i].1 l[i].2 := Arm.Kept.has hth
      have htr : a.Track t l[i].1 l[i].2 := hth.told
      (repeat' ((conv => whnf); (first | ((with_reducible refine spl (fun hc => ?_) (fun hc => ?_)) <;> (try (exfalso; omega))) | ((with_reducible refine spl' (fun hc => ?_) (fun hc => ?_)) <;> (try (exfalso; omega))) | (with_reducible refine imp_intro (fun hc => ?_)) | refine vcq (k := ?_) | refine dr 54 (k := ?_) | refine dr 15 (k := ?_) | refine dr 51 (k := ?_) | fail))); (all_goals (try (conv => whnf))); (all_goals (try (with_reducible exact trivial))); (repeat' ((first | (refine callee_fo (isState17 a ha _ _) rfl ?_; rintro _ rfl) | (refine pcall_intro (isState17 a ha _ _) rfl ?_) | (refine pcall_soft (fun _ => isState17 a ha _ _) rfl ?_)); (repeat' ((conv => whnf); (first | ((with_reducible refine spl (fun hc => ?_) (fun hc => ?_)) <;> (try (exfalso; omega))) | ((with_reducible refine spl' (fun hc => ?_) (fun hc => ?_)) <;> (try (exfalso; omega))) | (with_reducible refine imp_intro (fun hc => ?_)) | refine vcq (k := ?_) | refine dr 54 (k := ?_) | refine dr 15 (k := ?_) | refine dr 51 (k := ?_) | fail))); (all_goals (try (conv => whnf))); (all_goals (try (with_reducible exact trivial))))); (all_goals (try (refine ⟨_, rfl, ?_⟩; (repeat' ((conv => whnf); (first | ((with_reducible refine spl (fun hc => ?_) (fun hc => ?_)) <;> (try (exfalso; omega))) | ((with_reducible refine spl' (fun hc => ?_) (fun hc => ?_)) <;> (try (exfalso; omega))) | (with_reducible refine imp_intro (fun hc => ?_)) | refine vcq (k := ?_) | refine dr 54 (k := ?_) | refine dr 15 (k := ?_) | refine dr 51 (k := ?_) | fail))); (all_goals (try (conv => whnf))); (all_goals (try (with_reducible exact trivial))))))
      · exfalso
        rw [hq] at hc
        unfold Arm.Track at htr
        rcases hc with (((hc | hc) | hc) | hc) | hc
        · exact hc hhs
        all_goals omega
      · refine ⟨i + 1, ⟨by omega, by dsimp only; omega⟩, none, ?_⟩
        (repeat' ((conv => whnf); (first | ((with_reducible refine spl (fun hc => ?_) (fun hc => ?_)) <;> (try (exfalso; omega))) | ((with_reducible refine spl' (fun hc => ?_) (fun hc => ?_)) <;> (try (exfalso; omega))) | (with_reducible refine imp_intro (fun hc => ?_)) | refine vcq (k := ?_) | refine dr 54 (k := ?_) | refine dr 15 (k := ?_) | refine dr 51 (k := ?_) | fail))); (all_goals (try (conv => whnf))); (all_goals (try (with_reducible exact trivial)))
    · (repeat' ((conv => whnf); (first | ((with_reducible refine spl (fun hc => ?_) (fun hc => ?_)) <;> (try (exfalso; omega))) | ((with_reducible refine spl' (fun hc => ?_) (fun hc => ?_)) <;> (try (exfalso; omega))) | (with_reducible refine imp_intro (fun hc => ?_)) | refine vcq (k := ?_) | refine dr 54 (k := ?_) | refine dr 15 (k := ?_) | refine dr 51 (k := ?_) | fail))); (all_goals (try (conv => whnf))); (all_goals (try (with_reducible exact trivial))); (repeat' ((first | (refine callee_fo (in16 l (by omega) x v) rfl ?_; rintro _ rfl) | (refine pcall_intro (in16 l (by omega) x v) rfl ?_) | (refine pcall_soft (fun _ => in16 l (by omega) x v) rfl ?_) | (refine callee_fo (works12) rfl ?_; rintro _ rfl) | (refine pcall_intro (works12) rfl ?_) | (refine pcall_soft (fun _ => works12) rfl ?_)); (repeat' ((conv => whnf); (first | ((with_reducible refine spl (fun hc => ?_) (fun hc => ?_)) <;> (try (exfalso; omega))) | ((with_reducible refine spl' (fun hc => ?_) (fun hc => ?_)) <;> (try (exfalso; omega))) | (with_reducible refine imp_intro (fun hc => ?_)) | refine vcq (k := ?_) | refine dr 54 (k := ?_) | refine dr 15 (k := ?_) | refine dr 51 (k := ?_) | fail))); (all_goals (try (conv => whnf))); (all_goals (try (with_reducible exact trivial))))); (all_goals (try (refine ⟨_, rfl, ?_⟩; (repeat' ((conv => whnf); (first | ((with_reducible refine spl (fun hc => ?_) (fun hc => ?_)) <;> (try (exfalso; omega))) | ((with_reducible refine spl' (fun hc => ?_) (fun hc => ?_)) <;> (try (exfalso; omega))) | (with_reducible refine imp_intro (fun hc => ?_)) | refine vcq (k := ?_) | refine dr 54 (k := ?_) | refine dr 15 (k := ?_) | refine dr 51 (k := ?_) | fail))); (all_goals (try (conv => whnf))); (all_goals (try (with_reducible exact trivial))))))
      · exact absurd (hz.trans (hmem x v).symm) hc
      have hall := Arm.moved_found (s := (x, v)) hfd hsk
      have hthere : ∀ i, i ≤ ks.length → (a.rk (a.There t) x v : Int) ≤ i → a.There t (a.moved t (x, v) (ks.take i)).1 (a.moved t (x, v) (ks.take i)).2 := fun i h1 h2 => Arm.moved_there hfd hsk i h1 (Int.ofNat_le.1 h2)
      refine ⟨Nat × Int × Int, fun i => i.1 ≤ ks.length ∧ a.moved t (x, v) (ks.take i.1) = i.2, fun i => ks.length - i.1, fun i => [(14, .int .i64 i.1), (25, .any), (158, .any)], fun i => [(2, .cells 25 (spotC i.2.1 i.2.2))], fun _ => [], (0, x, v), ⟨⟨by dsimp only; omega, by simp [Arm.moved]⟩, some [some 0, some 1, some 2], ?_⟩, ?_⟩
      · (repeat' ((conv => whnf); (first | ((with_reducible refine spl (fun hc => ?_) (fun hc => ?_)) <;> (try (exfalso; omega))) | ((with_reducible refine spl' (fun hc => ?_) (fun hc => ?_)) <;> (try (exfalso; omega))) | (with_reducible refine imp_intro (fun hc => ?_)) | refine vcq (k := ?_) | refine dr 54 (k := ?_) | refine dr 15 (k := ?_) | refine dr 51 (k := ?_) | fail))); (all_goals (try (conv => whnf))); (all_goals (try (with_reducible exact trivial)))
      · rintro q ⟨hi, hm⟩
        have hi : q.1 ≤ ks.length := hi
        have hm : a.moved t (x, v) (ks.take q.1) = q.2 := hm
        by_cases hlt : q.1 < ks.length
        · have e0 : (q.1 : Int).toNat = q.1 := by omega
          have hk := hsk _ (List.getElem_mem hlt)
          have hqk : ks.getD (q.1 : Int).toNat 0 = ks[q.1] := by simp [List.getD_eq_getElem?_getD, hlt]
          have hrgi := hrg q.1 hlt
          have hf1 := hall q.1 hi
          have hf2 := hall (q.1 + 1) hlt
          have ht2 := hthere (q.1 + 1) hlt
          have hnx : a.moved t (x, v) (ks.take (q.1 + 1)) = run.getD q.1 (0, 0) := hrgi.symm
          rw [← hrgi] at hf2 ht2
          rw [Arm.moved_succ hlt, hm] at hrgi
          rw [hm] at hf1
          have hcmd := (Arm.own_told hf1.has hf1).cmd
          have ho1 : -a.F ≤ a.own t q.2.1 q.2.2 := hcmd.1
          have ho2 : a.own t q.2.1 q.2.2 ≤ a.F := hcmd.2.1
          have hh1 := hf1.has
          have hh2 := hf2.has
          unfold Arm.move at hrgi
          have e1 := (Prod.ext_iff.1 hrgi).1
          have e2 := (Prod.ext_iff.1 hrgi).2
          rw [← hqk] at e1 e2 hk
          dsimp only at e1 e2
          have e3 : run.getD (q.1 : Int).toNat (0, 0) = run.getD q.1 (0, 0) := by rw [e0]
          rw [← e3] at hf2 ht2 hnx hh2 e1 e2
          generalize a.own t q.2.1 q.2.2 = ow at e1 e2 ho1 ho2
          have hh3 := hh2
          unfold Arm.Has at hh1 hh2
          have hmm := hmem (run.getD (q.1 : Int).toNat (0, 0)).1 (run.getD (q.1 : Int).toNat (0, 0)).2
          clear e3 hrgi hcmd hf1 hf2 hqk
          (repeat' ((conv => whnf); (first | ((with_reducible refine spl (fun hc => ?_) (fun hc => ?_)) <;> (try (exfalso; omega))) | ((with_reducible refine spl' (fun hc => ?_) (fun hc => ?_)) <;> (try (exfalso; omega))) | (with_reducible refine imp_intro (fun hc => ?_)) | refine vcq (k := ?_) | refine dr 54 (k := ?_) | refine dr 15 (k := ?_) | refine dr 51 (k := ?_) | fail))); (all_goals (try (conv => whnf))); (all_goals (try (with_reducible exact trivial))); (repeat' ((first | (refine callee_fo (isState17 a ha _ _) rfl ?_; rintro _ rfl) | (refine pcall_intro (isState17 a ha _ _) rfl ?_) | (refine pcall_soft (fun _ => isState17 a ha _ _) rfl ?_) | (refine callee_fo (in16 l (by omega) _ _) rfl ?_; rintro _ rfl) | (refine pcall_intro (in16 l (by omega) _ _) rfl ?_) | (refine pcall_soft (fun _ => in16 l (by omega) _ _) rfl ?_)); (repeat' ((conv => whnf); (first | ((with_reducible refine spl (fun hc => ?_) (fun hc => ?_)) <;> (try (exfalso; omega))) | ((with_reducible refine spl' (fun hc => ?_) (fun hc => ?_)) <;> (try (exfalso; omega))) | (with_reducible refine imp_intro (fun hc => ?_)) | refine vcq (k := ?_) | refine dr 54 (k := ?_) | refine dr 15 (k := ?_) | refine dr 51 (k := ?_) | fail))); (all_goals (try (conv => whnf))); (all_goals (try (with_reducible exact trivial))))); (all_goals (try (refine ⟨_, rfl, ?_⟩; (repeat' ((conv => whnf); (first | ((with_reducible refine spl (fun hc => ?_) (fun hc => ?_)) <;> (try (exfalso; omega))) | ((with_reducible refine spl' (fun hc => ?_) (fun hc => ?_)) <;> (try (exfalso; omega))) | (with_reducible refine imp_intro (fun hc => ?_)) | refine vcq (k := ?_) | refine dr 54 (k := ?_) | refine dr 15 (k := ?_) | refine dr 51 (k := ?_) | fail))); (all_goals (try (conv => whnf))); (all_goals (try (with_reducible exact trivial))))))
          · exfalso
            rcases hc with (((hc | hc) | hc) | hc) | hc
            · exact hc hh3
            · omega
            · omega
            · omega
            · exact hc.2 (hmm.2 (ht2 (by omega)))
          · refine ⟨(q.1 + 1, run.getD (q.1 : Int).toNat (0, 0)), ⟨⟨by dsimp only; omega, hnx⟩, by dsimp only; omega⟩, some [some 0, some 1, some 2], ?_⟩
            (repeat' ((conv => whnf); (first | ((with_reducible refine spl (fun hc => ?_) (fun hc => ?_)) <;> (try (exfalso; omega))) | ((with_reducible refine spl' (fun hc => ?_) (fun hc => ?_)) <;> (try (exfalso; omega))) | (with_reducible refine imp_intro (fun hc => ?_)) | refine vcq (k := ?_) | refine dr 54 (k := ?_) | refine dr 15 (k := ?_) | refine dr 51 (k := ?_) | fail))); (all_goals (try (conv => whnf))); (all_goals (try (with_reducible exact trivial)))
        · (repeat' ((conv => whnf); (first | ((with_reducible refine spl (fun hc => ?_) (fun hc => ?_)) <;> (try (exfalso; omega))) | ((with_reducible refine spl' (fun hc => ?_) (fun hc => ?_)) <;> (try (exfalso; omega))) | (with_reducible refine imp_intro (fun hc => ?_)) | refine vcq (k := ?_) | refine dr 54 (k := ?_) | refine dr 15 (k := ?_) | refine dr 51 (k := ?_) | fail))); (all_goals (try (conv => whnf))); (all_goals (try (with_reducible exact trivial))); (repeat' ((first | (refine callee_fo (works12) rfl ?_; rintro _ rfl) | (refine pcall_intro (works12) rfl ?_) | (refine pcall_soft (fun _ => works12) rfl ?_)); (repeat' ((conv => whnf); (first | ((with_reducible refine spl (fun hc => ?_) (fun hc => ?_)) <;> (try (exfalso; omega))) | ((with_reducible refine spl' (fun hc => ?_) (fun hc => ?_)) <;> (try (exfalso; omega))) | (with_reducible refine imp_intro (fun hc => ?_)) | refine vcq (k := ?_) | refine dr 54 (k := ?_) | refine dr 15 (k := ?_) | refine dr 51 (k := ?_) | fail))); (all_goals (try (conv => whnf))); (all_goals (try (with_reducible exact trivial))))); (all_goals (try (refine ⟨_, rfl, ?_⟩; (repeat' ((conv => whnf); (first | ((with_reducible refine spl (fun hc => ?_) (fun hc => ?_)) <;> (try (exfalso; omega))) | ((with_reducible refine spl' (fun hc => ?_) (fun hc => ?_)) <;> (try (exfalso; omega))) | (with_reducible refine imp_intro (fun hc => ?_)) | refine vcq (k := ?_) | refine dr 54 (k := ?_) | refine dr 15 (k := ?_) | refine dr 51 (k := ?_) | fail))); (all_goals (try (conv => whnf))); (all_goals (try (with_reducible exact trivial))))))
end Go.Proofs
