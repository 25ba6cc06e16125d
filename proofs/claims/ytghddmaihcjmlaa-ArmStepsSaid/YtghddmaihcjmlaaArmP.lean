/- Own work: a text of the proof of a law (ArmP). -/
import Derived.Test.YtghddmaihcjmlaaArmS3
import Derived.Test.YtghddmaihcjmlaaSxAid2
namespace Go.Proofs
open Go Go.Sx
set_option maxRecDepth 100000
set_option maxHeartbeats 4000000

theorem Arm.cmd_congr {a : Arm} {p q : Int → Int → Prop} {x v : Int} (h : ∀ y u, a.Has y u → (p y u ↔ q y u)) : a.cmd p x v = a.cmd q x v := by
  have hg : ∀ c, a.Good p x v c ↔ a.Good q x v c := fun c => ⟨fun g k h1 h2 => ⟨(g k h1 h2).1, (h _ _ (g k h1 h2).1).1 (g k h1 h2).2⟩, fun g k h1 h2 => ⟨(g k h1 h2).1, (h _ _ (g k h1 h2).1).2 (g k h1 h2).2⟩⟩
  by_cases hc : a.Can p x v
  · obtain ⟨h1, h2, h3, h4⟩ := hc.cmd
    exact (Arm.cmd_eq (p := q) (c := a.cmd p x v) ⟨h1, h2, (hg _).1 h3, fun d g1 g2 g3 => h4 d g1 g2 ((hg d).2 g3)⟩).symm
  · rw [Arm.cmd_none hc, Arm.cmd_none (fun ⟨c, h1, h2, h3⟩ => hc ⟨c, h1, h2, (hg c).2 h3⟩)]

theorem Arm.rk_le {a : Arm} {B : Int → Int → Prop} {x v : Int} {n : Nat} (h : a.Reach B n x v) : a.rk B x v ≤ n := by
  have hf : a.Found B x v := ⟨n, h⟩
  rcases Nat.lt_or_ge n (a.rk B x v) with h1 | h1
  · exact absurd h (hf.rk.2 n h1)
  · exact h1

theorem Arm.own_zero {a : Arm} {t x v : Int} (h : a.There t x v) : a.own t x v = a.cmd (a.There t) x v := by
  have h0 : a.rk (a.There t) x v = 0 := Nat.le_zero.1 (Arm.rk_le (n := 0) h)
  unfold Arm.own
  rw [h0]
  refine Arm.cmd_congr fun y u _ => ?_
  unfold Told
  simp only [Arm.rkK]
  constructor
  · rintro ⟨h1, h2⟩
    have h3 : a.rk (a.There t) y u = 0 := by omega
    have := h1.rk.1
    rw [h3] at this
    exact this
  · intro h1
    have h3 : a.rk (a.There t) y u = 0 := Nat.le_zero.1 (Arm.rk_le (n := 0) h1)
    exact ⟨⟨0, h1⟩, .inr ⟨rfl, by omega⟩⟩

theorem Arm.rk_succ {a : Arm} {B : Int → Int → Prop} {x v : Int} {n : Nat} (h : a.Reach B (n + 1) x v) (hn : ¬ a.Reach B n x v) : a.rk B x v = n + 1 :=
  a.rk_eq ⟨h, fun m hm hr => hn (hr.mono (by omega))⟩

theorem Arm.own_succ {a : Arm} {t x v : Int} {n : Nat} (h : a.Reach (a.There t) (n + 1) x v) (hn : ¬ a.Reach (a.There t) n x v) : a.own t x v = a.cmd (a.Reach (a.There t) n) x v := by
  unfold Arm.own
  rw [Arm.rk_succ h hn]
  refine Arm.cmd_congr fun y u _ => ?_
  unfold Told
  simp only [Arm.rkK]
  constructor
  · rintro ⟨h1, h2⟩
    exact h1.rk.1.mono (by omega)
  · intro h1
    have := Arm.rk_le h1
    exact ⟨⟨n, h1⟩, .inl (by omega)⟩

noncomputable def intC (f : Int × Int → Int) (s : Int × Int) : List V := [.int .i64 (f s)]
/-- the steps, -1 for the lost -/
noncomputable def Arm.stepOf (a : Arm) (t : Int) (s : Int × Int) : Int := @ite _ (a.Found (a.There t) s.1 s.2) (Classical.propDecidable _) (a.rk (a.There t) s.1 s.2) (-1)
noncomputable def Arm.ownOf (a : Arm) (t : Int) (s : Int × Int) : Int := @ite _ (a.Found (a.There t) s.1 s.2) (Classical.propDecidable _) (a.own t s.1 s.2) 0

/-- the state of a number -/
def Arm.nth (a : Arm) (k : Nat) : Int × Int := a.spots.getD k (0, 0)
/-- found in n rounds, or in one more if its number is below j -/
def Arm.rj (a : Arm) (t : Int) (n j k : Nat) : Prop := a.Reach (a.There t) n (a.nth k).1 (a.nth k).2 ∨ (k < j ∧ a.Reach (a.There t) (n + 1) (a.nth k).1 (a.nth k).2)
noncomputable def Arm.stepR (a : Arm) (t : Int) (n j k : Nat) : List V := [.int .i64 (@ite _ (a.rj t n j k) (Classical.propDecidable _) (a.rk (a.There t) (a.nth k).1 (a.nth k).2) (-1))]
noncomputable def Arm.cmdR (a : Arm) (t : Int) (n j k : Nat) : List V := [.int .i64 (@ite _ (a.rj t n j k) (Classical.propDecidable _) (a.own t (a.nth k).1 (a.nth k).2) 0)]
noncomputable def Arm.boolR (a : Arm) (t : Int) (n j k : Nat) : List V := [.prop (a.rj t n j k) (Classical.propDecidable _)]
noncomputable def Arm.stepI (a : Arm) (t : Int) (j k : Nat) : List V := [.int .i64 (if k < j then (@ite _ (a.There t (a.nth k).1 (a.nth k).2) (Classical.propDecidable _) 0 (-1)) else 0)]
noncomputable def Arm.cmdI (a : Arm) (t : Int) (j k : Nat) : List V := [.int .i64 (@ite _ (k < j ∧ a.There t (a.nth k).1 (a.nth k).2) (Classical.propDecidable _) (a.own t (a.nth k).1 (a.nth k).2) 0)]

noncomputable def Arm.left (a : Arm) (t : Int) (n : Nat) : Nat := (sel (fun x v => ¬ a.Reach (a.There t) n x v) a.spots).length

theorem sel_mono_le {D D' : Int → Int → Prop} {l : List (Int × Int)} (h : ∀ x v, D' x v → D x v) : (sel D' l).length ≤ (sel D l).length := by
  unfold sel
  induction l with
  | nil => simp
  | cons s l ih =>
    simp only [List.filter_cons]
    by_cases h1 : D' s.1 s.2
    · simp [h1, h _ _ h1]
      exact ih
    · by_cases h2 : D s.1 s.2
      · simp [h1, h2]
        omega
      · simp [h1, h2]
        exact ih

theorem ite_congr' {p q : Prop} {d : Decidable p} {d' : Decidable q} {α : Type} {x y : α} (h : p ↔ q) : @ite _ p d x y = @ite _ q d' x y := by
  by_cases hp : p
  · rw [if_pos hp, if_pos (h.1 hp)]
  · rw [if_neg hp, if_neg (fun hq => hp (h.2 hq))]

theorem Arm.stepI_zero (a : Arm) (t : Int) (k : Nat) : a.stepI t 0 k = [.int .i64 0] := by simp [Arm.stepI]
theorem Arm.cmdI_zero (a : Arm) (t : Int) (k : Nat) : a.cmdI t 0 k = [.int .i64 0] := by simp [Arm.cmdI]
theorem Arm.stepR_congr {a : Arm} {t : Int} {n j n' j' k : Nat} (h : a.rj t n j k ↔ a.rj t n' j' k) : a.stepR t n j k = a.stepR t n' j' k := by
  unfold Arm.stepR
  rw [ite_congr' h]
theorem Arm.cmdR_congr {a : Arm} {t : Int} {n j n' j' k : Nat} (h : a.rj t n j k ↔ a.rj t n' j' k) : a.cmdR t n j k = a.cmdR t n' j' k := by
  unfold Arm.cmdR
  rw [ite_congr' h]
theorem Arm.boolR_congr {a : Arm} {t : Int} {n j n' j' k : Nat} (h : a.rj t n j k ↔ a.rj t n' j' k) : a.boolR t n j k = a.boolR t n' j' k := by
  unfold Arm.boolR
  rw [prop_eq h]
theorem Arm.rj_zero {a : Arm} {t : Int} {n k : Nat} : a.rj t n 0 k ↔ a.Reach (a.There t) n (a.nth k).1 (a.nth k).2 :=
  ⟨fun h => h.elim id (fun h => absurd h.1 (Nat.not_lt_zero k)), .inl⟩
theorem Arm.rj_end {a : Arm} {t : Int} {n k N : Nat} (hk : k < N) : a.rj t n N k ↔ a.rj t (n + 1) 0 k :=
  ⟨fun h => .inl (h.elim .inl (fun h => h.2)), fun h => .inr ⟨hk, Arm.rj_zero.1 h⟩⟩
theorem Arm.rj_step {a : Arm} {t : Int} {n j k : Nat} (h : a.Reach (a.There t) (n + 1) (a.nth j).1 (a.nth j).2 → a.Reach (a.There t) n (a.nth j).1 (a.nth j).2) : a.rj t n j k ↔ a.rj t n (j + 1) k := by
  constructor
  · exact fun h => h.elim .inl (fun h => .inr ⟨by omega, h.2⟩)
  · rintro (h1 | ⟨h1, h2⟩)
    · exact .inl h1
    · rcases Nat.lt_or_eq_of_le (show k ≤ j by omega) with h3 | rfl
      · exact .inr ⟨h3, h2⟩
      · exact .inl (h h2)
theorem Arm.rj_other {a : Arm} {t : Int} {n j k : Nat} (h : k ≠ j) : a.rj t n j k ↔ a.rj t n (j + 1) k := by
  unfold Arm.rj
  have : k < j ↔ k < j + 1 := by omega
  rw [this]
theorem Arm.stepI_end {a : Arm} {t : Int} {k N : Nat} (hk : k < N) : a.stepI t N k = a.stepR t 0 0 k := by
  unfold Arm.stepI Arm.stepR
  rw [if_pos hk]
  by_cases h : a.There t (a.nth k).1 (a.nth k).2
  · have h0 : a.rk (a.There t) (a.nth k).1 (a.nth k).2 = 0 := Nat.le_zero.1 (Arm.rk_le (n := 0) h)
    rw [if_pos h, if_pos (show a.rj t 0 0 k from .inl h), h0]
    rfl
  · rw [if_neg h, if_neg (show ¬ a.rj t 0 0 k from fun g => h (Arm.rj_zero.1 g))]
theorem Arm.cmdI_end {a : Arm} {t : Int} {k N : Nat} (hk : k < N) : a.cmdI t N k = a.cmdR t 0 0 k := by
  unfold Arm.cmdI Arm.cmdR
  rw [ite_congr' (show (k < N ∧ a.There t (a.nth k).1 (a.nth k).2) ↔ a.rj t 0 0 k from ⟨fun h => .inl h.2, fun h => ⟨hk, Arm.rj_zero.1 h⟩⟩)]
theorem Arm.boolR_zero {a : Arm} {t : Int} {n k : Nat} {f : Nat → List V} : appF 0 f (rowOf (boolC (a.Reach (a.There t) n)) (0, 0) a.spots) k = a.boolR t n 0 k := by
  unfold appF
  rw [if_neg (Nat.not_lt_zero k)]
  show [_] = [_]
  congr 1
  exact prop_eq Arm.rj_zero.symm

theorem Arm.stepI_set {a : Arm} {t : Int} {i k : Nat} (h : k ≠ i) : a.stepI t i k = a.stepI t (i + 1) k := by
  unfold Arm.stepI
  rw [ite_congr' (show k < i ↔ k < i + 1 by omega)]
theorem Arm.cmdI_set {a : Arm} {t : Int} {i k : Nat} (h : k = i → ¬ a.There t (a.nth k).1 (a.nth k).2) : a.cmdI t i k = a.cmdI t (i + 1) k := by
  unfold Arm.cmdI
  rw [ite_congr' (show (k < i ∧ a.There t (a.nth k).1 (a.nth k).2) ↔ (k < i + 1 ∧ a.There t (a.nth k).1 (a.nth k).2) from ⟨fun g => ⟨by omega, g.2⟩, fun g => ⟨by
    by_cases hk : k = i
    · exact absurd g.2 (h hk)
    · omega, g.2⟩⟩)]

theorem plan48 (a : Arm) (ha : a.Ok) (t : Int) (ht : 0 ≤ t ∧ t ≤ a.L) : PureC Try.prog 48 true [a.v, .int .i64 t] (· = .tup [.sl 1 a.spots.length (rowOf (intC (a.stepOf t)) (0, 0) a.spots), .sl 1 a.spots.length (rowOf (intC (a.ownOf t)) (0, 0) a.spots)]) := by
  have hsl := Arm.spots_le ha
  refine pureC_of_exec Try.E_ok Try.func48 rfl (by kernel_rfl) ?_
  (repeat' ((conv => whnf); (first | ((with_reducible refine spl (fun hc => ?_) (fun hc => ?_)) <;> (try (exfalso; omega))) | ((with_reducible refine spl' (fun hc => ?_) (fun hc => ?_)) <;> (try (exfalso; omega))) | (with_reducible refine imp_intro (fun hc => ?_)) | refine vcq (k := ?_) | refine dr 8 (k := ?_) | refine dr 12 (k := ?_) | refine dr 1013 (k := ?_) | fail))); (all_goals (try (conv => whnf))); (all_goals (try (with_reducible exact trivial))); (repeat' ((first | (refine callee_fo (states61 a ha) rfl ?_; rintro _ rfl) | (refine pcall_intro (states61 a ha) rfl ?_) | (refine pcall_soft (fun _ => states61 a ha) rfl ?_) | (refine callee_fo (there46 a ha t ht) rfl ?_; rintro _ rfl) | (refine pcall_intro (there46 a ha t ht) rfl ?_) | (refine pcall_soft (fun _ => there46 a ha t ht) rfl ?_)); (repeat' ((conv => whnf); (first | ((with_reducible refine spl (fun hc => ?_) (fun hc => ?_)) <;> (try (exfalso; omega))) | ((with_reducible refine spl' (fun hc => ?_) (fun hc => ?_)) <;> (try (exfalso; omega))) | (with_reducible refine imp_intro (fun hc => ?_)) | refine vcq (k := ?_) | refine dr 8 (k := ?_) | refine dr 12 (k := ?_) | refine dr 1013 (k := ?_) | fail))); (all_goals (try (conv => whnf))); (all_goals (try (with_reducible exact trivial))))); (all_goals (try (refine ⟨_, rfl, ?_⟩; (repeat' ((conv => whnf); (first | ((with_reducible refine spl (fun hc => ?_) (fun hc => ?_)) <;> (try (exfalso; omega))) | ((with_reducible refine spl' (fun hc => ?_) (fun hc => ?_)) <;> (try (exfalso; omega))) | (with_reducible refine imp_intro (fun hc => ?_)) | refine vcq (k := ?_) | refine dr 8 (k := ?_) | refine dr 12 (k := ?_) | refine dr 1013 (k := ?_) | fail))); (all_goals (try (conv => whnf))); (all_goals (try (with_reducible exact trivial))))))
  refine ⟨Nat, fun i => i ≤ a.spots.length, fun i => a.spots.length - i, fun i => [(8, .int .i64 i)], fun i => [(1, .row 3 1 (a.spots.length : Int).toNat (a.stepI t i) false), (2, .row 3 1 (a.spots.length : Int).toNat (a.cmdI t i) false)], fun _ => [], 0, ⟨by omega, some [some 0, some 1, some 2], ?_⟩, ?_⟩
  · (repeat' ((conv => whnf); (first | ((with_reducible refine spl (fun hc => ?_) (fun hc => ?_)) <;> (try (exfalso; omega))) | ((with_reducible refine spl' (fun hc => ?_) (fun hc => ?_)) <;> (try (exfalso; omega))) | (with_reducible refine imp_intro (fun hc => ?_)) | refine vcq (k := ?_) | refine dr 8 (k := ?_) | refine dr 12 (k := ?_) | refine dr 1013 (k := ?_) | fail))); (all_goals (try (conv => whnf))); (all_goals (try (with_reducible exact trivial)))
    (all_goals (try (refine ⟨fun k _ => (a.stepI_zero t k).symm, ?_⟩; (repeat' ((conv => whnf); (first | ((with_reducible refine spl (fun hc => ?_) (fun hc => ?_)) <;> (try (exfalso; omega))) | ((with_reducible refine spl' (fun hc => ?_) (fun hc => ?_)) <;> (try (exfalso; omega))) | (with_reducible refine imp_intro (fun hc => ?_)) | refine vcq (k := ?_) | refine dr 8 (k := ?_) | refine dr 12 (k := ?_) | refine dr 1013 (k := ?_) | fail))); (all_goals (try (conv => whnf))); (all_goals (try (with_reducible exact trivial))))))
    (all_goals (try (refine ⟨fun k _ => (a.cmdI_zero t k).symm, ?_⟩; (repeat' ((conv => whnf); (first | ((with_reducible refine spl (fun hc => ?_) (fun hc => ?_)) <;> (try (exfalso; omega))) | ((with_reducible refine spl' (fun hc => ?_) (fun hc => ?_)) <;> (try (exfalso; omega))) | (with_reducible refine imp_intro (fun hc => ?_)) | refine vcq (k := ?_) | refine dr 8 (k := ?_) | refine dr 12 (k := ?_) | refine dr 1013 (k := ?_) | fail))); (all_goals (try (conv => whnf))); (all_goals (try (with_reducible exact trivial))))))
  · intro i hi
    have hi : i ≤ a.spots.length := hi
    have hn : a.spots.getD (i : Int).toNat (0, 0) = a.nth i := by rw [Int.toNat_natCast]; rfl
    have hti : (i : Int).toNat = i := Int.toNat_natCast i
    by_cases hlt : i < a.spots.length
    · have hhas : a.Has (a.spots.getD (i : Int).toNat (0, 0)).1 (a.spots.getD (i : Int).toNat (0, 0)).2 := by rw [hti]; exact spots_mem ha hlt
      (repeat' ((conv => whnf); (first | ((with_reducible refine spl (fun hc => ?_) (fun hc => ?_)) <;> (try (exfalso; omega))) | ((with_reducible refine spl' (fun hc => ?_) (fun hc => ?_)) <;> (try (exfalso; omega))) | (with_reducible refine imp_intro (fun hc => ?_)) | refine vcq (k := ?_) | refine dr 8 (k := ?_) | refine dr 12 (k := ?_) | refine dr 1013 (k := ?_) | fail))); (all_goals (try (conv => whnf))); (all_goals (try (with_reducible exact trivial))); (repeat' ((first | (refine callee_fo (command63 a ha (a.There t) _ _ hhas) rfl ?_; rintro _ rfl) | (refine pcall_intro (command63 a ha (a.There t) _ _ hhas) rfl ?_) | (refine pcall_soft (fun _ => command63 a ha (a.There t) _ _ hhas) rfl ?_)); (repeat' ((conv => whnf); (first | ((with_reducible refine spl (fun hc => ?_) (fun hc => ?_)) <;> (try (exfalso; omega))) | ((with_reducible refine spl' (fun hc => ?_) (fun hc => ?_)) <;> (try (exfalso; omega))) | (with_reducible refine imp_intro (fun hc => ?_)) | refine vcq (k := ?_) | refine dr 8 (k := ?_) | refine dr 12 (k := ?_) | refine dr 1013 (k := ?_) | fail))); (all_goals (try (conv => whnf))); (all_goals (try (with_reducible exact trivial))))); (all_goals (try (refine ⟨_, rfl, ?_⟩; (repeat' ((conv => whnf); (first | ((with_reducible refine spl (fun hc => ?_) (fun hc => ?_)) <;> (try (exfalso; omega))) | ((with_reducible refine spl' (fun hc => ?_) (fun hc => ?_)) <;> (try (exfalso; omega))) | (with_reducible refine imp_intro (fun hc => ?_)) | refine vcq (k := ?_) | refine dr 8 (k := ?_) | refine dr 12 (k := ?_) | refine dr 1013 (k := ?_) | fail))); (all_goals (try (conv => whnf))); (all_goals (try (with_reducible exact trivial))))))
      · have hth : a.There t (a.spots.getD (i : Int).toNat (0, 0)).1 (a.spots.getD (i : Int).toNat (0, 0)).2 := hc
        refine ⟨i + 1, ⟨by omega, by dsimp only; omega⟩, some [some 0, some 1, some 2], ?_⟩
        (repeat' ((conv => whnf); (first | ((with_reducible refine spl (fun hc => ?_) (fun hc => ?_)) <;> (try (exfalso; omega))) | ((with_reducible refine spl' (fun hc => ?_) (fun hc => ?_)) <;> (try (exfalso; omega))) | (with_reducible refine imp_intro (fun hc => ?_)) | refine vcq (k := ?_) | refine dr 8 (k := ?_) | refine dr 12 (k := ?_) | refine dr 1013 (k := ?_) | fail))); (all_goals (try (conv => whnf))); (all_goals (try (with_reducible exact trivial)))
        rw [hn] at hth
        refine ⟨fun k hk => ?_, ?_⟩
        · dsimp only
          rw [hti]
          by_cases hki : k = i
          · subst hki
            rw [if_pos rfl, if_pos rfl]
            show [V.int .i64 0] = [_]
            rw [if_pos (by omega), if_pos hth]
          · rw [if_neg hki, if_neg hki]
            exact Arm.stepI_set hki
        · (repeat' ((conv => whnf); (first | ((with_reducible refine spl (fun hc => ?_) (fun hc => ?_)) <;> (try (exfalso; omega))) | ((with_reducible refine spl' (fun hc => ?_) (fun hc => ?_)) <;> (try (exfalso; omega))) | (with_reducible refine imp_intro (fun hc => ?_)) | refine vcq (k := ?_) | refine dr 8 (k := ?_) | refine dr 12 (k := ?_) | refine dr 1013 (k := ?_) | fail))); (all_goals (try (conv => whnf))); (all_goals (try (with_reducible exact trivial)))
          refine ⟨fun k hk => ?_, ?_⟩
          · dsimp only
            rw [hn, hti]
            by_cases hki : k = i
            · subst hki
              rw [if_pos rfl]
              show [V.int .i64 (a.cmd (a.There t) (a.nth k).1 (a.nth k).2)] = [_]
              rw [if_pos ⟨by omega, hth⟩, Arm.own_zero hth]
            · rw [if_neg hki]
              exact Arm.cmdI_set (fun h => absurd h hki)
          · (repeat' ((conv => whnf); (first | ((with_reducible refine spl (fun hc => ?_) (fun hc => ?_)) <;> (try (exfalso; omega))) | ((with_reducible refine spl' (fun hc => ?_) (fun hc => ?_)) <;> (try (exfalso; omega))) | (with_reducible refine imp_intro (fun hc => ?_)) | refine vcq (k := ?_) | refine dr 8 (k := ?_) | refine dr 12 (k := ?_) | refine dr 1013 (k := ?_) | fail))); (all_goals (try (conv => whnf))); (all_goals (try (with_reducible exact trivial)))
      · have hth : ¬ a.There t (a.spots.getD (i : Int).toNat (0, 0)).1 (a.spots.getD (i : Int).toNat (0, 0)).2 := hc
        refine ⟨i + 1, ⟨by omega, by dsimp only; omega⟩, some [some 0, some 1, some 2], ?_⟩
        (repeat' ((conv => whnf); (first | ((with_reducible refine spl (fun hc => ?_) (fun hc => ?_)) <;> (try (exfalso; omega))) | ((with_reducible refine spl' (fun hc => ?_) (fun hc => ?_)) <;> (try (exfalso; omega))) | (with_reducible refine imp_intro (fun hc => ?_)) | refine vcq (k := ?_) | refine dr 8 (k := ?_) | refine dr 12 (k := ?_) | refine dr 1013 (k := ?_) | fail))); (all_goals (try (conv => whnf))); (all_goals (try (with_reducible exact trivial)))
        rw [hn] at hth
        refine ⟨fun k hk => ?_, ?_⟩
        · dsimp only
          rw [hti]
          by_cases hki : k = i
          · subst hki
            rw [if_pos rfl]
            show [V.int .i64 (-1)] = [_]
            rw [if_pos (by omega), if_neg hth]
          · rw [if_neg hki]
            exact Arm.stepI_set hki
        · (repeat' ((conv => whnf); (first | ((with_reducible refine spl (fun hc => ?_) (fun hc => ?_)) <;> (try (exfalso; omega))) | ((with_reducible refine spl' (fun hc => ?_) (fun hc => ?_)) <;> (try (exfalso; omega))) | (with_reducible refine imp_intro (fun hc => ?_)) | refine vcq (k := ?_) | refine dr 8 (k := ?_) | refine dr 12 (k := ?_) | refine dr 1013 (k := ?_) | fail))); (all_goals (try (conv => whnf))); (all_goals (try (with_reducible exact trivial)))
          refine ⟨fun k hk => Arm.cmdI_set (fun h => by rw [h]; exact hth), ?_⟩
          (repeat' ((conv => whnf); (first | ((with_reducible refine spl (fun hc => ?_) (fun hc => ?_)) <;> (try (exfalso; omega))) | ((with_reducible refine spl' (fun hc => ?_) (fun hc => ?_)) <;> (try (exfalso; omega))) | (with_reducible refine imp_intro (fun hc => ?_)) | refine vcq (k := ?_) | refine dr 8 (k := ?_) | refine dr 12 (k := ?_) | refine dr 1013 (k := ?_) | fail))); (all_goals (try (conv => whnf))); (all_goals (try (with_reducible exact trivial)))
    · obtain rfl : i = a.spots.length := by omega
      (repeat' ((conv => whnf); (first | ((with_reducible refine spl (fun hc => ?_) (fun hc => ?_)) <;> (try (exfalso; omega))) | ((with_reducible refine spl' (fun hc => ?_) (fun hc => ?_)) <;> (try (exfalso; omega))) | (with_reducible refine imp_intro (fun hc => ?_)) | refine vcq (k := ?_) | refine dr 8 (k := ?_) | refine dr 12 (k := ?_) | refine dr 1013 (k := ?_) | fail))); (all_goals (try (conv => whnf))); (all_goals (try (with_reducible exact trivial)))
      refine ⟨Bool × Nat × Prop, fun q => q.2.1 + a.left t q.2.1 ≤ 698 ∧ (q.2.2 → q.2.1 + a.left t q.2.1 ≤ 697) ∧ (¬ q.2.2 → ∀ x v, a.Has x v → a.Can (a.Reach (a.There t) q.2.1) x v → a.Reach (a.There t) q.2.1 x v), fun q => 2 * a.left t q.2.1 + (@ite _ q.2.2 (Classical.propDecidable _) 1 0), fun q => [(9, .int .i64 (q.2.1 + 1)), (10, .prop q.2.2 (Classical.propDecidable _)), (7, match q.1 with | true => .osl 3 a.spots.length | false => .sl 1 a.spots.length (rowOf (boolC (a.Reach (a.There t) q.2.1)) (0, 0) a.spots))], fun q => [(1, .row 3 1 (a.spots.length : Int).toNat (a.stepR t q.2.1 0) false), (2, .row 3 1 (a.spots.length : Int).toNat (a.cmdR t q.2.1 0) false)], fun q => [match q.1 with | true => .row 4 1 a.spots.length (rowOf (boolC (a.Reach (a.There t) q.2.1)) (0, 0) a.spots) false | false => .gone], (false, 0, True), ⟨⟨?_, fun _ => ?_, fun h => (h trivial).elim⟩, some [some 0, some 1, some 2, none], ?_⟩, ?_⟩
      · dsimp only
        have := sel_le (fun x v => ¬ a.Reach (a.There t) 0 x v) a.spots
        unfold Arm.left
        omega
      · dsimp only
        have := sel_le (fun x v => ¬ a.Reach (a.There t) 0 x v) a.spots
        unfold Arm.left
        omega
      · (repeat' ((conv => whnf); (first | ((with_reducible refine spl (fun hc => ?_) (fun hc => ?_)) <;> (try (exfalso; omega))) | ((with_reducible refine spl' (fun hc => ?_) (fun hc => ?_)) <;> (try (exfalso; omega))) | (with_reducible refine imp_intro (fun hc => ?_)) | refine vcq (k := ?_) | refine dr 8 (k := ?_) | refine dr 12 (k := ?_) | refine dr 1013 (k := ?_) | fail))); (all_goals (try (conv => whnf))); (all_goals (try (with_reducible exact trivial)))
        (all_goals (try (refine ⟨fun k hk => Arm.stepI_end (by omega), ?_⟩; (repeat' ((conv => whnf); (first | ((with_reducible refine spl (fun hc => ?_) (fun hc => ?_)) <;> (try (exfalso; omega))) | ((with_reducible refine spl' (fun hc => ?_) (fun hc => ?_)) <;> (try (exfalso; omega))) | (with_reducible refine imp_intro (fun hc => ?_)) | refine vcq (k := ?_) | refine dr 8 (k := ?_) | refine dr 12 (k := ?_) | refine dr 1013 (k := ?_) | fail))); (all_goals (try (conv => whnf))); (all_goals (try (with_reducible exact trivial))))))
        (all_goals (try (refine ⟨fun k hk => Arm.cmdI_end (by omega), ?_⟩; (repeat' ((conv => whnf); (first | ((with_reducible refine spl (fun hc => ?_) (fun hc => ?_)) <;> (try (exfalso; omega))) | ((with_reducible refine spl' (fun hc => ?_) (fun hc => ?_)) <;> (try (exfalso; omega))) | (with_reducible refine imp_intro (fun hc => ?_)) | refine vcq (k := ?_) | refine dr 8 (k := ?_) | refine dr 12 (k := ?_) | refine dr 1013 (k := ?_) | fail))); (all_goals (try (conv => whnf))); (all_goals (try (with_reducible exact trivial))))))
      · rintro ⟨b, n, ch⟩ ⟨h1, h2, h3⟩
        dsimp only at h1 h2 h3
        have hleft : a.left t (n + 1) ≤ a.left t n := sel_mono_le fun x v h g => h (.inl g)
        cases b
        all_goals (
          (repeat' ((conv => whnf); (first | ((with_reducible refine spl (fun hc => ?_) (fun hc => ?_)) <;> (try (exfalso; omega))) | ((with_reducible refine spl' (fun hc => ?_) (fun hc => ?_)) <;> (try (exfalso; omega))) | (with_reducible refine imp_intro (fun hc => ?_)) | refine vcq (k := ?_) | refine dr 8 (k := ?_) | refine dr 12 (k := ?_) | refine dr 1013 (k := ?_) | fail))); (all_goals (try (conv => whnf))); (all_goals (try (with_reducible exact trivial)))
          · have hch : ch := hc
            refine ⟨Nat × Prop, fun j => j.1 ≤ a.spots.length ∧ (j.2 ↔ ∃ k, k < j.1 ∧ a.Reach (a.There t) (n + 1) (a.nth k).1 (a.nth k).2 ∧ ¬ a.Reach (a.There t) n (a.nth k).1 (a.nth k).2), fun j => a.spots.length - j.1, fun j => [(12, .int .i64 j.1), (10, .prop j.2 (Classical.propDecidable _))], fun j => [(1, .row 3 1 (a.spots.length : Int).toNat (a.stepR t n j.1) false), (2, .row 3 1 (a.spots.length : Int).toNat (a.cmdR t n j.1) false), (5, .row 4 1 (0 + a.spots.length) (a.boolR t n j.1) false)], fun _ => [], (0, False), ⟨⟨Nat.zero_le _, ⟨False.elim, fun ⟨k, h, _⟩ => absurd h (Nat.not_lt_zero k)⟩⟩, some [some 0, some 1, some 2, some 3, some 4, some 5], ?_⟩, ?_⟩
            · (repeat' ((conv => whnf); (first | ((with_reducible refine spl (fun hc => ?_) (fun hc => ?_)) <;> (try (exfalso; omega))) | ((with_reducible refine spl' (fun hc => ?_) (fun hc => ?_)) <;> (try (exfalso; omega))) | (with_reducible refine imp_intro (fun hc => ?_)) | refine vcq (k := ?_) | refine dr 8 (k := ?_) | refine dr 12 (k := ?_) | refine dr 1013 (k := ?_) | fail))); (all_goals (try (conv => whnf))); (all_goals (try (with_reducible exact trivial)))
              (all_goals (try (refine ⟨fun k hk => Arm.boolR_zero, ?_⟩; (repeat' ((conv => whnf); (first | ((with_reducible refine spl (fun hc => ?_) (fun hc => ?_)) <;> (try (exfalso; omega))) | ((with_reducible refine spl' (fun hc => ?_) (fun hc => ?_)) <;> (try (exfalso; omega))) | (with_reducible refine imp_intro (fun hc => ?_)) | refine vcq (k := ?_) | refine dr 8 (k := ?_) | refine dr 12 (k := ?_) | refine dr 1013 (k := ?_) | fail))); (all_goals (try (conv => whnf))); (all_goals (try (with_reducible exact trivial))))))
            · rintro ⟨j, ch'⟩ ⟨hj, hch'⟩
              dsimp only at hj hch'
              have hn : a.spots.getD (j : Int).toNat (0, 0) = a.nth j := by rw [Int.toNat_natCast]; rfl
              have hti : (j : Int).toNat = j := Int.toNat_natCast j
              by_cases hlt : j < a.spots.length
              · have hhas : a.Has (a.spots.getD (j : Int).toNat (0, 0)).1 (a.spots.getD (j : Int).toNat (0, 0)).2 := by rw [hti]; exact spots_mem ha hlt
                have hnochange : (a.Reach (a.There t) (n + 1) (a.nth j).1 (a.nth j).2 → a.Reach (a.There t) n (a.nth j).1 (a.nth j).2) → (ch' ↔ ∃ k, k < j + 1 ∧ a.Reach (a.There t) (n + 1) (a.nth k).1 (a.nth k).2 ∧ ¬ a.Reach (a.There t) n (a.nth k).1 (a.nth k).2) := fun hs => hch'.trans ⟨fun ⟨k, g1, g2⟩ => ⟨k, by omega, g2⟩, fun ⟨k, g1, g2, g3⟩ => ⟨k, by
                  rcases Nat.lt_or_eq_of_le (show k ≤ j by omega) with g4 | rfl
                  · exact g4
                  · exact absurd (hs g2) g3, g2, g3⟩⟩
                (repeat' ((conv => whnf); (first | ((with_reducible refine spl (fun hc => ?_) (fun hc => ?_)) <;> (try (exfalso; omega))) | ((with_reducible refine spl' (fun hc => ?_) (fun hc => ?_)) <;> (try (exfalso; omega))) | (with_reducible refine imp_intro (fun hc => ?_)) | refine vcq (k := ?_) | refine dr 8 (k := ?_) | refine dr 12 (k := ?_) | refine dr 1013 (k := ?_) | fail))); (all_goals (try (conv => whnf))); (all_goals (try (with_reducible exact trivial)))
                · have hre : a.Reach (a.There t) n (a.spots.getD (j : Int).toNat (0, 0)).1 (a.spots.getD (j : Int).toNat (0, 0)).2 := hc
                  rw [hn] at hre
                  refine ⟨(j + 1, ch'), ⟨⟨by dsimp only; omega, hnochange fun _ => hre⟩, by dsimp only; omega⟩, some [some 0, some 1, some 2, some 3, some 4, some 5], ?_⟩
                  (repeat' ((conv => whnf); (first | ((with_reducible refine spl (fun hc => ?_) (fun hc => ?_)) <;> (try (exfalso; omega))) | ((with_reducible refine spl' (fun hc => ?_) (fun hc => ?_)) <;> (try (exfalso; omega))) | (with_reducible refine imp_intro (fun hc => ?_)) | refine vcq (k := ?_) | refine dr 8 (k := ?_) | refine dr 12 (k := ?_) | refine dr 1013 (k := ?_) | fail))); (all_goals (try (conv => whnf))); (all_goals (try (with_reducible exact trivial)))
                  refine ⟨fun k hk => Arm.stepR_congr (Arm.rj_step fun _ => hre), ?_⟩
                  (repeat' ((conv => whnf); (first | ((with_reducible refine spl (fun hc => ?_) (fun hc => ?_)) <;> (try (exfalso; omega))) | ((with_reducible refine spl' (fun hc => ?_) (fun hc => ?_)) <;> (try (exfalso; omega))) | (with_reducible refine imp_intro (fun hc => ?_)) | refine vcq (k := ?_) | refine dr 8 (k := ?_) | refine dr 12 (k := ?_) | refine dr 1013 (k := ?_) | fail))); (all_goals (try (conv => whnf))); (all_goals (try (with_reducible exact trivial)))
                  refine ⟨fun k hk => Arm.cmdR_congr (Arm.rj_step fun _ => hre), ?_⟩
                  (repeat' ((conv => whnf); (first | ((with_reducible refine spl (fun hc => ?_) (fun hc => ?_)) <;> (try (exfalso; omega))) | ((with_reducible refine spl' (fun hc => ?_) (fun hc => ?_)) <;> (try (exfalso; omega))) | (with_reducible refine imp_intro (fun hc => ?_)) | refine vcq (k := ?_) | refine dr 8 (k := ?_) | refine dr 12 (k := ?_) | refine dr 1013 (k := ?_) | fail))); (all_goals (try (conv => whnf))); (all_goals (try (with_reducible exact trivial)))
                  refine ⟨fun k hk => Arm.boolR_congr (Arm.rj_step fun _ => hre), ?_⟩
                  (repeat' ((conv => whnf); (first | ((with_reducible refine spl (fun hc => ?_) (fun hc => ?_)) <;> (try (exfalso; omega))) | ((with_reducible refine spl' (fun hc => ?_) (fun hc => ?_)) <;> (try (exfalso; omega))) | (with_reducible refine imp_intro (fun hc => ?_)) | refine vcq (k := ?_) | refine dr 8 (k := ?_) | refine dr 12 (k := ?_) | refine dr 1013 (k := ?_) | fail))); (all_goals (try (conv => whnf))); (all_goals (try (with_reducible exact trivial)))
                · have hre : ¬ a.Reach (a.There t) n (a.spots.getD (j : Int).toNat (0, 0)).1 (a.spots.getD (j : Int).toNat (0, 0)).2 := hc
                  rw [hn] at hre
                  refine pcall_view (command63 a ha (a.Reach (a.There t) n) (a.spots.getD (j : Int).toNat (0, 0)).1 (a.spots.getD (j : Int).toNat (0, 0)).2 hhas) (by (repeat' ((conv => whnf); (first | ((with_reducible refine spl (fun hc => ?_) (fun hc => ?_)) <;> (try (exfalso; omega))) | ((with_reducible refine spl' (fun hc => ?_) (fun hc => ?_)) <;> (try (exfalso; omega))) | (with_reducible refine imp_intro (fun hc => ?_)) | refine vcq (k := ?_) | refine dr 8 (k := ?_) | refine dr 12 (k := ?_) | refine dr 1013 (k := ?_) | fail))); (all_goals (try (conv => whnf))); (all_goals (try (with_reducible exact trivial)))) ?_
                  (repeat' ((conv => whnf); (first | ((with_reducible refine spl (fun hc => ?_) (fun hc => ?_)) <;> (try (exfalso; omega))) | ((with_reducible refine spl' (fun hc => ?_) (fun hc => ?_)) <;> (try (exfalso; omega))) | (with_reducible refine imp_intro (fun hc => ?_)) | refine vcq (k := ?_) | refine dr 8 (k := ?_) | refine dr 12 (k := ?_) | refine dr 1013 (k := ?_) | fail))); (all_goals (try (conv => whnf))); (all_goals (try (with_reducible exact trivial)))
                  · have hcan : a.Can (a.Reach (a.There t) n) (a.spots.getD (j : Int).toNat (0, 0)).1 (a.spots.getD (j : Int).toNat (0, 0)).2 := hc
                    rw [hn] at hcan hhas
                    have hre' : a.Reach (a.There t) (n + 1) (a.nth j).1 (a.nth j).2 := .inr ⟨hhas, hcan⟩
                    refine ⟨(j + 1, True), ⟨⟨by dsimp only; omega, ⟨fun _ => ⟨j, by dsimp only; omega, hre', hre⟩, fun _ => trivial⟩⟩, by dsimp only; omega⟩, some [some 0, some 1, some 2, some 3, some 4, some 5], ?_⟩
                    (repeat' ((conv => whnf); (first | ((with_reducible refine spl (fun hc => ?_) (fun hc => ?_)) <;> (try (exfalso; omega))) | ((with_reducible refine spl' (fun hc => ?_) (fun hc => ?_)) <;> (try (exfalso; omega))) | (with_reducible refine imp_intro (fun hc => ?_)) | refine vcq (k := ?_) | refine dr 8 (k := ?_) | refine dr 12 (k := ?_) | refine dr 1013 (k := ?_) | fail))); (all_goals (try (conv => whnf))); (all_goals (try (with_reducible exact trivial)))
                    refine ⟨fun k hk => ?_, ?_⟩
                    · dsimp only
                      rw [hti]
                      by_cases hki : k = j
                      · subst hki
                        rw [if_pos rfl]
                        show [V.int .i64 ((n : Int) + 1)] = [_]
                        rw [if_pos (show a.rj t n (k + 1) k from .inr ⟨by omega, hre'⟩), Arm.rk_succ hre' hre]
                        rfl
                      · rw [if_neg hki]
                        exact Arm.stepR_congr (Arm.rj_other hki)
                    · (repeat' ((conv => whnf); (first | ((with_reducible refine spl (fun hc => ?_) (fun hc => ?_)) <;> (try (exfalso; omega))) | ((with_reducible refine spl' (fun hc => ?_) (fun hc => ?_)) <;> (try (exfalso; omega))) | (with_reducible refine imp_intro (fun hc => ?_)) | refine vcq (k := ?_) | refine dr 8 (k := ?_) | refine dr 12 (k := ?_) | refine dr 1013 (k := ?_) | fail))); (all_goals (try (conv => whnf))); (all_goals (try (with_reducible exact trivial)))
                      refine ⟨fun k hk => ?_, ?_⟩
                      · dsimp only
                        rw [hn, hti]
                        by_cases hki : k = j
                        · subst hki
                          rw [if_pos rfl]
                          show [V.int .i64 (a.cmd (a.Reach (a.There t) n) (a.nth k).1 (a.nth k).2)] = [_]
                          rw [if_pos (show a.rj t n (k + 1) k from .inr ⟨by omega, hre'⟩), Arm.own_succ hre' hre]
                        · rw [if_neg hki]
                          exact Arm.cmdR_congr (Arm.rj_other hki)
                      · (repeat' ((conv => whnf); (first | ((with_reducible refine spl (fun hc => ?_) (fun hc => ?_)) <;> (try (exfalso; omega))) | ((with_reducible refine spl' (fun hc => ?_) (fun hc => ?_)) <;> (try (exfalso; omega))) | (with_reducible refine imp_intro (fun hc => ?_)) | refine vcq (k := ?_) | refine dr 8 (k := ?_) | refine dr 12 (k := ?_) | refine dr 1013 (k := ?_) | fail))); (all_goals (try (conv => whnf))); (all_goals (try (with_reducible exact trivial)))
                        refine ⟨fun k hk => ?_, ?_⟩
                        · dsimp only
                          rw [hti]
                          by_cases hki : k = j
                          · subst hki
                            rw [if_pos rfl]
                            show [_] = [_]
                            congr 1
                            exact prop_eq ⟨fun _ => .inr ⟨by omega, hre'⟩, fun _ => trivial⟩
                          · rw [if_neg hki]
                            exact Arm.boolR_congr (Arm.rj_other hki)
                        · (repeat' ((conv => whnf); (first | ((with_reducible refine spl (fun hc => ?_) (fun hc => ?_)) <;> (try (exfalso; omega))) | ((with_reducible refine spl' (fun hc => ?_) (fun hc => ?_)) <;> (try (exfalso; omega))) | (with_reducible refine imp_intro (fun hc => ?_)) | refine vcq (k := ?_) | refine dr 8 (k := ?_) | refine dr 12 (k := ?_) | refine dr 1013 (k := ?_) | fail))); (all_goals (try (conv => whnf))); (all_goals (try (with_reducible exact trivial)))
                  · have hcan : ¬ a.Can (a.Reach (a.There t) n) (a.spots.getD (j : Int).toNat (0, 0)).1 (a.spots.getD (j : Int).toNat (0, 0)).2 := hc
                    rw [hn] at hcan hhas
                    have hre' : a.Reach (a.There t) (n + 1) (a.nth j).1 (a.nth j).2 → a.Reach (a.There t) n (a.nth j).1 (a.nth j).2 := fun h => h.elim id (fun h => absurd h.2 hcan)
                    refine ⟨(j + 1, ch'), ⟨⟨by dsimp only; omega, hnochange hre'⟩, by dsimp only; omega⟩, some [some 0, some 1, some 2, some 3, some 4, some 5], ?_⟩
                    (repeat' ((conv => whnf); (first | ((with_reducible refine spl (fun hc => ?_) (fun hc => ?_)) <;> (try (exfalso; omega))) | ((with_reducible refine spl' (fun hc => ?_) (fun hc => ?_)) <;> (try (exfalso; omega))) | (with_reducible refine imp_intro (fun hc => ?_)) | refine vcq (k := ?_) | refine dr 8 (k := ?_) | refine dr 12 (k := ?_) | refine dr 1013 (k := ?_) | fail))); (all_goals (try (conv => whnf))); (all_goals (try (with_reducible exact trivial)))
                    refine ⟨fun k hk => Arm.stepR_congr (Arm.rj_step hre'), ?_⟩
                    (repeat' ((conv => whnf); (first | ((with_reducible refine spl (fun hc => ?_) (fun hc => ?_)) <;> (try (exfalso; omega))) | ((with_reducible refine spl' (fun hc => ?_) (fun hc => ?_)) <;> (try (exfalso; omega))) | (with_reducible refine imp_intro (fun hc => ?_)) | refine vcq (k := ?_) | refine dr 8 (k := ?_) | refine dr 12 (k := ?_) | refine dr 1013 (k := ?_) | fail))); (all_goals (try (conv => whnf))); (all_goals (try (with_reducible exact trivial)))
                    refine ⟨fun k hk => Arm.cmdR_congr (Arm.rj_step hre'), ?_⟩
                    (repeat' ((conv => whnf); (first | ((with_reducible refine spl (fun hc => ?_) (fun hc => ?_)) <;> (try (exfalso; omega))) | ((with_reducible refine spl' (fun hc => ?_) (fun hc => ?_)) <;> (try (exfalso; omega))) | (with_reducible refine imp_intro (fun hc => ?_)) | refine vcq (k := ?_) | refine dr 8 (k := ?_) | refine dr 12 (k := ?_) | refine dr 1013 (k := ?_) | fail))); (all_goals (try (conv => whnf))); (all_goals (try (with_reducible exact trivial)))
                    refine ⟨fun k hk => Arm.boolR_congr (Arm.rj_step hre'), ?_⟩
                    (repeat' ((conv => whnf); (first | ((with_reducible refine spl (fun hc => ?_) (fun hc => ?_)) <;> (try (exfalso; omega))) | ((with_reducible refine spl' (fun hc => ?_) (fun hc => ?_)) <;> (try (exfalso; omega))) | (with_reducible refine imp_intro (fun hc => ?_)) | refine vcq (k := ?_) | refine dr 8 (k := ?_) | refine dr 12 (k := ?_) | refine dr 1013 (k := ?_) | fail))); (all_goals (try (conv => whnf))); (all_goals (try (with_reducible exact trivial)))
              · obtain rfl : j = a.spots.length := by omega
                have hlt2 : ch' → a.left t (n + 1) < a.left t n := by
                  intro h
                  obtain ⟨k, g1, g2, g3⟩ := hch'.1 h
                  have hk := spots_mem ha g1
                  exact sel_lt (fun x v h g => h (.inl g)) (s := a.nth k) ((a.mem_spots ha _ _).2 hk) g3 (fun h => h g2)
                have hstop : ¬ ch' → ∀ x v, a.Has x v → a.Reach (a.There t) (n + 1) x v → a.Reach (a.There t) n x v := by
                  intro h x v hx hr
                  refine Classical.byContradiction fun hno => h (hch'.2 ?_)
                  obtain ⟨k, hk, hks⟩ := List.getElem_of_mem ((a.mem_spots ha x v).2 hx)
                  have hg : a.nth k = (x, v) := by unfold Arm.nth; rw [List.getD_eq_getElem?_getD, List.getElem?_eq_getElem hk, Option.getD_some, hks]
                  exact ⟨k, hk, by rw [hg]; exact hr, by rw [hg]; exact hno⟩
                (repeat' ((conv => whnf); (first | ((with_reducible refine spl (fun hc => ?_) (fun hc => ?_)) <;> (try (exfalso; omega))) | ((with_reducible refine spl' (fun hc => ?_) (fun hc => ?_)) <;> (try (exfalso; omega))) | (with_reducible refine imp_intro (fun hc => ?_)) | refine vcq (k := ?_) | refine dr 8 (k := ?_) | refine dr 12 (k := ?_) | refine dr 1013 (k := ?_) | fail))); (all_goals (try (conv => whnf))); (all_goals (try (with_reducible exact trivial)))
                refine ⟨(true, n + 1, ch'), ⟨⟨?_, fun h => ?_, fun h x v hx hcan => .inr ⟨hx, hcan.mono fun y u hy hr => hstop h y u hy hr⟩⟩, ?_⟩, some [some 0, some 1, some 2, some 5], ?_⟩
                · dsimp only
                  have := h2 hch
                  omega
                · dsimp only
                  have := h2 hch
                  have := hlt2 h
                  omega
                · dsimp only
                  rw [if_pos hch]
                  by_cases h : ch'
                  · have := hlt2 h
                    rw [if_pos h]
                    omega
                  · rw [if_neg h]
                    omega
                · (repeat' ((conv => whnf); (first | ((with_reducible refine spl (fun hc => ?_) (fun hc => ?_)) <;> (try (exfalso; omega))) | ((with_reducible refine spl' (fun hc => ?_) (fun hc => ?_)) <;> (try (exfalso; omega))) | (with_reducible refine imp_intro (fun hc => ?_)) | refine vcq (k := ?_) | refine dr 8 (k := ?_) | refine dr 12 (k := ?_) | refine dr 1013 (k := ?_) | fail))); (all_goals (try (conv => whnf))); (all_goals (try (with_reducible exact trivial)))
                  refine ⟨fun k hk => Arm.stepR_congr (Arm.rj_end (by omega)), ?_⟩
                  (repeat' ((conv => whnf); (first | ((with_reducible refine spl (fun hc => ?_) (fun hc => ?_)) <;> (try (exfalso; omega))) | ((with_reducible refine spl' (fun hc => ?_) (fun hc => ?_)) <;> (try (exfalso; omega))) | (with_reducible refine imp_intro (fun hc => ?_)) | refine vcq (k := ?_) | refine dr 8 (k := ?_) | refine dr 12 (k := ?_) | refine dr 1013 (k := ?_) | fail))); (all_goals (try (conv => whnf))); (all_goals (try (with_reducible exact trivial)))
                  refine ⟨fun k hk => Arm.cmdR_congr (Arm.rj_end (by omega)), ?_⟩
                  (repeat' ((conv => whnf); (first | ((with_reducible refine spl (fun hc => ?_) (fun hc => ?_)) <;> (try (exfalso; omega))) | ((with_reducible refine spl' (fun hc => ?_) (fun hc => ?_)) <;> (try (exfalso; omega))) | (with_reducible refine imp_intro (fun hc => ?_)) | refine vcq (k := ?_) | refine dr 8 (k := ?_) | refine dr 12 (k := ?_) | refine dr 1013 (k := ?_) | fail))); (all_goals (try (conv => whnf))); (all_goals (try (with_reducible exact trivial)))
                  refine ⟨fun k hk => ?_, ?_⟩
                  · show [_] = [_]
                    congr 1
                    exact prop_eq ((Arm.rj_end (by omega)).trans Arm.rj_zero)
                  · (repeat' ((conv => whnf); (first | ((with_reducible refine spl (fun hc => ?_) (fun hc => ?_)) <;> (try (exfalso; omega))) | ((with_reducible refine spl' (fun hc => ?_) (fun hc => ?_)) <;> (try (exfalso; omega))) | (with_reducible refine imp_intro (fun hc => ?_)) | refine vcq (k := ?_) | refine dr 8 (k := ?_) | refine dr 12 (k := ?_) | refine dr 1013 (k := ?_) | fail))); (all_goals (try (conv => whnf))); (all_goals (try (with_reducible exact trivial)))
          · have hst := h3 hc
            have hfr : ∀ k, a.rj t n 0 k ↔ a.Found (a.There t) (a.nth k).1 (a.nth k).2 := fun k => Arm.rj_zero.trans ⟨fun h => ⟨n, h⟩, fun ⟨m, h⟩ => h.stop hst⟩
            refine ⟨_, rfl, ?_⟩
            (repeat' ((conv => whnf); (first | ((with_reducible refine spl (fun hc => ?_) (fun hc => ?_)) <;> (try (exfalso; omega))) | ((with_reducible refine spl' (fun hc => ?_) (fun hc => ?_)) <;> (try (exfalso; omega))) | (with_reducible refine imp_intro (fun hc => ?_)) | refine vcq (k := ?_) | refine dr 8 (k := ?_) | refine dr 12 (k := ?_) | refine dr 1013 (k := ?_) | fail))); (all_goals (try (conv => whnf))); (all_goals (try (with_reducible exact trivial)))
            refine ⟨fun k hk => ?_, ?_⟩
            · show [_] = [_]
              rw [ite_congr' (hfr k)]
              rfl
            · (repeat' ((conv => whnf); (first | ((with_reducible refine spl (fun hc => ?_) (fun hc => ?_)) <;> (try (exfalso; omega))) | ((with_reducible refine spl' (fun hc => ?_) (fun hc => ?_)) <;> (try (exfalso; omega))) | (with_reducible refine imp_intro (fun hc => ?_)) | refine vcq (k := ?_) | refine dr 8 (k := ?_) | refine dr 12 (k := ?_) | refine dr 1013 (k := ?_) | fail))); (all_goals (try (conv => whnf))); (all_goals (try (with_reducible exact trivial)))
              refine ⟨fun k hk => ?_, ?_⟩
              · show [_] = [_]
                rw [ite_congr' (hfr k)]
                rfl
              · (repeat' ((conv => whnf); (first | ((with_reducible refine spl (fun hc => ?_) (fun hc => ?_)) <;> (try (exfalso; omega))) | ((with_reducible refine spl' (fun hc => ?_) (fun hc => ?_)) <;> (try (exfalso; omega))) | (with_reducible refine imp_intro (fun hc => ?_)) | refine vcq (k := ?_) | refine dr 8 (k := ?_) | refine dr 12 (k := ?_) | refine dr 1013 (k := ?_) | fail))); (all_goals (try (conv => whnf))); (all_goals (try (with_reducible exact trivial))))
end Go.Proofs
