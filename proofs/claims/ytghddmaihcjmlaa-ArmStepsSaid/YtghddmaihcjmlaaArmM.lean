/- Own work: a text of the proof of a law (ArmM). -/
import Derived.Test.YtghddmaihcjmlaaArmD1
namespace Go.Proofs
open Go Go.Sx
set_option maxRecDepth 100000

/-- the lowest command is there -/
theorem Arm.Can.cmd {a : Arm} {p : Int → Int → Prop} {x v : Int} (h : a.Can p x v) : a.IsCmd p x v (a.cmd p x v) := by
  have he : ∃ c, a.IsCmd p x v c := by
    obtain ⟨c, h1, h2, h3⟩ := h
    obtain ⟨n, hn⟩ : ∃ n : Nat, n = (c + a.F).toNat := ⟨_, rfl⟩
    induction n using Nat.strongRecOn generalizing c with
    | _ n ih =>
      by_cases hd : ∃ d, -a.F ≤ d ∧ d < c ∧ a.Good p x v d
      · obtain ⟨d, g1, g2, g3⟩ := hd
        exact ih _ (by omega) d g1 (by omega) g3 rfl
      · exact ⟨c, h1, h2, h3, fun d g1 g2 g3 => hd ⟨d, g1, g2, g3⟩⟩
  obtain ⟨c, hc⟩ := he
  rw [Arm.cmd_eq hc]
  exact hc

theorem Arm.There.has {a : Arm} {t x v : Int} (h : a.There t x v) : a.Has x v := Arm.Kept.has h

theorem Arm.Found.has {a : Arm} {t x v : Int} (h : a.Found (a.There t) x v) : a.Has x v := by
  obtain ⟨n, h⟩ := h
  exact h.has fun _ _ h => h.has

theorem Arm.spots_le {a : Arm} (ha : a.Ok) : a.spots.length ≤ 697 := by
  have hL := ha.L
  have hS := ha.S
  rw [Arm.spots, a.spotsTo_length]
  exact Nat.mul_le_mul (show (a.L + 1).toNat ≤ 41 by omega) (show (2 * a.S + 1).toNat ≤ 17 by omega)

/-- no state has more steps than there are states -/
theorem Arm.Found.le {a : Arm} (ha : a.Ok) {B : Int → Int → Prop} {x v : Int} (h : a.Found B x v) : a.rk B x v ≤ 697 := by
  have hr := h.rk
  have key : ∀ m, m ≤ a.rk B x v → m + (sel (fun x v => ¬ a.Reach B m x v) a.spots).length ≤ a.spots.length := by
    intro m
    induction m with
    | zero => intro _; rw [Nat.zero_add]; exact sel_le _ _
    | succ m ih =>
      intro hm
      have h1 := ih (by omega)
      obtain ⟨y, u, h2, h3, h4⟩ : ∃ y u, a.Has y u ∧ a.Can (a.Reach B m) y u ∧ ¬ a.Reach B m y u := by
        refine Classical.byContradiction fun hn => hr.2 m (by omega) (Arm.Reach.stop (n := m) (fun y u g1 g2 => Classical.byContradiction fun g3 => hn ⟨y, u, g1, g2, g3⟩) hr.1)
      have := sel_lt (D := fun x v => ¬ a.Reach B m x v) (D' := fun x v => ¬ a.Reach B (m + 1) x v) (l := a.spots) (fun _ _ h1 h2 => h1 (.inl h2)) ((a.mem_spots ha y u).2 h2) h4 (fun h => h (.inr ⟨h2, h3⟩))
      omega
  have := key _ (Nat.le_refl _)
  have := Arm.spots_le ha
  omega

/-- the steps of a state, or many -/
noncomputable def Arm.cost (a : Arm) (t x v : Int) : Int := @ite _ (a.Has x v ∧ a.Found (a.There t) x v) (Classical.propDecidable _) (a.rk (a.There t) x v) 1000000

theorem Arm.cost_ok {a : Arm} {t x v : Int} (h : a.Found (a.There t) x v) : a.cost t x v = a.rk (a.There t) x v := if_pos ⟨h.has, h⟩
theorem Arm.cost_no {a : Arm} {t x v : Int} (h : ¬ (a.Has x v ∧ a.Found (a.There t) x v)) : a.cost t x v = 1000000 := if_neg h

theorem Arm.cost_lt {a : Arm} {t x v m : Int} (hm : m ≤ 999999) (h : a.cost t x v ≤ m) : a.Has x v ∧ a.Found (a.There t) x v ∧ (a.rk (a.There t) x v : Int) ≤ m := by
  by_cases hf : a.Has x v ∧ a.Found (a.There t) x v
  · rw [Arm.cost_ok hf.2] at h; exact ⟨hf.1, hf.2, h⟩
  · rw [Arm.cost_no hf] at h; omega

theorem Arm.Found.reach {a : Arm} {B : Int → Int → Prop} {x v : Int} (h : a.Found B x v) {n : Nat} (hn : a.rk B x v ≤ n) : a.Reach B n x v := h.rk.1.mono hn

/-- a command whose worst cost is small -/
theorem Arm.worst_good {a : Arm} {t x v c w : Int} (hw0 : 0 ≤ w) (hw : w ≤ 999999) (h : ∀ k, -a.K ≤ k → k ≤ a.K → a.cost t (x + (v + (c + k))) (v + (c + k)) ≤ w) : a.Good (a.Reach (a.There t) w.toNat) x v c := by
  intro k h1 h2
  obtain ⟨g1, g2, g3⟩ := Arm.cost_lt hw (h k h1 h2)
  exact ⟨g1, g2.reach (by omega)⟩

theorem Arm.own_told {a : Arm} {t x v : Int} (hx : a.Has x v) (h : a.Found (a.There t) x v) : a.Can (Told (a.Found (a.There t)) (a.rkK (a.There t)) (a.rk (a.There t) x v)) x v := by
  have hr := h.rk
  rcases Nat.eq_zero_or_pos (a.rk (a.There t) x v) with h0 | h0
  · rw [h0]
    have h1 : a.There t x v := by have := hr.1; rw [h0] at this; exact this
    refine (Arm.Kept.can h1).mono fun y u _ hy => ⟨⟨0, hy⟩, .inr ⟨rfl, ?_⟩⟩
    have : a.rk (a.There t) y u = 0 := a.rk_eq ⟨hy, fun m hm => by omega⟩
    simp [Arm.rkK, this]
  · obtain ⟨n, hn⟩ : ∃ n, a.rk (a.There t) x v = n + 1 := ⟨a.rk (a.There t) x v - 1, by omega⟩
    have h1 := hr.1
    rw [hn] at h1
    rcases h1 with h1 | ⟨_, h1⟩
    · exact absurd h1 (hr.2 n (by omega))
    · refine h1.mono fun y u _ hy => ⟨⟨n, hy⟩, .inl ?_⟩
      have hfy : a.Found (a.There t) y u := ⟨n, hy⟩
      have h2 := hfy.rk
      have : a.rk (a.There t) y u ≤ n := by
        rcases Nat.lt_or_ge n (a.rk (a.There t) y u) with h3 | h3
        · exact absurd hy (h2.2 n h3)
        · exact h3
      simp only [Arm.rkK]
      omega

/-- the law of the least time, for one command -/
theorem Arm.fastest {a : Arm} (ha : a.Ok) {t x v c w : Int} (hx : a.Has x v) (hc : -a.F ≤ c ∧ c ≤ a.F) (h : ∀ k, -a.K ≤ k → k ≤ a.K → a.cost t (x + (v + (c + k))) (v + (c + k)) ≤ w) (he : ∃ k, -a.K ≤ k ∧ k ≤ a.K ∧ a.cost t (x + (v + (c + k))) (v + (c + k)) = w) :
    (¬ a.Found (a.There t) x v → ¬ w < 1000000) ∧ (a.Found (a.There t) x v → ¬ ((0 < (a.rk (a.There t) x v : Int) ∧ w < a.rk (a.There t) x v - 1) ∨ (c = a.own t x v ∧ max 0 ((a.rk (a.There t) x v : Int) - 1) < w) ∨ (c < a.own t x v ∧ w ≤ max 0 ((a.rk (a.There t) x v : Int) - 1)))) := by
  obtain ⟨k0, hk1, hk2, hk3⟩ := he
  have hcn : ∀ y u, 0 ≤ a.cost t y u := by
    intro y u
    by_cases hf : a.Has y u ∧ a.Found (a.There t) y u
    · rw [Arm.cost_ok hf.2]; omega
    · rw [Arm.cost_no hf]; omega
  have hw0 : 0 ≤ w := by rw [← hk3]; exact hcn _ _
  constructor
  · intro hf hw
    exact hf ⟨w.toNat + 1, .inr ⟨hx, c, hc.1, hc.2, Arm.worst_good hw0 (by omega) h⟩⟩
  · intro hf
    have hr := hf.rk
    have hle := hf.le ha
    have hcmd := (Arm.own_told hx hf).cmd
    rintro (⟨h1, h2⟩ | ⟨h1, h2⟩ | ⟨h1, h2⟩)
    · have : a.Reach (a.There t) (w.toNat + 1) x v := .inr ⟨hx, c, hc.1, hc.2, Arm.worst_good hw0 (by omega) h⟩
      exact hr.2 _ (by omega) this
    · have hg := hcmd.2.2.1
      obtain ⟨g1, g2, g3⟩ := hg k0 hk1 hk2
      have hco : c = a.cmd (Told (a.Found (a.There t)) (a.rkK (a.There t)) (a.rk (a.There t) x v)) x v := h1
      rw [← hco] at g1 g2 g3
      rw [Arm.cost_ok g2] at hk3
      simp only [Arm.rkK] at g3
      omega
    · refine hcmd.2.2.2 c hc.1 h1 fun k g1 g2 => ?_
      obtain ⟨q1, q2, q3⟩ := Arm.cost_lt (m := w) (by omega) (h k g1 g2)
      refine ⟨q1, q2, ?_⟩
      simp only [Arm.rkK]
      omega
end Go.Proofs
