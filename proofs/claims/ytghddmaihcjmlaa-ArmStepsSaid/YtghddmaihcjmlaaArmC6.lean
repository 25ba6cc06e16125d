/- Own work: a text of the proof of a law (ArmC6). -/
import Derived.Test.YtghddmaihcjmlaaArmC5
namespace Go.Proofs
open Go Go.Sx
set_option maxRecDepth 100000

/-- the states that come to a set in so many steps at most -/
def Arm.Reach (a : Arm) (B : Int → Int → Prop) : Nat → Int → Int → Prop
  | 0 => B
  | n + 1 => fun x v => a.Reach B n x v ∨ (a.Has x v ∧ a.Can (a.Reach B n) x v)
/-- the least number of steps -/
def Arm.IsRk (a : Arm) (B : Int → Int → Prop) (x v : Int) (n : Nat) : Prop := a.Reach B n x v ∧ ∀ m, m < n → ¬ a.Reach B m x v
noncomputable def Arm.rk (a : Arm) (B : Int → Int → Prop) (x v : Int) : Nat := @dite _ (∃ n, a.IsRk B x v n) (Classical.propDecidable _) (fun h => h.choose) (fun _ => 0)
noncomputable def Arm.rkK (a : Arm) (B : Int → Int → Prop) : List Int → Int
  | [x, v] => a.rk B x v
  | _ => 0
def Arm.Found (a : Arm) (B : Int → Int → Prop) (x v : Int) : Prop := ∃ n, a.Reach B n x v
/-- where an arm can stay for a target -/
def Arm.There (a : Arm) (t : Int) : Int → Int → Prop := a.Kept (a.Track t)

theorem Arm.rk_eq {a : Arm} {B : Int → Int → Prop} {x v : Int} {n : Nat} (h : a.IsRk B x v n) : a.rk B x v = n := by
  have he : ∃ n, a.IsRk B x v n := ⟨n, h⟩
  have h2 : a.IsRk B x v (a.rk B x v) := by unfold Arm.rk; rw [dif_pos he]; exact he.choose_spec
  rcases Nat.lt_trichotomy (a.rk B x v) n with h3 | h3 | h3
  · exact absurd h2.1 (h.2 _ h3)
  · exact h3
  · exact absurd h.1 (h2.2 _ h3)

theorem Arm.Reach.mono {a : Arm} {B : Int → Int → Prop} {n m : Nat} (h : n ≤ m) {x v : Int} (hr : a.Reach B n x v) : a.Reach B m x v := by
  induction h with
  | refl => exact hr
  | step _ ih => exact .inl ih

theorem Arm.Reach.has {a : Arm} {B : Int → Int → Prop} (hB : ∀ x v, B x v → a.Has x v) : ∀ {n : Nat} {x v : Int}, a.Reach B n x v → a.Has x v
  | 0, _, _, h => hB _ _ h
  | _ + 1, _, _, h => h.elim (fun h => h.has hB) (fun h => h.1)

/-- if no state is added, none is added later -/
theorem Arm.Reach.stop {a : Arm} {B : Int → Int → Prop} {n : Nat} (h : ∀ x v, a.Has x v → a.Can (a.Reach B n) x v → a.Reach B n x v) : ∀ {m : Nat} {x v : Int}, a.Reach B m x v → a.Reach B n x v
  | 0, _, _, hr => Arm.Reach.mono (Nat.zero_le n) hr
  | m + 1, x, v, hr => hr.elim (fun hr => hr.stop h) (fun hr => h x v hr.1 (hr.2.mono fun _ _ _ hq => hq.stop h))

theorem Arm.Found.rk {a : Arm} {B : Int → Int → Prop} {x v : Int} (h : a.Found B x v) : a.IsRk B x v (a.rk B x v) := by
  have he : ∃ n, a.IsRk B x v n := by
    obtain ⟨n, hn⟩ := h
    induction n using Nat.strongRecOn with
    | _ n ih =>
      by_cases hm : ∃ m, m < n ∧ a.Reach B m x v
      · obtain ⟨m, h1, h2⟩ := hm
        exact ih m h1 h2
      · exact ⟨n, hn, fun m h1 h2 => hm ⟨m, h1, h2⟩⟩
  obtain ⟨n, hn⟩ := he
  rw [Arm.rk_eq hn]
  exact hn

theorem filter_lt {α : Type} {p q : α → Bool} : ∀ {l : List α}, (∀ x ∈ l, q x = true → p x = true) → (∃ x ∈ l, p x = true ∧ q x = false) → (l.filter q).length < (l.filter p).length
  | [], _, h => by simp at h
  | x :: l, h1, h2 => by
    have hle : (l.filter q).length ≤ (l.filter p).length := by
      clear h2
      induction l with
      | nil => simp
      | cons y l ih =>
        have := ih (fun z hz => h1 z (by simp only [List.mem_cons] at hz ⊢; rcases hz with h | h; exact .inl h; exact .inr (.inr h)))
        have hy := h1 y (by simp)
        simp only [List.filter_cons]
        cases hq : q y <;> cases hp : p y <;> simp_all <;> omega
    have hx := h1 x (by simp)
    simp only [List.filter_cons]
    by_cases he : p x = true ∧ q x = false
    · simp [he.1, he.2]; omega
    · have := filter_lt (l := l) (fun z hz => h1 z (by simp [hz])) (by
        obtain ⟨z, hz, hz2⟩ := h2
        rcases List.mem_cons.1 hz with rfl | hz
        · exact absurd hz2 he
        · exact ⟨z, hz, hz2⟩)
      cases hq : q x <;> cases hp : p x <;> simp_all

theorem sel_lt {D D' : Int → Int → Prop} {l : List (Int × Int)} (h1 : ∀ x v, D' x v → D x v) {s : Int × Int} (hs : s ∈ l) (h2 : D s.1 s.2) (h3 : ¬ D' s.1 s.2) : (sel D' l).length < (sel D l).length :=
  filter_lt (fun x _ h => by simp only [decide_eq_true_eq] at h ⊢; exact h1 _ _ h) ⟨s, hs, by simpa using h2, by simpa using h3⟩

theorem kept39x (a : Arm) (ha : a.Ok) (p : Int → Int → Prop) : NewC Try.prog 39 [a.v, .sem (TellD a p)]
    (fun r H => r = .map 0 ∧ H = [.mapx [.i64, .i64] true false (onK (a.Kept p)) (fun _ => [.int .i64 0])]) := by
  refine (kept39 a ha p).ent ?_
  rintro _ _ ⟨rfl, n, g, rfl⟩
  refine ⟨_, _, ⟨rfl, rfl⟩, some [some 0], ?_⟩
  (repeat' ((conv => whnf); (first | ((with_reducible refine spl (fun hc => ?_) (fun hc => ?_)) <;> (try (exfalso; omega))) | ((with_reducible refine spl' (fun hc => ?_) (fun hc => ?_)) <;> (try (exfalso; omega))) | (with_reducible refine imp_intro (fun hc => ?_)) | refine vc (k := ?_) | refine dr 1 (k := ?_) | refine dr 2 (k := ?_) | refine dr 3 (k := ?_) | refine dr 4 (k := ?_) | refine dr 5 (k := ?_) | refine dr 6 (k := ?_) | refine dr 7 (k := ?_) | refine dr 8 (k := ?_) | refine dr 9 (k := ?_) | refine dr 10 (k := ?_) | refine dr 11 (k := ?_) | refine dr 12 (k := ?_) | fail))); (all_goals (try (conv => whnf))); (all_goals (try exact trivial))

theorem count_eq {a : Arm} (ha : a.Ok) {D : Int → Int → Prop} {n : Nat} (hD : ∀ x v, D x v → a.Has x v) (h : Counted [.i64, .i64] (onK D) n) : n = (sel D a.spots).length := by
  obtain ⟨all, h1, h2, h2', h3⟩ := h
  have hnd : a.spots.Nodup := by
    unfold Arm.spots Arm.spotsTo
    rw [List.Nodup, List.flatMap, List.pairwise_flatten]
    refine ⟨?_, ?_⟩
    · intro l hl
      obtain ⟨i, _, rfl⟩ := List.mem_map.1 hl
      unfold Arm.rowTo
      rw [List.pairwise_map]
      exact List.nodup_range.imp (fun h h2 => h (by simp only [Prod.mk.injEq] at h2; omega))
    · rw [List.pairwise_map]
      refine List.nodup_range.imp ?_
      intro i j hij x hx y hy hxy
      subst hxy
      unfold Arm.rowTo at hx hy
      simp only [List.mem_map] at hx hy
      obtain ⟨k, _, rfl⟩ := hx
      obtain ⟨k', _, h⟩ := hy
      simp only [Prod.mk.injEq] at h
      omega
  rw [← h2]
  refine Nat.le_antisymm ?_ ?_
  · have := nodup_length_le (l := all) (m := (sel D a.spots).map fun s => [s.1, s.2]) h1 (fun k hk => by
      match k, hk, h2' k hk with
      | [x, v], hk, _ =>
        have hd := (h3 [x, v] rfl).1 hk
        exact List.mem_map.2 ⟨(x, v), mem_sel.2 ⟨(a.mem_spots ha x v).2 (hD x v hd), hd⟩, rfl⟩)
    simpa using this
  · have := nodup_length_le (l := (sel D a.spots).map fun s => [s.1, s.2]) (m := all) (by
      rw [List.Nodup, List.pairwise_map]
      exact (List.Pairwise.filter _ hnd).imp (fun h h2 => h (by simp only [List.cons.injEq, and_true] at h2; exact Prod.ext h2.1 h2.2))) (fun k hk => by
      obtain ⟨s, hs, rfl⟩ := List.mem_map.1 hk
      exact (h3 _ rfl).2 (mem_sel.1 hs).2)
    simpa using this

theorem valPut_f {f : List Int → Int} {k0 : List Int} {n : Int} (h : f k0 = n) (k : List Int) : valPut (fun k => [.int .i64 (f k)]) k0 [.int .i64 n] k = [.int .i64 (f k)] := by
  unfold valPut mrgL
  by_cases he : k = k0
  · subst he
    simp [pickDL, pickD, h]
  · simp [pickDL, pickD, he]

theorem plan36 (a : Arm) (ha : a.Ok) (t : Int) (ht : 0 ≤ t ∧ t ≤ a.L) : PureC Try.prog 36 false [a.v, .int .i64 t]
    (· = .imap [.i64, .i64] true false (onK (a.Found (a.There t))) (fun k => [.int .i64 (a.rkK (a.There t) k)]) (sel (a.Found (a.There t)) a.spots).length) := by
  have hL := ha.L
  have hS := ha.S
  refine pureC_of_exec Try.E_ok Try.func36 rfl (by kernel_rfl) ?_
  (repeat' ((conv => whnf); (first | ((with_reducible refine spl (fun hc => ?_) (fun hc => ?_)) <;> (try (exfalso; omega))) | ((with_reducible refine spl' (fun hc => ?_) (fun hc => ?_)) <;> (try (exfalso; omega))) | (with_reducible refine imp_intro (fun hc => ?_)) | refine vc (k := ?_) | refine dr 1 (k := ?_) | refine dr 2 (k := ?_) | refine dr 3 (k := ?_) | refine dr 4 (k := ?_) | refine dr 5 (k := ?_) | refine dr 6 (k := ?_) | refine dr 7 (k := ?_) | refine dr 8 (k := ?_) | refine dr 9 (k := ?_) | refine dr 10 (k := ?_) | refine dr 11 (k := ?_) | refine dr 12 (k := ?_) | fail))); (all_goals (try (conv => whnf))); (all_goals (try exact trivial)); (repeat' ((first | (refine callee_fo (track43 a ha t ht) rfl ?_; rintro _ rfl) | (refine pcall_intro (track43 a ha t ht) rfl ?_) | (refine pcall_soft (fun _ => track43 a ha t ht) rfl ?_)); (repeat' ((conv => whnf); (first | ((with_reducible refine spl (fun hc => ?_) (fun hc => ?_)) <;> (try (exfalso; omega))) | ((with_reducible refine spl' (fun hc => ?_) (fun hc => ?_)) <;> (try (exfalso; omega))) | (with_reducible refine imp_intro (fun hc => ?_)) | refine vc (k := ?_) | refine dr 1 (k := ?_) | refine dr 2 (k := ?_) | refine dr 3 (k := ?_) | refine dr 4 (k := ?_) | refine dr 5 (k := ?_) | refine dr 6 (k := ?_) | refine dr 7 (k := ?_) | refine dr 8 (k := ?_) | refine dr 9 (k := ?_) | refine dr 10 (k := ?_) | refine dr 11 (k := ?_) | refine dr 12 (k := ?_) | fail))); (all_goals (try (conv => whnf))); (all_goals (try exact trivial)))); (all_goals (try (refine ⟨_, rfl, ?_⟩; (repeat' ((conv => whnf); (first | ((with_reducible refine spl (fun hc => ?_) (fun hc => ?_)) <;> (try (exfalso; omega))) | ((with_reducible refine spl' (fun hc => ?_) (fun hc => ?_)) <;> (try (exfalso; omega))) | (with_reducible refine imp_intro (fun hc => ?_)) | refine vc (k := ?_) | refine dr 1 (k := ?_) | refine dr 2 (k := ?_) | refine dr 3 (k := ?_) | refine dr 4 (k := ?_) | refine dr 5 (k := ?_) | refine dr 6 (k := ?_) | refine dr 7 (k := ?_) | refine dr 8 (k := ?_) | refine dr 9 (k := ?_) | refine dr 10 (k := ?_) | refine dr 11 (k := ?_) | refine dr 12 (k := ?_) | fail))); (all_goals (try (conv => whnf))); (all_goals (try exact trivial)))))
  refine ncall_intro (kept39x a ha (a.Track t)) rfl ?_
  (repeat' ((conv => whnf); (first | ((with_reducible refine spl (fun hc => ?_) (fun hc => ?_)) <;> (try (exfalso; omega))) | ((with_reducible refine spl' (fun hc => ?_) (fun hc => ?_)) <;> (try (exfalso; omega))) | (with_reducible refine imp_intro (fun hc => ?_)) | refine vc (k := ?_) | refine dr 1 (k := ?_) | refine dr 2 (k := ?_) | refine dr 3 (k := ?_) | refine dr 4 (k := ?_) | refine dr 5 (k := ?_) | refine dr 6 (k := ?_) | refine dr 7 (k := ?_) | refine dr 8 (k := ?_) | refine dr 9 (k := ?_) | refine dr 10 (k := ?_) | refine dr 11 (k := ?_) | refine dr 12 (k := ?_) | fail))); (all_goals (try (conv => whnf))); (all_goals (try exact trivial))
  intro n g
  (repeat' ((conv => whnf); (first | ((with_reducible refine spl (fun hc => ?_) (fun hc => ?_)) <;> (try (exfalso; omega))) | ((with_reducible refine spl' (fun hc => ?_) (fun hc => ?_)) <;> (try (exfalso; omega))) | (with_reducible refine imp_intro (fun hc => ?_)) | refine vc (k := ?_) | refine dr 1 (k := ?_) | refine dr 2 (k := ?_) | refine dr 3 (k := ?_) | refine dr 4 (k := ?_) | refine dr 5 (k := ?_) | refine dr 6 (k := ?_) | refine dr 7 (k := ?_) | refine dr 8 (k := ?_) | refine dr 9 (k := ?_) | refine dr 10 (k := ?_) | refine dr 11 (k := ?_) | refine dr 12 (k := ?_) | fail))); (all_goals (try (conv => whnf))); (all_goals (try exact trivial))
  obtain ⟨B, hBd⟩ : ∃ B, B = a.There t := ⟨_, rfl⟩
  have hB : ∀ x v, B x v → a.Has x v := fun x v h => by rw [hBd] at h; exact h.has
  rw [← hBd]
  have hsl : a.spots.length ≤ 697 := by
    rw [Arm.spots, a.spotsTo_length]
    exact Nat.mul_le_mul (show (a.L + 1).toNat ≤ 41 by omega) (show (2 * a.S + 1).toNat ≤ 17 by omega)
  refine ⟨Nat × Nat × MG, fun i => i.1 + (sel (fun x v => ¬ a.Reach B i.1 x v) a.spots).length ≤ 697, fun i => (sel (fun x v => ¬ a.Reach B i.1 x v) a.spots).length, fun i => [(6, .int .i64 (i.1 + 1))], fun i => [(1, .map [.i64, .i64] true false (onK (a.Reach B i.1)) (fun k => [.int .i64 (a.rkK B k)]) i.2.1 i.2.2)], fun _ => [], (0, n, g), ⟨by have := sel_le (fun x v => ¬ a.Reach B 0 x v) a.spots; dsimp only; omega, some [some 0, some 1, some 2], ?_⟩, ?_⟩
  · (repeat' ((conv => whnf); (first | ((with_reducible refine spl (fun hc => ?_) (fun hc => ?_)) <;> (try (exfalso; omega))) | ((with_reducible refine spl' (fun hc => ?_) (fun hc => ?_)) <;> (try (exfalso; omega))) | (with_reducible refine imp_intro (fun hc => ?_)) | refine vc (k := ?_) | refine dr 1 (k := ?_) | refine dr 2 (k := ?_) | refine dr 3 (k := ?_) | refine dr 4 (k := ?_) | refine dr 5 (k := ?_) | refine dr 6 (k := ?_) | refine dr 7 (k := ?_) | refine dr 8 (k := ?_) | refine dr 9 (k := ?_) | refine dr 10 (k := ?_) | refine dr 11 (k := ?_) | refine dr 12 (k := ?_) | fail))); (all_goals (try (conv => whnf))); (all_goals (try exact trivial))
    refine ⟨fun x v => ⟨by rw [hBd]; exact Iff.rfl, fun h => ?_⟩, ?_⟩
    · have : a.rk B x v = 0 := a.rk_eq ⟨by rw [hBd]; exact h, fun m hm => by omega⟩
      simp [Arm.rkK, this]
    · (repeat' ((conv => whnf); (first | ((with_reducible refine spl (fun hc => ?_) (fun hc => ?_)) <;> (try (exfalso; omega))) | ((with_reducible refine spl' (fun hc => ?_) (fun hc => ?_)) <;> (try (exfalso; omega))) | (with_reducible refine imp_intro (fun hc => ?_)) | refine vc (k := ?_) | refine dr 1 (k := ?_) | refine dr 2 (k := ?_) | refine dr 3 (k := ?_) | refine dr 4 (k := ?_) | refine dr 5 (k := ?_) | refine dr 6 (k := ?_) | refine dr 7 (k := ?_) | refine dr 8 (k := ?_) | refine dr 9 (k := ?_) | refine dr 10 (k := ?_) | refine dr 11 (k := ?_) | refine dr 12 (k := ?_) | fail))); (all_goals (try (conv => whnf))); (all_goals (try exact trivial))
  · rintro ⟨m, n, g⟩ hm
    dsimp only at hm
    (repeat' ((conv => whnf); (first | ((with_reducible refine spl (fun hc => ?_) (fun hc => ?_)) <;> (try (exfalso; omega))) | ((with_reducible refine spl' (fun hc => ?_) (fun hc => ?_)) <;> (try (exfalso; omega))) | (with_reducible refine imp_intro (fun hc => ?_)) | refine vc (k := ?_) | refine dr 1 (k := ?_) | refine dr 2 (k := ?_) | refine dr 3 (k := ?_) | refine dr 4 (k := ?_) | refine dr 5 (k := ?_) | refine dr 6 (k := ?_) | refine dr 7 (k := ?_) | refine dr 8 (k := ?_) | refine dr 9 (k := ?_) | refine dr 10 (k := ?_) | refine dr 11 (k := ?_) | refine dr 12 (k := ?_) | fail))); (all_goals (try (conv => whnf))); (all_goals (try exact trivial))
    refine callee_exec Try.E_ok Try.func57 rfl (by kernel_rfl) ?_
    (repeat' ((conv => whnf); (first | ((with_reducible refine spl (fun hc => ?_) (fun hc => ?_)) <;> (try (exfalso; omega))) | ((with_reducible refine spl' (fun hc => ?_) (fun hc => ?_)) <;> (try (exfalso; omega))) | (with_reducible refine imp_intro (fun hc => ?_)) | refine vc (k := ?_) | refine dr 1 (k := ?_) | refine dr 2 (k := ?_) | refine dr 3 (k := ?_) | refine dr 4 (k := ?_) | refine dr 5 (k := ?_) | refine dr 6 (k := ?_) | refine dr 7 (k := ?_) | refine dr 8 (k := ?_) | refine dr 9 (k := ?_) | refine dr 10 (k := ?_) | refine dr 11 (k := ?_) | refine dr 12 (k := ?_) | fail))); (all_goals (try (conv => whnf))); (all_goals (try exact trivial))
    refine ⟨Nat × List (Int × Int), fun i => (i.1 : Int) ≤ a.L + 1 ∧ i.2 = sel (fun x v => ¬ a.Reach B m x v ∧ a.Can (a.Reach B m) x v) (a.spotsTo i.1), fun i => (a.L + 1 - i.1).toNat, fun i => [(10, .int .i64 i.1)], fun i => [(3, .cells 39 [.osl 6 i.2.length])], fun i => [.row 25 2 i.2.length (rowOf spotCs (0, 0) i.2) true], (0, []), ⟨⟨by dsimp only; omega, rfl⟩, some [some 0, some 1, some 2, some 3, some 4, some 5, none], ?_⟩, ?_⟩
    · (repeat' ((conv => whnf); (first | ((with_reducible refine spl (fun hc => ?_) (fun hc => ?_)) <;> (try (exfalso; omega))) | ((with_reducible refine spl' (fun hc => ?_) (fun hc => ?_)) <;> (try (exfalso; omega))) | (with_reducible refine imp_intro (fun hc => ?_)) | refine vc (k := ?_) | refine dr 1 (k := ?_) | refine dr 2 (k := ?_) | refine dr 3 (k := ?_) | refine dr 4 (k := ?_) | refine dr 5 (k := ?_) | refine dr 6 (k := ?_) | refine dr 7 (k := ?_) | refine dr 8 (k := ?_) | refine dr 9 (k := ?_) | refine dr 10 (k := ?_) | refine dr 11 (k := ?_) | refine dr 12 (k := ?_) | fail))); (all_goals (try (conv => whnf))); (all_goals (try exact trivial))
    · rintro ⟨i, l⟩ ⟨hi, hl⟩
      dsimp only at hi hl
      (repeat' ((conv => whnf); (first | ((with_reducible refine spl (fun hc => ?_) (fun hc => ?_)) <;> (try (exfalso; omega))) | ((with_reducible refine spl' (fun hc => ?_) (fun hc => ?_)) <;> (try (exfalso; omega))) | (with_reducible refine imp_intro (fun hc => ?_)) | refine vc (k := ?_) | refine dr 1 (k := ?_) | refine dr 2 (k := ?_) | refine dr 3 (k := ?_) | refine dr 4 (k := ?_) | refine dr 5 (k := ?_) | refine dr 6 (k := ?_) | refine dr 7 (k := ?_) | refine dr 8 (k := ?_) | refine dr 9 (k := ?_) | refine dr 10 (k := ?_) | refine dr 11 (k := ?_) | refine dr 12 (k := ?_) | fail))); (all_goals (try (conv => whnf))); (all_goals (try exact trivial))
      · have hlen := a.spotsTo_length i
        have hlen2 : i * (2 * a.S + 1).toNat ≤ 41 * 17 := Nat.mul_le_mul (by omega) (by omega)
        refine ⟨Nat × List (Int × Int), fun j => (j.1 : Int) ≤ 2 * a.S + 1 ∧ j.2 = sel (fun x v => ¬ a.Reach B m x v ∧ a.Can (a.Reach B m) x v) (a.spotsTo i ++ a.rowTo i j.1), fun j => (2 * a.S + 1 - j.1).toNat, fun j => [(5, .int .i64 (-a.S + j.1))], fun j => [(3, .cells 39 [.osl 6 j.2.length]), (6, .row 25 2 j.2.length (rowOf spotCs (0, 0) j.2) true)], fun _ => [], (0, l), ⟨⟨by dsimp only; omega, by simp [Arm.rowTo, hl]⟩, some [some 0, some 1, some 2, some 3, some 4, some 5, some 6], ?_⟩, ?_⟩
        · (repeat' ((conv => whnf); (first | ((with_reducible refine spl (fun hc => ?_) (fun hc => ?_)) <;> (try (exfalso; omega))) | ((with_reducible refine spl' (fun hc => ?_) (fun hc => ?_)) <;> (try (exfalso; omega))) | (with_reducible refine imp_intro (fun hc => ?_)) | refine vc (k := ?_) | refine dr 1 (k := ?_) | refine dr 2 (k := ?_) | refine dr 3 (k := ?_) | refine dr 4 (k := ?_) | refine dr 5 (k := ?_) | refine dr 6 (k := ?_) | refine dr 7 (k := ?_) | refine dr 8 (k := ?_) | refine dr 9 (k := ?_) | refine dr 10 (k := ?_) | refine dr 11 (k := ?_) | refine dr 12 (k := ?_) | fail))); (all_goals (try (conv => whnf))); (all_goals (try exact trivial))
        · rintro ⟨j, l⟩ ⟨hj, hl⟩
          dsimp only at hj hl
          (repeat' ((conv => whnf); (first | ((with_reducible refine spl (fun hc => ?_) (fun hc => ?_)) <;> (try (exfalso; omega))) | ((with_reducible refine spl' (fun hc => ?_) (fun hc => ?_)) <;> (try (exfalso; omega))) | (with_reducible refine imp_intro (fun hc => ?_)) | refine vc (k := ?_) | refine dr 1 (k := ?_) | refine dr 2 (k := ?_) | refine dr 3 (k := ?_) | refine dr 4 (k := ?_) | refine dr 5 (k := ?_) | refine dr 6 (k := ?_) | refine dr 7 (k := ?_) | refine dr 8 (k := ?_) | refine dr 9 (k := ?_) | refine dr 10 (k := ?_) | refine dr 11 (k := ?_) | refine dr 12 (k := ?_) | fail))); (all_goals (try (conv => whnf))); (all_goals (try exact trivial))
          · have hb : l.length ≤ 10000 := by
              have := sel_le (fun x v => ¬ a.Reach B m x v ∧ a.Can (a.Reach B m) x v) (a.spotsTo i ++ a.rowTo i j)
              rw [List.length_append, a.rowTo_length, ← hl] at this
              omega
            have hhas : a.Has i (-a.S + j) := ⟨by omega, by omega⟩
            have no : ¬ (¬ a.Reach B m i (-a.S + j) ∧ a.Can (a.Reach B m) i (-a.S + j)) → l = sel (fun x v => ¬ a.Reach B m x v ∧ a.Can (a.Reach B m) x v) (a.spotsTo i ++ a.rowTo i (j + 1)) := fun hD => by
              rw [a.rowTo_succ, ← List.append_assoc, sel_append, ← hl, sel_no hD, List.append_nil]
            refine ycall_exec Try.E_ok rfl rfl rfl ?_
            (repeat' ((conv => whnf); (first | ((with_reducible refine spl (fun hc => ?_) (fun hc => ?_)) <;> (try (exfalso; omega))) | ((with_reducible refine spl' (fun hc => ?_) (fun hc => ?_)) <;> (try (exfalso; omega))) | (with_reducible refine imp_intro (fun hc => ?_)) | refine vc (k := ?_) | refine dr 1 (k := ?_) | refine dr 2 (k := ?_) | refine dr 3 (k := ?_) | refine dr 4 (k := ?_) | refine dr 5 (k := ?_) | refine dr 6 (k := ?_) | refine dr 7 (k := ?_) | refine dr 8 (k := ?_) | refine dr 9 (k := ?_) | refine dr 10 (k := ?_) | refine dr 11 (k := ?_) | refine dr 12 (k := ?_) | fail))); (all_goals (try (conv => whnf))); (all_goals (try exact trivial))
            refine callee_view (setHas52 (onK (a.Reach B m)) (a.rkK B) n i (-a.S + j)) ?_
            (repeat' ((conv => whnf); (first | ((with_reducible refine spl (fun hc => ?_) (fun hc => ?_)) <;> (try (exfalso; omega))) | ((with_reducible refine spl' (fun hc => ?_) (fun hc => ?_)) <;> (try (exfalso; omega))) | (with_reducible refine imp_intro (fun hc => ?_)) | refine vc (k := ?_) | refine dr 1 (k := ?_) | refine dr 2 (k := ?_) | refine dr 3 (k := ?_) | refine dr 4 (k := ?_) | refine dr 5 (k := ?_) | refine dr 6 (k := ?_) | refine dr 7 (k := ?_) | refine dr 8 (k := ?_) | refine dr 9 (k := ?_) | refine dr 10 (k := ?_) | refine dr 11 (k := ?_) | refine dr 12 (k := ?_) | fail))); (all_goals (try (conv => whnf))); (all_goals (try exact trivial))
            rintro _ rfl
            (repeat' ((conv => whnf); (first | ((with_reducible refine spl (fun hc => ?_) (fun hc => ?_)) <;> (try (exfalso; omega))) | ((with_reducible refine spl' (fun hc => ?_) (fun hc => ?_)) <;> (try (exfalso; omega))) | (with_reducible refine imp_intro (fun hc => ?_)) | refine vc (k := ?_) | refine dr 1 (k := ?_) | refine dr 2 (k := ?_) | refine dr 3 (k := ?_) | refine dr 4 (k := ?_) | refine dr 5 (k := ?_) | refine dr 6 (k := ?_) | refine dr 7 (k := ?_) | refine dr 8 (k := ?_) | refine dr 9 (k := ?_) | refine dr 10 (k := ?_) | refine dr 11 (k := ?_) | refine dr 12 (k := ?_) | fail))); (all_goals (try (conv => whnf))); (all_goals (try exact trivial))
            · have hR : a.Reach B m i (-a.S + j) := hc
              refine ⟨(j + 1, l), ⟨⟨by dsimp only; omega, no (fun h => h.1 hR)⟩, by dsimp only; omega⟩, some [some 0, some 1, some 2, some 3, some 4, some 5, some 6], ?_⟩
              (repeat' ((conv => whnf); (first | ((with_reducible refine spl (fun hc => ?_) (fun hc => ?_)) <;> (try (exfalso; omega))) | ((with_reducible refine spl' (fun hc => ?_) (fun hc => ?_)) <;> (try (exfalso; omega))) | (with_reducible refine imp_intro (fun hc => ?_)) | refine vc (k := ?_) | refine dr 1 (k := ?_) | refine dr 2 (k := ?_) | refine dr 3 (k := ?_) | refine dr 4 (k := ?_) | refine dr 5 (k := ?_) | refine dr 6 (k := ?_) | refine dr 7 (k := ?_) | refine dr 8 (k := ?_) | refine dr 9 (k := ?_) | refine dr 10 (k := ?_) | refine dr 11 (k := ?_) | refine dr 12 (k := ?_) | fail))); (all_goals (try (conv => whnf))); (all_goals (try exact trivial))
            · have hR : ¬ a.Reach B m i (-a.S + j) := hc
              refine callee_view (command58 a ha (a.Reach B m) i (-a.S + j) hhas) ?_
              (repeat' ((conv => whnf); (first | ((with_reducible refine spl (fun hc => ?_) (fun hc => ?_)) <;> (try (exfalso; omega))) | ((with_reducible refine spl' (fun hc => ?_) (fun hc => ?_)) <;> (try (exfalso; omega))) | (with_reducible refine imp_intro (fun hc => ?_)) | refine vc (k := ?_) | refine dr 1 (k := ?_) | refine dr 2 (k := ?_) | refine dr 3 (k := ?_) | refine dr 4 (k := ?_) | refine dr 5 (k := ?_) | refine dr 6 (k := ?_) | refine dr 7 (k := ?_) | refine dr 8 (k := ?_) | refine dr 9 (k := ?_) | refine dr 10 (k := ?_) | refine dr 11 (k := ?_) | refine dr 12 (k := ?_) | fail))); (all_goals (try (conv => whnf))); (all_goals (try exact trivial))
              refine ⟨semOb_fn (a' := [.imap [.i64, .i64] true false (onK (a.Reach B m)) (fun k => [.int .i64 (a.rkK B k)]) n]) (b' := []) (fun i => setHas52 _ _ _ _ _) (plain_of Try.func52 (by kernel_rfl) (by kernel_rfl)) ?_, ?_⟩
              · (repeat' ((conv => whnf); (first | ((with_reducible refine spl (fun hc => ?_) (fun hc => ?_)) <;> (try (exfalso; omega))) | ((with_reducible refine spl' (fun hc => ?_) (fun hc => ?_)) <;> (try (exfalso; omega))) | (with_reducible refine imp_intro (fun hc => ?_)) | refine vc (k := ?_) | refine dr 1 (k := ?_) | refine dr 2 (k := ?_) | refine dr 3 (k := ?_) | refine dr 4 (k := ?_) | refine dr 5 (k := ?_) | refine dr 6 (k := ?_) | refine dr 7 (k := ?_) | refine dr 8 (k := ?_) | refine dr 9 (k := ?_) | refine dr 10 (k := ?_) | refine dr 11 (k := ?_) | refine dr 12 (k := ?_) | fail))); (all_goals (try (conv => whnf))); (all_goals (try exact trivial))
              · rintro _ rfl
                (repeat' ((conv => whnf); (first | ((with_reducible refine spl (fun hc => ?_) (fun hc => ?_)) <;> (try (exfalso; omega))) | ((with_reducible refine spl' (fun hc => ?_) (fun hc => ?_)) <;> (try (exfalso; omega))) | (with_reducible refine imp_intro (fun hc => ?_)) | refine vc (k := ?_) | refine dr 1 (k := ?_) | refine dr 2 (k := ?_) | refine dr 3 (k := ?_) | refine dr 4 (k := ?_) | refine dr 5 (k := ?_) | refine dr 6 (k := ?_) | refine dr 7 (k := ?_) | refine dr 8 (k := ?_) | refine dr 9 (k := ?_) | refine dr 10 (k := ?_) | refine dr 11 (k := ?_) | refine dr 12 (k := ?_) | fail))); (all_goals (try (conv => whnf))); (all_goals (try exact trivial))
                · have hD : ¬ a.Reach B m i (-a.S + j) ∧ a.Can (a.Reach B m) i (-a.S + j) := ⟨hR, hc⟩
                  refine ⟨(j + 1, l ++ [((i : Int), -a.S + (j : Int))]), ⟨⟨by dsimp only; omega, ?_⟩, by dsimp only; omega⟩, some [some 0, some 1, some 2, some 3, some 4, some 5, some 9], ?_⟩
                  · dsimp only
                    rw [a.rowTo_succ, ← List.append_assoc, sel_append, ← hl, sel_yes hD]
                  · (repeat' ((conv => whnf); (first | ((with_reducible refine spl (fun hc => ?_) (fun hc => ?_)) <;> (try (exfalso; omega))) | ((with_reducible refine spl' (fun hc => ?_) (fun hc => ?_)) <;> (try (exfalso; omega))) | (with_reducible refine imp_intro (fun hc => ?_)) | refine vc (k := ?_) | refine dr 1 (k := ?_) | refine dr 2 (k := ?_) | refine dr 3 (k := ?_) | refine dr 4 (k := ?_) | refine dr 5 (k := ?_) | refine dr 6 (k := ?_) | refine dr 7 (k := ?_) | refine dr 8 (k := ?_) | refine dr 9 (k := ?_) | refine dr 10 (k := ?_) | refine dr 11 (k := ?_) | refine dr 12 (k := ?_) | fail))); (all_goals (try (conv => whnf))); (all_goals (try exact trivial))
                    refine ⟨by simp, ?_⟩
                    (repeat' ((conv => whnf); (first | ((with_reducible refine spl (fun hc => ?_) (fun hc => ?_)) <;> (try (exfalso; omega))) | ((with_reducible refine spl' (fun hc => ?_) (fun hc => ?_)) <;> (try (exfalso; omega))) | (with_reducible refine imp_intro (fun hc => ?_)) | refine vc (k := ?_) | refine dr 1 (k := ?_) | refine dr 2 (k := ?_) | refine dr 3 (k := ?_) | refine dr 4 (k := ?_) | refine dr 5 (k := ?_) | refine dr 6 (k := ?_) | refine dr 7 (k := ?_) | refine dr 8 (k := ?_) | refine dr 9 (k := ?_) | refine dr 10 (k := ?_) | refine dr 11 (k := ?_) | refine dr 12 (k := ?_) | fail))); (all_goals (try (conv => whnf))); (all_goals (try exact trivial))
                    refine ⟨by simp, rowOf_snoc (c := spotCs) (a := ((i : Int), -a.S + (j : Int))) rfl (fun _ _ => rfl), ?_⟩
                    (repeat' ((conv => whnf); (first | ((with_reducible refine spl (fun hc => ?_) (fun hc => ?_)) <;> (try (exfalso; omega))) | ((with_reducible refine spl' (fun hc => ?_) (fun hc => ?_)) <;> (try (exfalso; omega))) | (with_reducible refine imp_intro (fun hc => ?_)) | refine vc (k := ?_) | refine dr 1 (k := ?_) | refine dr 2 (k := ?_) | refine dr 3 (k := ?_) | refine dr 4 (k := ?_) | refine dr 5 (k := ?_) | refine dr 6 (k := ?_) | refine dr 7 (k := ?_) | refine dr 8 (k := ?_) | refine dr 9 (k := ?_) | refine dr 10 (k := ?_) | refine dr 11 (k := ?_) | refine dr 12 (k := ?_) | fail))); (all_goals (try (conv => whnf))); (all_goals (try exact trivial))
                · refine ⟨(j + 1, l), ⟨⟨by dsimp only; omega, no (fun h => hc h.2)⟩, by dsimp only; omega⟩, some [some 0, some 1, some 2, some 3, some 4, some 5, some 6], ?_⟩
                  (repeat' ((conv => whnf); (first | ((with_reducible refine spl (fun hc => ?_) (fun hc => ?_)) <;> (try (exfalso; omega))) | ((with_reducible refine spl' (fun hc => ?_) (fun hc => ?_)) <;> (try (exfalso; omega))) | (with_reducible refine imp_intro (fun hc => ?_)) | refine vc (k := ?_) | refine dr 1 (k := ?_) | refine dr 2 (k := ?_) | refine dr 3 (k := ?_) | refine dr 4 (k := ?_) | refine dr 5 (k := ?_) | refine dr 6 (k := ?_) | refine dr 7 (k := ?_) | refine dr 8 (k := ?_) | refine dr 9 (k := ?_) | refine dr 10 (k := ?_) | refine dr 11 (k := ?_) | refine dr 12 (k := ?_) | fail))); (all_goals (try (conv => whnf))); (all_goals (try exact trivial))
          · refine ⟨(i + 1, l), ⟨⟨by dsimp only; omega, ?_⟩, by dsimp only; omega⟩, some [some 0, some 1, some 2, some 3, some 4, some 5, some 6], ?_⟩
            · obtain rfl : j = (2 * a.S + 1).toNat := by omega
              rw [hl, a.spotsTo_succ]
            · (repeat' ((conv => whnf); (first | ((with_reducible refine spl (fun hc => ?_) (fun hc => ?_)) <;> (try (exfalso; omega))) | ((with_reducible refine spl' (fun hc => ?_) (fun hc => ?_)) <;> (try (exfalso; omega))) | (with_reducible refine imp_intro (fun hc => ?_)) | refine vc (k := ?_) | refine dr 1 (k := ?_) | refine dr 2 (k := ?_) | refine dr 3 (k := ?_) | refine dr 4 (k := ?_) | refine dr 5 (k := ?_) | refine dr 6 (k := ?_) | refine dr 7 (k := ?_) | refine dr 8 (k := ?_) | refine dr 9 (k := ?_) | refine dr 10 (k := ?_) | refine dr 11 (k := ?_) | refine dr 12 (k := ?_) | fail))); (all_goals (try (conv => whnf))); (all_goals (try exact trivial))
      · obtain rfl : i = (a.L + 1).toNat := by omega
        have hmem : ∀ x v, (x, v) ∈ l ↔ a.Has x v ∧ ¬ a.Reach B m x v ∧ a.Can (a.Reach B m) x v := by
          intro x v
          rw [hl, mem_sel]
          exact and_congr_left fun _ => a.mem_spots ha x v
        have hll : l.length ≤ 697 := by
          have := sel_le (fun x v => ¬ a.Reach B m x v ∧ a.Can (a.Reach B m) x v) (a.spotsTo (a.L + 1).toNat)
          rw [← hl] at this
          exact Nat.le_trans this hsl
        have h0 : l = [] := List.length_eq_zero_iff.1 hc
        have hfound : ∀ x v, a.Reach B m x v ↔ a.Found B x v := fun x v => ⟨fun h => ⟨m, h⟩, fun ⟨k, h⟩ => h.stop (fun x v h1 h2 => Classical.byContradiction fun h3 => by
          have := (hmem x v).2 ⟨h1, h3, h2⟩
          rw [h0] at this
          simp at this)⟩
        refine ⟨_, rfl, ?_⟩
        have hF : a.Reach B m = a.Found B := by funext x v; exact propext (hfound x v)
        dsimp only
        rw [hF]
        (repeat' ((conv => whnf); (first | ((with_reducible refine spl (fun hc => ?_) (fun hc => ?_)) <;> (try (exfalso; omega))) | ((with_reducible refine spl' (fun hc => ?_) (fun hc => ?_)) <;> (try (exfalso; omega))) | (with_reducible refine imp_intro (fun hc => ?_)) | refine vc (k := ?_) | refine dr 1 (k := ?_) | refine dr 2 (k := ?_) | refine dr 3 (k := ?_) | refine dr 4 (k := ?_) | refine dr 5 (k := ?_) | refine dr 6 (k := ?_) | refine dr 7 (k := ?_) | refine dr 8 (k := ?_) | refine dr 9 (k := ?_) | refine dr 10 (k := ?_) | refine dr 11 (k := ?_) | refine dr 12 (k := ?_) | fail))); (all_goals (try (conv => whnf))); (all_goals (try exact trivial))
        refine ⟨fun h => count_eq ha (fun x v ⟨k, h⟩ => h.has hB) h, ?_⟩
        (repeat' ((conv => whnf); (first | ((with_reducible refine spl (fun hc => ?_) (fun hc => ?_)) <;> (try (exfalso; omega))) | ((with_reducible refine spl' (fun hc => ?_) (fun hc => ?_)) <;> (try (exfalso; omega))) | (with_reducible refine imp_intro (fun hc => ?_)) | refine vc (k := ?_) | refine dr 1 (k := ?_) | refine dr 2 (k := ?_) | refine dr 3 (k := ?_) | refine dr 4 (k := ?_) | refine dr 5 (k := ?_) | refine dr 6 (k := ?_) | refine dr 7 (k := ?_) | refine dr 8 (k := ?_) | refine dr 9 (k := ?_) | refine dr 10 (k := ?_) | refine dr 11 (k := ?_) | refine dr 12 (k := ?_) | fail))); (all_goals (try (conv => whnf))); (all_goals (try exact trivial))
      · obtain rfl : i = (a.L + 1).toNat := by omega
        have hmem : ∀ x v, (x, v) ∈ l ↔ a.Has x v ∧ ¬ a.Reach B m x v ∧ a.Can (a.Reach B m) x v := by
          intro x v
          rw [hl, mem_sel]
          exact and_congr_left fun _ => a.mem_spots ha x v
        have hll : l.length ≤ 697 := by
          have := sel_le (fun x v => ¬ a.Reach B m x v ∧ a.Can (a.Reach B m) x v) (a.spotsTo (a.L + 1).toNat)
          rw [← hl] at this
          exact Nat.le_trans this hsl
        have h0 : l ≠ [] := fun h => hc (by simp [h])
        have hlen : 0 < l.length := List.length_pos_iff.2 h0
        refine ⟨Nat × Nat × MG, fun i => i.1 ≤ l.length, fun i => l.length - i.1, fun i => [(44, .int .i64 i.1)], fun i => [(1, .map [.i64, .i64] true false (onK fun x v => a.Reach B m x v ∨ ∃ j, j < i.1 ∧ l[j]? = some (x, v)) (fun k => [.int .i64 (a.rkK B k)]) i.2.1 i.2.2)], fun _ => [], (0, n, g), ⟨by simp, some [some 0, some 1, some 2, some 3, some 4, some 5, some 6], ?_⟩, ?_⟩
        · (repeat' ((conv => whnf); (first | ((with_reducible refine spl (fun hc => ?_) (fun hc => ?_)) <;> (try (exfalso; omega))) | ((with_reducible refine spl' (fun hc => ?_) (fun hc => ?_)) <;> (try (exfalso; omega))) | (with_reducible refine imp_intro (fun hc => ?_)) | refine vc (k := ?_) | refine dr 1 (k := ?_) | refine dr 2 (k := ?_) | refine dr 3 (k := ?_) | refine dr 4 (k := ?_) | refine dr 5 (k := ?_) | refine dr 6 (k := ?_) | refine dr 7 (k := ?_) | refine dr 8 (k := ?_) | refine dr 9 (k := ?_) | refine dr 10 (k := ?_) | refine dr 11 (k := ?_) | refine dr 12 (k := ?_) | fail))); (all_goals (try (conv => whnf))); (all_goals (try exact trivial))
          refine ⟨fun x v => ⟨?_, fun _ => rfl⟩, ?_⟩
          · show a.Reach B m x v ↔ a.Reach B m x v ∨ _
            simp
          · (repeat' ((conv => whnf); (first | ((with_reducible refine spl (fun hc => ?_) (fun hc => ?_)) <;> (try (exfalso; omega))) | ((with_reducible refine spl' (fun hc => ?_) (fun hc => ?_)) <;> (try (exfalso; omega))) | (with_reducible refine imp_intro (fun hc => ?_)) | refine vc (k := ?_) | refine dr 1 (k := ?_) | refine dr 2 (k := ?_) | refine dr 3 (k := ?_) | refine dr 4 (k := ?_) | refine dr 5 (k := ?_) | refine dr 6 (k := ?_) | refine dr 7 (k := ?_) | refine dr 8 (k := ?_) | refine dr 9 (k := ?_) | refine dr 10 (k := ?_) | refine dr 11 (k := ?_) | refine dr 12 (k := ?_) | fail))); (all_goals (try (conv => whnf))); (all_goals (try exact trivial))
        · rintro ⟨j, n, g⟩ hj
          dsimp only at hj
          (repeat' ((conv => whnf); (first | ((with_reducible refine spl (fun hc => ?_) (fun hc => ?_)) <;> (try (exfalso; omega))) | ((with_reducible refine spl' (fun hc => ?_) (fun hc => ?_)) <;> (try (exfalso; omega))) | (with_reducible refine imp_intro (fun hc => ?_)) | refine vc (k := ?_) | refine dr 1 (k := ?_) | refine dr 2 (k := ?_) | refine dr 3 (k := ?_) | refine dr 4 (k := ?_) | refine dr 5 (k := ?_) | refine dr 6 (k := ?_) | refine dr 7 (k := ?_) | refine dr 8 (k := ?_) | refine dr 9 (k := ?_) | refine dr 10 (k := ?_) | refine dr 11 (k := ?_) | refine dr 12 (k := ?_) | fail))); (all_goals (try (conv => whnf))); (all_goals (try exact trivial))
          · have hj : j < l.length := by simpa using hc
            have hq : l.getD (j : Int).toNat (0, 0) = l[j] := by simp [List.getD_eq_getElem?_getD, hj]
            have hqo : (l[j].1, l[j].2) ∈ l := List.getElem_mem hj
            obtain ⟨q1, q2, q3⟩ := (hmem _ _).1 hqo
            have hrk : a.rk B l[j].1 l[j].2 = m + 1 := a.rk_eq ⟨.inr ⟨q1, q3⟩, fun k hk hr => q2 (hr.mono (by omega))⟩
            intro g'
            (repeat' ((conv => whnf); (first | ((with_reducible refine spl (fun hc => ?_) (fun hc => ?_)) <;> (try (exfalso; omega))) | ((with_reducible refine spl' (fun hc => ?_) (fun hc => ?_)) <;> (try (exfalso; omega))) | (with_reducible refine imp_intro (fun hc => ?_)) | refine vc (k := ?_) | refine dr 1 (k := ?_) | refine dr 2 (k := ?_) | refine dr 3 (k := ?_) | refine dr 4 (k := ?_) | refine dr 5 (k := ?_) | refine dr 6 (k := ?_) | refine dr 7 (k := ?_) | refine dr 8 (k := ?_) | refine dr 9 (k := ?_) | refine dr 10 (k := ?_) | refine dr 11 (k := ?_) | refine dr 12 (k := ?_) | fail))); (all_goals (try (conv => whnf))); (all_goals (try exact trivial))
            refine ⟨(j + 1, nPut (onK fun x v => a.Reach B m x v ∨ ∃ i, i < j ∧ l[i]? = some (x, v)) n [(l.getD (j : Int).toNat (0, 0)).1, (l.getD (j : Int).toNat (0, 0)).2], g'), ⟨by dsimp only; omega, by dsimp only; omega⟩, some [some 0, some 1, some 2, some 3, some 4, some 5, some 6], ?_⟩
            (repeat' ((conv => whnf); (first | ((with_reducible refine spl (fun hc => ?_) (fun hc => ?_)) <;> (try (exfalso; omega))) | ((with_reducible refine spl' (fun hc => ?_) (fun hc => ?_)) <;> (try (exfalso; omega))) | (with_reducible refine imp_intro (fun hc => ?_)) | refine vc (k := ?_) | refine dr 1 (k := ?_) | refine dr 2 (k := ?_) | refine dr 3 (k := ?_) | refine dr 4 (k := ?_) | refine dr 5 (k := ?_) | refine dr 6 (k := ?_) | refine dr 7 (k := ?_) | refine dr 8 (k := ?_) | refine dr 9 (k := ?_) | refine dr 10 (k := ?_) | refine dr 11 (k := ?_) | refine dr 12 (k := ?_) | fail))); (all_goals (try (conv => whnf))); (all_goals (try exact trivial))
            refine ⟨fun x v => ⟨?_, fun _ => valPut_f (by rw [hq]; simp [Arm.rkK, hrk]) _⟩, ?_⟩
            · show (_ ∨ a.Reach B m x v ∨ _) ↔ (a.Reach B m x v ∨ _)
              dsimp only
              rw [hq]
              constructor
              · rintro (h1 | h1 | ⟨i, h1, h2⟩)
                · simp only [List.cons.injEq, and_true] at h1
                  refine .inr ⟨j, by omega, ?_⟩
                  rw [List.getElem?_eq_getElem hj, h1.1, h1.2]
                · exact .inl h1
                · exact .inr ⟨i, by omega, h2⟩
              · rintro (h1 | ⟨i, h1, h2⟩)
                · exact .inr (.inl h1)
                · rcases Nat.lt_or_eq_of_le (show i ≤ j by omega) with h3 | rfl
                  · exact .inr (.inr ⟨i, h3, h2⟩)
                  · rw [List.getElem?_eq_getElem hj] at h2
                    rw [Option.some.inj h2]
                    exact .inl rfl
            · (repeat' ((conv => whnf); (first | ((with_reducible refine spl (fun hc => ?_) (fun hc => ?_)) <;> (try (exfalso; omega))) | ((with_reducible refine spl' (fun hc => ?_) (fun hc => ?_)) <;> (try (exfalso; omega))) | (with_reducible refine imp_intro (fun hc => ?_)) | refine vc (k := ?_) | refine dr 1 (k := ?_) | refine dr 2 (k := ?_) | refine dr 3 (k := ?_) | refine dr 4 (k := ?_) | refine dr 5 (k := ?_) | refine dr 6 (k := ?_) | refine dr 7 (k := ?_) | refine dr 8 (k := ?_) | refine dr 9 (k := ?_) | refine dr 10 (k := ?_) | refine dr 11 (k := ?_) | refine dr 12 (k := ?_) | fail))); (all_goals (try (conv => whnf))); (all_goals (try exact trivial))
          · obtain rfl : j = l.length := by have : ¬ (j : Int) < (l.length : Int) := hc; omega
            have hnext : ∀ x v, (a.Reach B m x v ∨ ∃ j, j < l.length ∧ l[j]? = some (x, v)) ↔ a.Reach B (m + 1) x v := by
              intro x v
              constructor
              · rintro (h1 | ⟨j, h1, h2⟩)
                · exact .inl h1
                · have := (hmem x v).1 (List.mem_of_getElem? h2)
                  exact .inr ⟨this.1, this.2.2⟩
              · rintro (h1 | h1)
                · exact .inl h1
                · by_cases h2 : a.Reach B m x v
                  · exact .inl h2
                  · obtain ⟨j, h3, h4⟩ := List.getElem_of_mem ((hmem x v).2 ⟨h1.1, h2, h1.2⟩)
                    exact .inr ⟨j, h3, by rw [List.getElem?_eq_getElem h3, h4]⟩
            have hfirst := (hmem l[0].1 l[0].2).1 (List.getElem_mem hlen)
            have hlt : (sel (fun x v => ¬ a.Reach B (m + 1) x v) a.spots).length < (sel (fun x v => ¬ a.Reach B m x v) a.spots).length :=
              sel_lt (fun x v h1 h2 => h1 (.inl h2)) ((a.mem_spots ha _ _).2 hfirst.1) hfirst.2.1 (fun h => h (.inr ⟨hfirst.1, hfirst.2.2⟩))
            refine ⟨(m + 1, n, g), ⟨by dsimp only; omega, hlt⟩, some [some 0, some 1, some 2], ?_⟩
            (repeat' ((conv => whnf); (first | ((with_reducible refine spl (fun hc => ?_) (fun hc => ?_)) <;> (try (exfalso; omega))) | ((with_reducible refine spl' (fun hc => ?_) (fun hc => ?_)) <;> (try (exfalso; omega))) | (with_reducible refine imp_intro (fun hc => ?_)) | refine vc (k := ?_) | refine dr 1 (k := ?_) | refine dr 2 (k := ?_) | refine dr 3 (k := ?_) | refine dr 4 (k := ?_) | refine dr 5 (k := ?_) | refine dr 6 (k := ?_) | refine dr 7 (k := ?_) | refine dr 8 (k := ?_) | refine dr 9 (k := ?_) | refine dr 10 (k := ?_) | refine dr 11 (k := ?_) | refine dr 12 (k := ?_) | fail))); (all_goals (try (conv => whnf))); (all_goals (try exact trivial))
            refine ⟨fun x v => ⟨hnext x v, fun _ => rfl⟩, ?_⟩
            (repeat' ((conv => whnf); (first | ((with_reducible refine spl (fun hc => ?_) (fun hc => ?_)) <;> (try (exfalso; omega))) | ((with_reducible refine spl' (fun hc => ?_) (fun hc => ?_)) <;> (try (exfalso; omega))) | (with_reducible refine imp_intro (fun hc => ?_)) | refine vc (k := ?_) | refine dr 1 (k := ?_) | refine dr 2 (k := ?_) | refine dr 3 (k := ?_) | refine dr 4 (k := ?_) | refine dr 5 (k := ?_) | refine dr 6 (k := ?_) | refine dr 7 (k := ?_) | refine dr 8 (k := ?_) | refine dr 9 (k := ?_) | refine dr 10 (k := ?_) | refine dr 11 (k := ?_) | refine dr 12 (k := ?_) | fail))); (all_goals (try (conv => whnf))); (all_goals (try exact trivial))
end Go.Proofs
