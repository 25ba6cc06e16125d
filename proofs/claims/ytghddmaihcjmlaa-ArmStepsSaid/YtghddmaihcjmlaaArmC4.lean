/- Own work: a text of the proof of a law (ArmC4). -/
import Derived.Test.YtghddmaihcjmlaaArmC3
namespace Go.Proofs
open Go Go.Sx
set_option maxRecDepth 100000

/-- the greatest set of states as told in which the arm can stay -/
def Arm.Kept (a : Arm) (p : Int → Int → Prop) (x v : Int) : Prop := ∃ A : Int → Int → Prop, (∀ x v, A x v → a.Has x v ∧ p x v ∧ a.Can A x v) ∧ A x v

theorem Arm.Can.mono {a : Arm} {p q : Int → Int → Prop} {x v : Int} (h : a.Can p x v) (hpq : ∀ x v, a.Has x v → p x v → q x v) : a.Can q x v := by
  obtain ⟨c, h1, h2, h3⟩ := h
  exact ⟨c, h1, h2, fun k hk1 hk2 => ⟨(h3 k hk1 hk2).1, hpq _ _ (h3 k hk1 hk2).1 (h3 k hk1 hk2).2⟩⟩

theorem Arm.Kept.has {a : Arm} {p : Int → Int → Prop} {x v : Int} (h : a.Kept p x v) : a.Has x v := by
  obtain ⟨A, h1, h2⟩ := h
  exact (h1 x v h2).1
theorem Arm.Kept.told {a : Arm} {p : Int → Int → Prop} {x v : Int} (h : a.Kept p x v) : p x v := by
  obtain ⟨A, h1, h2⟩ := h
  exact (h1 x v h2).2.1
theorem Arm.Kept.can {a : Arm} {p : Int → Int → Prop} {x v : Int} (h : a.Kept p x v) : a.Can (a.Kept p) x v := by
  obtain ⟨A, h1, h2⟩ := h
  exact (h1 x v h2).2.2.mono (fun x v _ h => ⟨A, h1, h⟩)
theorem Arm.Kept.of {a : Arm} {p : Int → Int → Prop} {A : Int → Int → Prop} (h : ∀ x v, A x v → a.Has x v ∧ p x v ∧ a.Can A x v) {x v : Int} (hx : A x v) : a.Kept p x v := ⟨A, h, hx⟩

def mapO (A : Int → Int → Prop) (val : List Int → List V) (n : Nat) (g : MG) : O := .map [.i64, .i64] true false (onK A) val n g

/-- states before a place, in the order of positions and speeds -/
def before (i j x v : Int) : Prop := x < i ∨ x = i ∧ v < j

theorem put_told {A B : Int → Int → Prop} {val : List Int → List V} {n : Int} {x v : Int} (hB : ∀ y u, B y u ↔ (y = x ∧ u = v) ∨ A y u) (hval : ∀ k, onK A k → val k = [.int .i64 n]) (hz : ∃ m, val [x, v] = [.int .i64 m]) (y u : Int) :
    (domPut (onK A) [x, v] [y, u] ↔ onK B [y, u]) ∧ (domPut (onK A) [x, v] [y, u] → valPut val [x, v] [.int .i64 n] [y, u] = [.int .i64 n]) := by
  constructor
  · simp only [domPut, onK, hB]
    simp
  · intro h
    by_cases he : [y, u] = [x, v]
    · obtain ⟨m, hm⟩ := hz
      unfold valPut mrgL
      rw [he, hm]
      simp [pickDL, pickD]
    · have := hval [y, u] (h.resolve_left he)
      unfold valPut mrgL
      rw [this]
      simp [pickDL, pickD, he]

def allStates : List (List Int) := (List.range 41).flatMap fun (i : Nat) => (List.range 17).map fun (j : Nat) => [(i : Int), (j : Int) - 8]

theorem count_le {a : Arm} (ha : a.Ok) {D : Int → Int → Prop} {n : Nat} (hD : ∀ x v, D x v → a.Has x v) (h : Counted [.i64, .i64] (onK D) n) : n ≤ 697 := by
  obtain ⟨all, h1, h2, h2', h3⟩ := h
  have hl : allStates.length = 697 := by decide +kernel
  rw [← h2, ← hl]
  refine nodup_length_le h1 (fun k hk => ?_)
  have hL := ha.L
  have hS := ha.S
  match k, hk, h2' k hk with
  | [x, v], hk, _ =>
    obtain ⟨h4, h5⟩ := hD x v ((h3 [x, v] rfl).1 hk)
    simp only [allStates, List.mem_flatMap, List.mem_map, List.mem_range]
    exact ⟨x.toNat, by omega, (v + 8).toNat, by omega, by simp; omega⟩

theorem kept39 (a : Arm) (ha : a.Ok) (p : Int → Int → Prop) : NewC Try.prog 39 [a.v, .sem (TellD a p)]
    (fun r H => r = .map 0 ∧ ∃ n g, H = [mapO (a.Kept p) (fun _ => [.int .i64 0]) n g]) := by
  have hL := ha.L
  have hS := ha.S
  refine newC_ent Try.E_ok Try.func39 rfl (by kernel_rfl) ?_
  (repeat' ((conv => whnf); (first | ((with_reducible refine spl (fun hc => ?_) (fun hc => ?_)) <;> (try (exfalso; omega))) | ((with_reducible refine spl' (fun hc => ?_) (fun hc => ?_)) <;> (try (exfalso; omega))) | (with_reducible refine imp_intro (fun hc => ?_)) | refine vc (k := ?_) | refine dr 1 (k := ?_) | refine dr 2 (k := ?_) | refine dr 3 (k := ?_) | refine dr 4 (k := ?_) | refine dr 5 (k := ?_) | refine dr 6 (k := ?_) | refine dr 7 (k := ?_) | refine dr 8 (k := ?_) | refine dr 9 (k := ?_) | refine dr 10 (k := ?_) | refine dr 11 (k := ?_) | refine dr 12 (k := ?_) | fail))); (all_goals (try (conv => whnf))); (all_goals (try exact trivial))
  intro g
  (repeat' ((conv => whnf); (first | ((with_reducible refine spl (fun hc => ?_) (fun hc => ?_)) <;> (try (exfalso; omega))) | ((with_reducible refine spl' (fun hc => ?_) (fun hc => ?_)) <;> (try (exfalso; omega))) | (with_reducible refine imp_intro (fun hc => ?_)) | refine vc (k := ?_) | refine dr 1 (k := ?_) | refine dr 2 (k := ?_) | refine dr 3 (k := ?_) | refine dr 4 (k := ?_) | refine dr 5 (k := ?_) | refine dr 6 (k := ?_) | refine dr 7 (k := ?_) | refine dr 8 (k := ?_) | refine dr 9 (k := ?_) | refine dr 10 (k := ?_) | refine dr 11 (k := ?_) | refine dr 12 (k := ?_) | fail))); (all_goals (try (conv => whnf))); (all_goals (try exact trivial))
  refine callee_exec Try.E_ok Try.func57 rfl (by kernel_rfl) ?_
  (repeat' ((conv => whnf); (first | ((with_reducible refine spl (fun hc => ?_) (fun hc => ?_)) <;> (try (exfalso; omega))) | ((with_reducible refine spl' (fun hc => ?_) (fun hc => ?_)) <;> (try (exfalso; omega))) | (with_reducible refine imp_intro (fun hc => ?_)) | refine vc (k := ?_) | refine dr 1 (k := ?_) | refine dr 2 (k := ?_) | refine dr 3 (k := ?_) | refine dr 4 (k := ?_) | refine dr 5 (k := ?_) | refine dr 6 (k := ?_) | refine dr 7 (k := ?_) | refine dr 8 (k := ?_) | refine dr 9 (k := ?_) | refine dr 10 (k := ?_) | refine dr 11 (k := ?_) | refine dr 12 (k := ?_) | fail))); (all_goals (try (conv => whnf))); (all_goals (try exact trivial))
  refine ⟨Int × Nat × MG, fun i => 0 ≤ i.1 ∧ i.1 ≤ a.L + 1, fun i => (a.L + 1 - i.1).toNat, fun i => [(10, .int .i64 i.1)], fun i => [(2, .map [.i64, .i64] true false (onK fun x v => a.Has x v ∧ p x v ∧ before i.1 (-a.S) x v) (fun _ => [.int .i64 0]) i.2.1 i.2.2)], fun _ => [], (0, 0, g), ⟨by dsimp only; omega, some [some 0, some 1, some 2, some 3, some 4, some 5], ?_⟩, ?_⟩
  · (repeat' ((conv => whnf); (first | ((with_reducible refine spl (fun hc => ?_) (fun hc => ?_)) <;> (try (exfalso; omega))) | ((with_reducible refine spl' (fun hc => ?_) (fun hc => ?_)) <;> (try (exfalso; omega))) | (with_reducible refine imp_intro (fun hc => ?_)) | refine vc (k := ?_) | refine dr 1 (k := ?_) | refine dr 2 (k := ?_) | refine dr 3 (k := ?_) | refine dr 4 (k := ?_) | refine dr 5 (k := ?_) | refine dr 6 (k := ?_) | refine dr 7 (k := ?_) | refine dr 8 (k := ?_) | refine dr 9 (k := ?_) | refine dr 10 (k := ?_) | refine dr 11 (k := ?_) | refine dr 12 (k := ?_) | fail))); (all_goals (try (conv => whnf))); (all_goals (try exact trivial))
    refine ⟨fun y u => ⟨⟨False.elim, ?_⟩, fun _ => rfl⟩, ?_⟩
    · rintro ⟨⟨h1, h2⟩, _, h3 | h3⟩ <;> dsimp only at h3 <;> omega
    · (repeat' ((conv => whnf); (first | ((with_reducible refine spl (fun hc => ?_) (fun hc => ?_)) <;> (try (exfalso; omega))) | ((with_reducible refine spl' (fun hc => ?_) (fun hc => ?_)) <;> (try (exfalso; omega))) | (with_reducible refine imp_intro (fun hc => ?_)) | refine vc (k := ?_) | refine dr 1 (k := ?_) | refine dr 2 (k := ?_) | refine dr 3 (k := ?_) | refine dr 4 (k := ?_) | refine dr 5 (k := ?_) | refine dr 6 (k := ?_) | refine dr 7 (k := ?_) | refine dr 8 (k := ?_) | refine dr 9 (k := ?_) | refine dr 10 (k := ?_) | refine dr 11 (k := ?_) | refine dr 12 (k := ?_) | fail))); (all_goals (try (conv => whnf))); (all_goals (try exact trivial))
  · rintro ⟨i, n, g⟩ hi
    dsimp only at hi
    (repeat' ((conv => whnf); (first | ((with_reducible refine spl (fun hc => ?_) (fun hc => ?_)) <;> (try (exfalso; omega))) | ((with_reducible refine spl' (fun hc => ?_) (fun hc => ?_)) <;> (try (exfalso; omega))) | (with_reducible refine imp_intro (fun hc => ?_)) | refine vc (k := ?_) | refine dr 1 (k := ?_) | refine dr 2 (k := ?_) | refine dr 3 (k := ?_) | refine dr 4 (k := ?_) | refine dr 5 (k := ?_) | refine dr 6 (k := ?_) | refine dr 7 (k := ?_) | refine dr 8 (k := ?_) | refine dr 9 (k := ?_) | refine dr 10 (k := ?_) | refine dr 11 (k := ?_) | refine dr 12 (k := ?_) | fail))); (all_goals (try (conv => whnf))); (all_goals (try exact trivial))
    · refine ⟨Int × Nat × MG, fun j => -a.S ≤ j.1 ∧ j.1 ≤ a.S + 1, fun j => (a.S + 1 - j.1).toNat, fun j => [(5, .int .i64 j.1)], fun j => [(2, .map [.i64, .i64] true false (onK fun x v => a.Has x v ∧ p x v ∧ before i j.1 x v) (fun _ => [.int .i64 0]) j.2.1 j.2.2)], fun _ => [], (-a.S, n, g), ⟨by dsimp only; omega, some [some 0, some 1, some 2, some 3, some 4, some 5], ?_⟩, ?_⟩
      · (repeat' ((conv => whnf); (first | ((with_reducible refine spl (fun hc => ?_) (fun hc => ?_)) <;> (try (exfalso; omega))) | ((with_reducible refine spl' (fun hc => ?_) (fun hc => ?_)) <;> (try (exfalso; omega))) | (with_reducible refine imp_intro (fun hc => ?_)) | refine vc (k := ?_) | refine dr 1 (k := ?_) | refine dr 2 (k := ?_) | refine dr 3 (k := ?_) | refine dr 4 (k := ?_) | refine dr 5 (k := ?_) | refine dr 6 (k := ?_) | refine dr 7 (k := ?_) | refine dr 8 (k := ?_) | refine dr 9 (k := ?_) | refine dr 10 (k := ?_) | refine dr 11 (k := ?_) | refine dr 12 (k := ?_) | fail))); (all_goals (try (conv => whnf))); (all_goals (try exact trivial))
      · rintro ⟨j, n, g⟩ hj
        dsimp only at hj
        (repeat' ((conv => whnf); (first | ((with_reducible refine spl (fun hc => ?_) (fun hc => ?_)) <;> (try (exfalso; omega))) | ((with_reducible refine spl' (fun hc => ?_) (fun hc => ?_)) <;> (try (exfalso; omega))) | (with_reducible refine imp_intro (fun hc => ?_)) | refine vc (k := ?_) | refine dr 1 (k := ?_) | refine dr 2 (k := ?_) | refine dr 3 (k := ?_) | refine dr 4 (k := ?_) | refine dr 5 (k := ?_) | refine dr 6 (k := ?_) | refine dr 7 (k := ?_) | refine dr 8 (k := ?_) | refine dr 9 (k := ?_) | refine dr 10 (k := ?_) | refine dr 11 (k := ?_) | refine dr 12 (k := ?_) | fail))); (all_goals (try (conv => whnf))); (all_goals (try exact trivial))
        · have hhas : a.Has i j := ⟨by omega, by omega⟩
          refine ycall_exec Try.E_ok rfl rfl rfl ?_
          (repeat' ((conv => whnf); (first | ((with_reducible refine spl (fun hc => ?_) (fun hc => ?_)) <;> (try (exfalso; omega))) | ((with_reducible refine spl' (fun hc => ?_) (fun hc => ?_)) <;> (try (exfalso; omega))) | (with_reducible refine imp_intro (fun hc => ?_)) | refine vc (k := ?_) | refine dr 1 (k := ?_) | refine dr 2 (k := ?_) | refine dr 3 (k := ?_) | refine dr 4 (k := ?_) | refine dr 5 (k := ?_) | refine dr 6 (k := ?_) | refine dr 7 (k := ?_) | refine dr 8 (k := ?_) | refine dr 9 (k := ?_) | refine dr 10 (k := ?_) | refine dr 11 (k := ?_) | refine dr 12 (k := ?_) | fail))); (all_goals (try (conv => whnf))); (all_goals (try exact trivial))
          refine scall_fn ⟨(i, j), hhas⟩ rfl rfl ?_
          rintro _ rfl
          (repeat' ((conv => whnf); (first | ((with_reducible refine spl (fun hc => ?_) (fun hc => ?_)) <;> (try (exfalso; omega))) | ((with_reducible refine spl' (fun hc => ?_) (fun hc => ?_)) <;> (try (exfalso; omega))) | (with_reducible refine imp_intro (fun hc => ?_)) | refine vc (k := ?_) | refine dr 1 (k := ?_) | refine dr 2 (k := ?_) | refine dr 3 (k := ?_) | refine dr 4 (k := ?_) | refine dr 5 (k := ?_) | refine dr 6 (k := ?_) | refine dr 7 (k := ?_) | refine dr 8 (k := ?_) | refine dr 9 (k := ?_) | refine dr 10 (k := ?_) | refine dr 11 (k := ?_) | refine dr 12 (k := ?_) | fail))); (all_goals (try (conv => whnf))); (all_goals (try exact trivial))
          · have hp : p i j := hc
            intro g'
            (repeat' ((conv => whnf); (first | ((with_reducible refine spl (fun hc => ?_) (fun hc => ?_)) <;> (try (exfalso; omega))) | ((with_reducible refine spl' (fun hc => ?_) (fun hc => ?_)) <;> (try (exfalso; omega))) | (with_reducible refine imp_intro (fun hc => ?_)) | refine vc (k := ?_) | refine dr 1 (k := ?_) | refine dr 2 (k := ?_) | refine dr 3 (k := ?_) | refine dr 4 (k := ?_) | refine dr 5 (k := ?_) | refine dr 6 (k := ?_) | refine dr 7 (k := ?_) | refine dr 8 (k := ?_) | refine dr 9 (k := ?_) | refine dr 10 (k := ?_) | refine dr 11 (k := ?_) | refine dr 12 (k := ?_) | fail))); (all_goals (try (conv => whnf))); (all_goals (try exact trivial))
            refine ⟨(j + 1, nPut (onK fun x v => a.Has x v ∧ p x v ∧ before i j x v) n [i, j], g'), ⟨by dsimp only; omega, by dsimp only; omega⟩, some [some 0, some 1, some 2, some 3, some 4, some 5], ?_⟩
            (repeat' ((conv => whnf); (first | ((with_reducible refine spl (fun hc => ?_) (fun hc => ?_)) <;> (try (exfalso; omega))) | ((with_reducible refine spl' (fun hc => ?_) (fun hc => ?_)) <;> (try (exfalso; omega))) | (with_reducible refine imp_intro (fun hc => ?_)) | refine vc (k := ?_) | refine dr 1 (k := ?_) | refine dr 2 (k := ?_) | refine dr 3 (k := ?_) | refine dr 4 (k := ?_) | refine dr 5 (k := ?_) | refine dr 6 (k := ?_) | refine dr 7 (k := ?_) | refine dr 8 (k := ?_) | refine dr 9 (k := ?_) | refine dr 10 (k := ?_) | refine dr 11 (k := ?_) | refine dr 12 (k := ?_) | fail))); (all_goals (try (conv => whnf))); (all_goals (try exact trivial))
            refine ⟨put_told (fun y u => ?_) (fun _ _ => rfl) ⟨_, rfl⟩, ?_⟩
            · dsimp only
              constructor
              · rintro ⟨h1, h2, h3⟩
                by_cases he : y = i ∧ u = j
                · exact .inl he
                · refine .inr ⟨h1, h2, ?_⟩
                  unfold before at h3 ⊢
                  omega
              · rintro (⟨rfl, rfl⟩ | ⟨h1, h2, h3⟩)
                · exact ⟨hhas, hp, .inr ⟨rfl, by omega⟩⟩
                · refine ⟨h1, h2, ?_⟩
                  unfold before at h3 ⊢
                  omega
            · (repeat' ((conv => whnf); (first | ((with_reducible refine spl (fun hc => ?_) (fun hc => ?_)) <;> (try (exfalso; omega))) | ((with_reducible refine spl' (fun hc => ?_) (fun hc => ?_)) <;> (try (exfalso; omega))) | (with_reducible refine imp_intro (fun hc => ?_)) | refine vc (k := ?_) | refine dr 1 (k := ?_) | refine dr 2 (k := ?_) | refine dr 3 (k := ?_) | refine dr 4 (k := ?_) | refine dr 5 (k := ?_) | refine dr 6 (k := ?_) | refine dr 7 (k := ?_) | refine dr 8 (k := ?_) | refine dr 9 (k := ?_) | refine dr 10 (k := ?_) | refine dr 11 (k := ?_) | refine dr 12 (k := ?_) | fail))); (all_goals (try (conv => whnf))); (all_goals (try exact trivial))
          · have hp : ¬ p i j := hc
            refine ⟨(j + 1, n, g), ⟨by dsimp only; omega, by dsimp only; omega⟩, some [some 0, some 1, some 2, some 3, some 4, some 5], ?_⟩
            (repeat' ((conv => whnf); (first | ((with_reducible refine spl (fun hc => ?_) (fun hc => ?_)) <;> (try (exfalso; omega))) | ((with_reducible refine spl' (fun hc => ?_) (fun hc => ?_)) <;> (try (exfalso; omega))) | (with_reducible refine imp_intro (fun hc => ?_)) | refine vc (k := ?_) | refine dr 1 (k := ?_) | refine dr 2 (k := ?_) | refine dr 3 (k := ?_) | refine dr 4 (k := ?_) | refine dr 5 (k := ?_) | refine dr 6 (k := ?_) | refine dr 7 (k := ?_) | refine dr 8 (k := ?_) | refine dr 9 (k := ?_) | refine dr 10 (k := ?_) | refine dr 11 (k := ?_) | refine dr 12 (k := ?_) | fail))); (all_goals (try (conv => whnf))); (all_goals (try exact trivial))
            refine ⟨fun y u => ⟨?_, fun _ => rfl⟩, ?_⟩
            · refine and_congr_right fun h1 => and_congr_right fun h2 => ?_
              dsimp only
              constructor
              · intro h3
                unfold before at h3 ⊢
                omega
              · intro h3
                have : ¬ (y = i ∧ u = j) := fun ⟨h4, h5⟩ => hp (h4 ▸ h5 ▸ h2)
                unfold before at h3 ⊢
                omega
            · (repeat' ((conv => whnf); (first | ((with_reducible refine spl (fun hc => ?_) (fun hc => ?_)) <;> (try (exfalso; omega))) | ((with_reducible refine spl' (fun hc => ?_) (fun hc => ?_)) <;> (try (exfalso; omega))) | (with_reducible refine imp_intro (fun hc => ?_)) | refine vc (k := ?_) | refine dr 1 (k := ?_) | refine dr 2 (k := ?_) | refine dr 3 (k := ?_) | refine dr 4 (k := ?_) | refine dr 5 (k := ?_) | refine dr 6 (k := ?_) | refine dr 7 (k := ?_) | refine dr 8 (k := ?_) | refine dr 9 (k := ?_) | refine dr 10 (k := ?_) | refine dr 11 (k := ?_) | refine dr 12 (k := ?_) | fail))); (all_goals (try (conv => whnf))); (all_goals (try exact trivial))
        · refine ⟨(i + 1, n, g), ⟨by dsimp only; omega, by dsimp only; omega⟩, some [some 0, some 1, some 2, some 3, some 4, some 5], ?_⟩
          (repeat' ((conv => whnf); (first | ((with_reducible refine spl (fun hc => ?_) (fun hc => ?_)) <;> (try (exfalso; omega))) | ((with_reducible refine spl' (fun hc => ?_) (fun hc => ?_)) <;> (try (exfalso; omega))) | (with_reducible refine imp_intro (fun hc => ?_)) | refine vc (k := ?_) | refine dr 1 (k := ?_) | refine dr 2 (k := ?_) | refine dr 3 (k := ?_) | refine dr 4 (k := ?_) | refine dr 5 (k := ?_) | refine dr 6 (k := ?_) | refine dr 7 (k := ?_) | refine dr 8 (k := ?_) | refine dr 9 (k := ?_) | refine dr 10 (k := ?_) | refine dr 11 (k := ?_) | refine dr 12 (k := ?_) | fail))); (all_goals (try (conv => whnf))); (all_goals (try exact trivial))
          refine ⟨fun y u => ⟨?_, fun _ => rfl⟩, ?_⟩
          · refine and_congr_right fun h1 => and_congr_right fun h2 => ?_
            obtain ⟨h4, h5⟩ := h1
            dsimp only
            unfold before
            omega
          · (repeat' ((conv => whnf); (first | ((with_reducible refine spl (fun hc => ?_) (fun hc => ?_)) <;> (try (exfalso; omega))) | ((with_reducible refine spl' (fun hc => ?_) (fun hc => ?_)) <;> (try (exfalso; omega))) | (with_reducible refine imp_intro (fun hc => ?_)) | refine vc (k := ?_) | refine dr 1 (k := ?_) | refine dr 2 (k := ?_) | refine dr 3 (k := ?_) | refine dr 4 (k := ?_) | refine dr 5 (k := ?_) | refine dr 6 (k := ?_) | refine dr 7 (k := ?_) | refine dr 8 (k := ?_) | refine dr 9 (k := ?_) | refine dr 10 (k := ?_) | refine dr 11 (k := ?_) | refine dr 12 (k := ?_) | fail))); (all_goals (try (conv => whnf))); (all_goals (try exact trivial))
    · rename_i hiL
      obtain rfl : i = a.L + 1 := by omega
      dsimp only
      refine ⟨(Int → Int → Prop) × Nat × MG, fun i => (∀ x v, i.1 x v → a.Has x v ∧ p x v) ∧ ∀ x v, a.Kept p x v → i.1 x v, fun i => i.2.1, fun _ => [], fun i => [(2, .map [.i64, .i64] true false (onK i.1) (fun _ => [.int .i64 0]) i.2.1 i.2.2), (5, .gone)], fun _ => [],
        ((fun x v => a.Has x v ∧ p x v), n, g), ⟨⟨fun _ _ h => h, fun _ _ h => ⟨h.has, h.told⟩⟩, some [some 0, some 1, some 2, some 3, some 4, some 5], ?_⟩, ?_⟩
      · (repeat' ((conv => whnf); (first | ((with_reducible refine spl (fun hc => ?_) (fun hc => ?_)) <;> (try (exfalso; omega))) | ((with_reducible refine spl' (fun hc => ?_) (fun hc => ?_)) <;> (try (exfalso; omega))) | (with_reducible refine imp_intro (fun hc => ?_)) | refine vc (k := ?_) | refine dr 1 (k := ?_) | refine dr 2 (k := ?_) | refine dr 3 (k := ?_) | refine dr 4 (k := ?_) | refine dr 5 (k := ?_) | refine dr 6 (k := ?_) | refine dr 7 (k := ?_) | refine dr 8 (k := ?_) | refine dr 9 (k := ?_) | refine dr 10 (k := ?_) | refine dr 11 (k := ?_) | refine dr 12 (k := ?_) | fail))); (all_goals (try (conv => whnf))); (all_goals (try exact trivial))
        refine ⟨fun y u => ⟨?_, fun _ => rfl⟩, ?_⟩
        · show (_ ∧ _ ∧ _) ↔ (_ ∧ _)
          refine and_congr_right fun h1 => and_iff_left_of_imp fun _ => .inl ?_
          have := h1.1
          omega
        · (repeat' ((conv => whnf); (first | ((with_reducible refine spl (fun hc => ?_) (fun hc => ?_)) <;> (try (exfalso; omega))) | ((with_reducible refine spl' (fun hc => ?_) (fun hc => ?_)) <;> (try (exfalso; omega))) | (with_reducible refine imp_intro (fun hc => ?_)) | refine vc (k := ?_) | refine dr 1 (k := ?_) | refine dr 2 (k := ?_) | refine dr 3 (k := ?_) | refine dr 4 (k := ?_) | refine dr 5 (k := ?_) | refine dr 6 (k := ?_) | refine dr 7 (k := ?_) | refine dr 8 (k := ?_) | refine dr 9 (k := ?_) | refine dr 10 (k := ?_) | refine dr 11 (k := ?_) | refine dr 12 (k := ?_) | fail))); (all_goals (try (conv => whnf))); (all_goals (try exact trivial))
      · rintro ⟨D, n, g⟩ ⟨hD1, hD2⟩
        dsimp only at hD1 hD2
        (repeat' ((conv => whnf); (first | ((with_reducible refine spl (fun hc => ?_) (fun hc => ?_)) <;> (try (exfalso; omega))) | ((with_reducible refine spl' (fun hc => ?_) (fun hc => ?_)) <;> (try (exfalso; omega))) | (with_reducible refine imp_intro (fun hc => ?_)) | refine vc (k := ?_) | refine dr 1 (k := ?_) | refine dr 2 (k := ?_) | refine dr 3 (k := ?_) | refine dr 4 (k := ?_) | refine dr 5 (k := ?_) | refine dr 6 (k := ?_) | refine dr 7 (k := ?_) | refine dr 8 (k := ?_) | refine dr 9 (k := ?_) | refine dr 10 (k := ?_) | refine dr 11 (k := ?_) | refine dr 12 (k := ?_) | fail))); (all_goals (try (conv => whnf))); (all_goals (try exact trivial))
        refine ⟨List (List Int) × List (Int × Int), fun i => i.1.Nodup ∧ (∀ k ∈ i.1, k.length = 2 ∧ onK D k) ∧ (∀ x v, (x, v) ∈ i.2 ↔ [x, v] ∈ i.1 ∧ ¬ a.Can D x v) ∧ (i.2 ≠ [] → 0 < n) ∧ i.2.length ≤ i.1.length ∧ i.1.length ≤ 697, fun i => n - i.1.length, fun i => [(7, .osl 7 i.2.length)], fun i => [(6, .iter 2 g (fun k => onK D k ∧ k.length = 2) i.1)], fun i => [.row 25 2 i.2.length (rowOf (fun s => spotC s.1 s.2) (0, 0) i.2) true],
          ([], []), ⟨⟨List.nodup_nil, fun _ h => by simp at h, fun _ _ => by simp, fun h => (h rfl).elim, by simp, by simp⟩, some [some 0, some 1, some 2, some 3, some 4, some 5, some 6, none], ?_⟩, ?_⟩
        · (repeat' ((conv => whnf); (first | ((with_reducible refine spl (fun hc => ?_) (fun hc => ?_)) <;> (try (exfalso; omega))) | ((with_reducible refine spl' (fun hc => ?_) (fun hc => ?_)) <;> (try (exfalso; omega))) | (with_reducible refine imp_intro (fun hc => ?_)) | refine vc (k := ?_) | refine dr 1 (k := ?_) | refine dr 2 (k := ?_) | refine dr 3 (k := ?_) | refine dr 4 (k := ?_) | refine dr 5 (k := ?_) | refine dr 6 (k := ?_) | refine dr 7 (k := ?_) | refine dr 8 (k := ?_) | refine dr 9 (k := ?_) | refine dr 10 (k := ?_) | refine dr 11 (k := ?_) | refine dr 12 (k := ?_) | fail))); (all_goals (try (conv => whnf))); (all_goals (try exact trivial))
        · rintro ⟨done, out⟩ ⟨h1, h2, h3, h4, h5, h6⟩
          dsimp only at h1 h2 h3 h4 h5 h6
          (repeat' ((conv => whnf); (first | ((with_reducible refine spl (fun hc => ?_) (fun hc => ?_)) <;> (try (exfalso; omega))) | ((with_reducible refine spl' (fun hc => ?_) (fun hc => ?_)) <;> (try (exfalso; omega))) | (with_reducible refine imp_intro (fun hc => ?_)) | refine vc (k := ?_) | refine dr 1 (k := ?_) | refine dr 2 (k := ?_) | refine dr 3 (k := ?_) | refine dr 4 (k := ?_) | refine dr 5 (k := ?_) | refine dr 6 (k := ?_) | refine dr 7 (k := ?_) | refine dr 8 (k := ?_) | refine dr 9 (k := ?_) | refine dr 10 (k := ?_) | refine dr 11 (k := ?_) | refine dr 12 (k := ?_) | fail))); (all_goals (try (conv => whnf))); (all_goals (try exact trivial))
          refine ⟨fun k hk hd => ⟨hd, hk⟩, ?_, ?_⟩
          · intro x v hd hnd hcnt
            have hn : done.length < n := hcnt.le (l := [x, v] :: done) (List.nodup_cons.2 ⟨hnd, h1⟩) (by
              intro k hk
              rcases List.mem_cons.1 hk with rfl | hk
              · exact ⟨rfl, hd⟩
              · exact h2 k hk)
            have hn2 : n ≤ 697 := count_le ha (fun x v h => (hD1 x v h).1) hcnt
            have hk2 : ∀ k ∈ [x, v] :: done, k.length = 2 ∧ onK D k := by
              intro k hk
              rcases List.mem_cons.1 hk with rfl | hk
              · exact ⟨rfl, hd⟩
              · exact h2 k hk
            (repeat' ((conv => whnf); (first | ((with_reducible refine spl (fun hc => ?_) (fun hc => ?_)) <;> (try (exfalso; omega))) | ((with_reducible refine spl' (fun hc => ?_) (fun hc => ?_)) <;> (try (exfalso; omega))) | (with_reducible refine imp_intro (fun hc => ?_)) | refine vc (k := ?_) | refine dr 1 (k := ?_) | refine dr 2 (k := ?_) | refine dr 3 (k := ?_) | refine dr 4 (k := ?_) | refine dr 5 (k := ?_) | refine dr 6 (k := ?_) | refine dr 7 (k := ?_) | refine dr 8 (k := ?_) | refine dr 9 (k := ?_) | refine dr 10 (k := ?_) | refine dr 11 (k := ?_) | refine dr 12 (k := ?_) | fail))); (all_goals (try (conv => whnf))); (all_goals (try exact trivial))
            refine ⟨⟨rfl, hd, rfl⟩, ?_⟩
            (repeat' ((conv => whnf); (first | ((with_reducible refine spl (fun hc => ?_) (fun hc => ?_)) <;> (try (exfalso; omega))) | ((with_reducible refine spl' (fun hc => ?_) (fun hc => ?_)) <;> (try (exfalso; omega))) | (with_reducible refine imp_intro (fun hc => ?_)) | refine vc (k := ?_) | refine dr 1 (k := ?_) | refine dr 2 (k := ?_) | refine dr 3 (k := ?_) | refine dr 4 (k := ?_) | refine dr 5 (k := ?_) | refine dr 6 (k := ?_) | refine dr 7 (k := ?_) | refine dr 8 (k := ?_) | refine dr 9 (k := ?_) | refine dr 10 (k := ?_) | refine dr 11 (k := ?_) | refine dr 12 (k := ?_) | fail))); (all_goals (try (conv => whnf))); (all_goals (try exact trivial))
            refine callee_view (command58 a ha D x v (hD1 x v hd).1) ?_
            (repeat' ((conv => whnf); (first | ((with_reducible refine spl (fun hc => ?_) (fun hc => ?_)) <;> (try (exfalso; omega))) | ((with_reducible refine spl' (fun hc => ?_) (fun hc => ?_)) <;> (try (exfalso; omega))) | (with_reducible refine imp_intro (fun hc => ?_)) | refine vc (k := ?_) | refine dr 1 (k := ?_) | refine dr 2 (k := ?_) | refine dr 3 (k := ?_) | refine dr 4 (k := ?_) | refine dr 5 (k := ?_) | refine dr 6 (k := ?_) | refine dr 7 (k := ?_) | refine dr 8 (k := ?_) | refine dr 9 (k := ?_) | refine dr 10 (k := ?_) | refine dr 11 (k := ?_) | refine dr 12 (k := ?_) | fail))); (all_goals (try (conv => whnf))); (all_goals (try exact trivial))
            refine ⟨semOb_fn (a' := [.imap [.i64, .i64] true false (onK D) (fun _ => [.int .i64 0]) n]) (b' := []) (fun i => setHas52 _ _ _ _ _) (plain_of Try.func52 (by kernel_rfl) (by kernel_rfl)) ?_, ?_⟩
            · (repeat' ((conv => whnf); (first | ((with_reducible refine spl (fun hc => ?_) (fun hc => ?_)) <;> (try (exfalso; omega))) | ((with_reducible refine spl' (fun hc => ?_) (fun hc => ?_)) <;> (try (exfalso; omega))) | (with_reducible refine imp_intro (fun hc => ?_)) | refine vc (k := ?_) | refine dr 1 (k := ?_) | refine dr 2 (k := ?_) | refine dr 3 (k := ?_) | refine dr 4 (k := ?_) | refine dr 5 (k := ?_) | refine dr 6 (k := ?_) | refine dr 7 (k := ?_) | refine dr 8 (k := ?_) | refine dr 9 (k := ?_) | refine dr 10 (k := ?_) | refine dr 11 (k := ?_) | refine dr 12 (k := ?_) | fail))); (all_goals (try (conv => whnf))); (all_goals (try exact trivial))
            · rintro _ rfl
              (repeat' ((conv => whnf); (first | ((with_reducible refine spl (fun hc => ?_) (fun hc => ?_)) <;> (try (exfalso; omega))) | ((with_reducible refine spl' (fun hc => ?_) (fun hc => ?_)) <;> (try (exfalso; omega))) | (with_reducible refine imp_intro (fun hc => ?_)) | refine vc (k := ?_) | refine dr 1 (k := ?_) | refine dr 2 (k := ?_) | refine dr 3 (k := ?_) | refine dr 4 (k := ?_) | refine dr 5 (k := ?_) | refine dr 6 (k := ?_) | refine dr 7 (k := ?_) | refine dr 8 (k := ?_) | refine dr 9 (k := ?_) | refine dr 10 (k := ?_) | refine dr 11 (k := ?_) | refine dr 12 (k := ?_) | fail))); (all_goals (try (conv => whnf))); (all_goals (try exact trivial))
              · have hcan : ¬ a.Can D x v := hc
                refine ⟨([x, v] :: done, out ++ [(x, v)]), ⟨⟨List.nodup_cons.2 ⟨hnd, h1⟩, hk2, fun y u => ?_, fun _ => by omega, ?_, ?_⟩, ?_⟩, some [some 0, some 1, some 2, some 3, some 4, some 5, some 6, some 10], ?_⟩
                · simp only [List.mem_append, List.mem_cons, List.not_mem_nil, or_false, h3, Prod.mk.injEq, List.cons.injEq, and_true]
                  constructor
                  · rintro (⟨h6, h7⟩ | ⟨rfl, rfl⟩)
                    · exact ⟨.inr h6, h7⟩
                    · exact ⟨.inl ⟨rfl, rfl⟩, hcan⟩
                  · rintro ⟨⟨rfl, rfl⟩ | h6, h7⟩
                    · exact .inr ⟨rfl, rfl⟩
                    · exact .inl ⟨h6, h7⟩
                · simp; omega
                · simp; omega
                · dsimp only; simp; omega
                · (repeat' ((conv => whnf); (first | ((with_reducible refine spl (fun hc => ?_) (fun hc => ?_)) <;> (try (exfalso; omega))) | ((with_reducible refine spl' (fun hc => ?_) (fun hc => ?_)) <;> (try (exfalso; omega))) | (with_reducible refine imp_intro (fun hc => ?_)) | refine vc (k := ?_) | refine dr 1 (k := ?_) | refine dr 2 (k := ?_) | refine dr 3 (k := ?_) | refine dr 4 (k := ?_) | refine dr 5 (k := ?_) | refine dr 6 (k := ?_) | refine dr 7 (k := ?_) | refine dr 8 (k := ?_) | refine dr 9 (k := ?_) | refine dr 10 (k := ?_) | refine dr 11 (k := ?_) | refine dr 12 (k := ?_) | fail))); (all_goals (try (conv => whnf))); (all_goals (try exact trivial))
                  refine ⟨by simp, ?_⟩
                  (repeat' ((conv => whnf); (first | ((with_reducible refine spl (fun hc => ?_) (fun hc => ?_)) <;> (try (exfalso; omega))) | ((with_reducible refine spl' (fun hc => ?_) (fun hc => ?_)) <;> (try (exfalso; omega))) | (with_reducible refine imp_intro (fun hc => ?_)) | refine vc (k := ?_) | refine dr 1 (k := ?_) | refine dr 2 (k := ?_) | refine dr 3 (k := ?_) | refine dr 4 (k := ?_) | refine dr 5 (k := ?_) | refine dr 6 (k := ?_) | refine dr 7 (k := ?_) | refine dr 8 (k := ?_) | refine dr 9 (k := ?_) | refine dr 10 (k := ?_) | refine dr 11 (k := ?_) | refine dr 12 (k := ?_) | fail))); (all_goals (try (conv => whnf))); (all_goals (try exact trivial))
                  refine ⟨by simp, rowOf_snoc (c := fun s : Int × Int => spotC s.1 s.2) (a := (x, v)) rfl (fun _ _ => rfl), ?_⟩
                  (repeat' ((conv => whnf); (first | ((with_reducible refine spl (fun hc => ?_) (fun hc => ?_)) <;> (try (exfalso; omega))) | ((with_reducible refine spl' (fun hc => ?_) (fun hc => ?_)) <;> (try (exfalso; omega))) | (with_reducible refine imp_intro (fun hc => ?_)) | refine vc (k := ?_) | refine dr 1 (k := ?_) | refine dr 2 (k := ?_) | refine dr 3 (k := ?_) | refine dr 4 (k := ?_) | refine dr 5 (k := ?_) | refine dr 6 (k := ?_) | refine dr 7 (k := ?_) | refine dr 8 (k := ?_) | refine dr 9 (k := ?_) | refine dr 10 (k := ?_) | refine dr 11 (k := ?_) | refine dr 12 (k := ?_) | fail))); (all_goals (try (conv => whnf))); (all_goals (try exact trivial))
              · have hcan : a.Can D x v := Classical.not_not.1 hc
                refine ⟨([x, v] :: done, out), ⟨⟨List.nodup_cons.2 ⟨hnd, h1⟩, hk2, fun y u => ?_, h4, ?_, ?_⟩, ?_⟩, some [some 0, some 1, some 2, some 3, some 4, some 5, some 6, some 7], ?_⟩
                · dsimp only
                  rw [h3, List.mem_cons]
                  constructor
                  · rintro ⟨h6, h7⟩
                    exact ⟨.inr h6, h7⟩
                  · rintro ⟨h6 | h6, h7⟩
                    · cases h6; exact absurd hcan h7
                    · exact ⟨h6, h7⟩
                · simp; omega
                · simp; omega
                · dsimp only; simp; omega
                · (repeat' ((conv => whnf); (first | ((with_reducible refine spl (fun hc => ?_) (fun hc => ?_)) <;> (try (exfalso; omega))) | ((with_reducible refine spl' (fun hc => ?_) (fun hc => ?_)) <;> (try (exfalso; omega))) | (with_reducible refine imp_intro (fun hc => ?_)) | refine vc (k := ?_) | refine dr 1 (k := ?_) | refine dr 2 (k := ?_) | refine dr 3 (k := ?_) | refine dr 4 (k := ?_) | refine dr 5 (k := ?_) | refine dr 6 (k := ?_) | refine dr 7 (k := ?_) | refine dr 8 (k := ?_) | refine dr 9 (k := ?_) | refine dr 10 (k := ?_) | refine dr 11 (k := ?_) | refine dr 12 (k := ?_) | fail))); (all_goals (try (conv => whnf))); (all_goals (try exact trivial))
          · intro hall
            have hall : ∀ x v, D x v → [x, v] ∈ done := hall
            (repeat' ((conv => whnf); (first | ((with_reducible refine spl (fun hc => ?_) (fun hc => ?_)) <;> (try (exfalso; omega))) | ((with_reducible refine spl' (fun hc => ?_) (fun hc => ?_)) <;> (try (exfalso; omega))) | (with_reducible refine imp_intro (fun hc => ?_)) | refine vc (k := ?_) | refine dr 1 (k := ?_) | refine dr 2 (k := ?_) | refine dr 3 (k := ?_) | refine dr 4 (k := ?_) | refine dr 5 (k := ?_) | refine dr 6 (k := ?_) | refine dr 7 (k := ?_) | refine dr 8 (k := ?_) | refine dr 9 (k := ?_) | refine dr 10 (k := ?_) | refine dr 11 (k := ?_) | refine dr 12 (k := ?_) | fail))); (all_goals (try (conv => whnf))); (all_goals (try exact trivial))
            · have h0 : out = [] := List.length_eq_zero_iff.1 hc
              have hcan : ∀ x v, D x v → a.Can D x v := fun x v hd => Classical.byContradiction fun hn => by
                have := (h3 x v).2 ⟨hall x v hd, hn⟩
                rw [h0] at this
                simp at this
              refine ⟨_, _, ⟨rfl, n, g, rfl⟩, some [some 2], ?_⟩
              (repeat' ((conv => whnf); (first | ((with_reducible refine spl (fun hc => ?_) (fun hc => ?_)) <;> (try (exfalso; omega))) | ((with_reducible refine spl' (fun hc => ?_) (fun hc => ?_)) <;> (try (exfalso; omega))) | (with_reducible refine imp_intro (fun hc => ?_)) | refine vc (k := ?_) | refine dr 1 (k := ?_) | refine dr 2 (k := ?_) | refine dr 3 (k := ?_) | refine dr 4 (k := ?_) | refine dr 5 (k := ?_) | refine dr 6 (k := ?_) | refine dr 7 (k := ?_) | refine dr 8 (k := ?_) | refine dr 9 (k := ?_) | refine dr 10 (k := ?_) | refine dr 11 (k := ?_) | refine dr 12 (k := ?_) | fail))); (all_goals (try (conv => whnf))); (all_goals (try exact trivial))
              refine ⟨fun x v => ⟨⟨fun hd => .of (fun x v h => ⟨(hD1 x v h).1, (hD1 x v h).2, hcan x v h⟩) hd, hD2 x v⟩, fun _ => rfl⟩, ?_⟩
              (repeat' ((conv => whnf); (first | ((with_reducible refine spl (fun hc => ?_) (fun hc => ?_)) <;> (try (exfalso; omega))) | ((with_reducible refine spl' (fun hc => ?_) (fun hc => ?_)) <;> (try (exfalso; omega))) | (with_reducible refine imp_intro (fun hc => ?_)) | refine vc (k := ?_) | refine dr 1 (k := ?_) | refine dr 2 (k := ?_) | refine dr 3 (k := ?_) | refine dr 4 (k := ?_) | refine dr 5 (k := ?_) | refine dr 6 (k := ?_) | refine dr 7 (k := ?_) | refine dr 8 (k := ?_) | refine dr 9 (k := ?_) | refine dr 10 (k := ?_) | refine dr 11 (k := ?_) | refine dr 12 (k := ?_) | fail))); (all_goals (try (conv => whnf))); (all_goals (try exact trivial))
            · have h0 : out ≠ [] := fun h => hc (by simp [h])
              refine ⟨Nat × Nat, fun i => i.1 ≤ out.length ∧ i.2 ≤ n ∧ (0 < i.1 → i.2 < n), fun i => out.length - i.1, fun i => [(47, .int .i64 i.1)], fun i => [(2, .map [.i64, .i64] true false (onK fun x v => D x v ∧ ∀ j, j < i.1 → out[j]? ≠ some (x, v)) (fun _ => [.int .i64 0]) i.2 g)], fun _ => [], (0, n), ⟨⟨by simp, by simp, by simp⟩, some [some 0, some 1, some 2, some 3, some 4, some 5, some 6, some 7], ?_⟩, ?_⟩
              · (repeat' ((conv => whnf); (first | ((with_reducible refine spl (fun hc => ?_) (fun hc => ?_)) <;> (try (exfalso; omega))) | ((with_reducible refine spl' (fun hc => ?_) (fun hc => ?_)) <;> (try (exfalso; omega))) | (with_reducible refine imp_intro (fun hc => ?_)) | refine vc (k := ?_) | refine dr 1 (k := ?_) | refine dr 2 (k := ?_) | refine dr 3 (k := ?_) | refine dr 4 (k := ?_) | refine dr 5 (k := ?_) | refine dr 6 (k := ?_) | refine dr 7 (k := ?_) | refine dr 8 (k := ?_) | refine dr 9 (k := ?_) | refine dr 10 (k := ?_) | refine dr 11 (k := ?_) | refine dr 12 (k := ?_) | fail))); (all_goals (try (conv => whnf))); (all_goals (try exact trivial))
                refine ⟨fun x v => ⟨?_, fun _ => rfl⟩, ?_⟩
                · show D x v ↔ D x v ∧ _
                  simp
                · (repeat' ((conv => whnf); (first | ((with_reducible refine spl (fun hc => ?_) (fun hc => ?_)) <;> (try (exfalso; omega))) | ((with_reducible refine spl' (fun hc => ?_) (fun hc => ?_)) <;> (try (exfalso; omega))) | (with_reducible refine imp_intro (fun hc => ?_)) | refine vc (k := ?_) | refine dr 1 (k := ?_) | refine dr 2 (k := ?_) | refine dr 3 (k := ?_) | refine dr 4 (k := ?_) | refine dr 5 (k := ?_) | refine dr 6 (k := ?_) | refine dr 7 (k := ?_) | refine dr 8 (k := ?_) | refine dr 9 (k := ?_) | refine dr 10 (k := ?_) | refine dr 11 (k := ?_) | refine dr 12 (k := ?_) | fail))); (all_goals (try (conv => whnf))); (all_goals (try exact trivial))
              · rintro ⟨j, m⟩ ⟨k1, k2, k3⟩
                dsimp only at k1 k2 k3
                (repeat' ((conv => whnf); (first | ((with_reducible refine spl (fun hc => ?_) (fun hc => ?_)) <;> (try (exfalso; omega))) | ((with_reducible refine spl' (fun hc => ?_) (fun hc => ?_)) <;> (try (exfalso; omega))) | (with_reducible refine imp_intro (fun hc => ?_)) | refine vc (k := ?_) | refine dr 1 (k := ?_) | refine dr 2 (k := ?_) | refine dr 3 (k := ?_) | refine dr 4 (k := ?_) | refine dr 5 (k := ?_) | refine dr 6 (k := ?_) | refine dr 7 (k := ?_) | refine dr 8 (k := ?_) | refine dr 9 (k := ?_) | refine dr 10 (k := ?_) | refine dr 11 (k := ?_) | refine dr 12 (k := ?_) | fail))); (all_goals (try (conv => whnf))); (all_goals (try exact trivial))
                · have hj : j < out.length := by simpa using hc
                  have hq : out.getD (j : Int).toNat (0, 0) = out[j] := by simp [List.getD_eq_getElem?_getD, hj]
                  have hqo : (out[j].1, out[j].2) ∈ out := List.getElem_mem hj
                  have hqD : D out[j].1 out[j].2 := (h2 _ ((h3 _ _).1 hqo).1).2
                  refine ⟨(j + 1, nDel (onK fun x v => D x v ∧ ∀ i, i < j → out[i]? ≠ some (x, v)) m [(out.getD (j : Int).toNat (0, 0)).1, (out.getD (j : Int).toNat (0, 0)).2]), ⟨⟨by dsimp only; omega, ?_, fun _ => ?_⟩, by dsimp only; omega⟩, some [some 0, some 1, some 2, some 3, some 4, some 5, some 6, some 7], ?_⟩
                  · dsimp only
                    unfold nDel
                    split <;> omega
                  · dsimp only
                    by_cases hj0 : 0 < j
                    · have := k3 hj0
                      unfold nDel
                      split <;> omega
                    · unfold nDel
                      rw [if_pos]
                      · have := h4 h0; omega
                      · rw [hq]
                        exact ⟨hqD, fun i hi => by omega⟩
                  · (repeat' ((conv => whnf); (first | ((with_reducible refine spl (fun hc => ?_) (fun hc => ?_)) <;> (try (exfalso; omega))) | ((with_reducible refine spl' (fun hc => ?_) (fun hc => ?_)) <;> (try (exfalso; omega))) | (with_reducible refine imp_intro (fun hc => ?_)) | refine vc (k := ?_) | refine dr 1 (k := ?_) | refine dr 2 (k := ?_) | refine dr 3 (k := ?_) | refine dr 4 (k := ?_) | refine dr 5 (k := ?_) | refine dr 6 (k := ?_) | refine dr 7 (k := ?_) | refine dr 8 (k := ?_) | refine dr 9 (k := ?_) | refine dr 10 (k := ?_) | refine dr 11 (k := ?_) | refine dr 12 (k := ?_) | fail))); (all_goals (try (conv => whnf))); (all_goals (try exact trivial))
                    refine ⟨fun y u => ⟨?_, fun _ => rfl⟩, ?_⟩
                    · show ((D y u ∧ _) ∧ _) ↔ (D y u ∧ _)
                      rw [and_assoc]
                      refine and_congr_right fun _ => ?_
                      dsimp only
                      rw [hq]
                      constructor
                      · rintro ⟨h7, h8⟩ i hi
                        rcases Nat.lt_or_eq_of_le (show i ≤ j by omega) with h9 | rfl
                        · exact h7 i h9
                        · intro h9
                          rw [List.getElem?_eq_getElem hj] at h9
                          apply h8
                          rw [Option.some.inj h9]
                      · intro h7
                        refine ⟨fun i hi => h7 i (by omega), fun h8 => h7 j (by omega) ?_⟩
                        rw [List.getElem?_eq_getElem hj]
                        simp only [List.cons.injEq, and_true] at h8
                        rw [h8.1, h8.2]
                    · (repeat' ((conv => whnf); (first | ((with_reducible refine spl (fun hc => ?_) (fun hc => ?_)) <;> (try (exfalso; omega))) | ((with_reducible refine spl' (fun hc => ?_) (fun hc => ?_)) <;> (try (exfalso; omega))) | (with_reducible refine imp_intro (fun hc => ?_)) | refine vc (k := ?_) | refine dr 1 (k := ?_) | refine dr 2 (k := ?_) | refine dr 3 (k := ?_) | refine dr 4 (k := ?_) | refine dr 5 (k := ?_) | refine dr 6 (k := ?_) | refine dr 7 (k := ?_) | refine dr 8 (k := ?_) | refine dr 9 (k := ?_) | refine dr 10 (k := ?_) | refine dr 11 (k := ?_) | refine dr 12 (k := ?_) | fail))); (all_goals (try (conv => whnf))); (all_goals (try exact trivial))
                · have hj : j = out.length := by have : ¬ (j : Int) < (out.length : Int) := hc; omega
                  subst hj
                  have hlen : 0 < out.length := List.length_pos_iff.2 h0
                  refine ⟨(fun x v => D x v ∧ ∀ i, i < out.length → out[i]? ≠ some (x, v), m, g), ⟨⟨fun x v h => hD1 x v h.1, fun x v hk => ⟨hD2 x v hk, fun i hi h7 => ?_⟩⟩, k3 hlen⟩, some [some 0, some 1, some 2, some 3, some 4, some 5], ?_⟩
                  · have : (x, v) ∈ out := by
                      rw [List.getElem?_eq_getElem hi] at h7
                      rw [← Option.some.inj h7]
                      exact List.getElem_mem hi
                    exact ((h3 x v).1 this).2 (hk.can.mono (fun x v _ h => hD2 x v h))
                  · (repeat' ((conv => whnf); (first | ((with_reducible refine spl (fun hc => ?_) (fun hc => ?_)) <;> (try (exfalso; omega))) | ((with_reducible refine spl' (fun hc => ?_) (fun hc => ?_)) <;> (try (exfalso; omega))) | (with_reducible refine imp_intro (fun hc => ?_)) | refine vc (k := ?_) | refine dr 1 (k := ?_) | refine dr 2 (k := ?_) | refine dr 3 (k := ?_) | refine dr 4 (k := ?_) | refine dr 5 (k := ?_) | refine dr 6 (k := ?_) | refine dr 7 (k := ?_) | refine dr 8 (k := ?_) | refine dr 9 (k := ?_) | refine dr 10 (k := ?_) | refine dr 11 (k := ?_) | refine dr 12 (k := ?_) | fail))); (all_goals (try (conv => whnf))); (all_goals (try exact trivial))
end Go.Proofs
