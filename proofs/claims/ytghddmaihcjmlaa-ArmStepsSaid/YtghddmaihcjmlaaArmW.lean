/- Own work: a text of the proof of a law (ArmW). -/
import Derived.Test.YtghddmaihcjmlaaArmC9
namespace Go.Proofs
open Go Go.Sx
set_option maxRecDepth 100000

/-! the sets, reckoned -/
def ints (lo hi : Int) : List Int := (List.range (hi + 1 - lo).toNat).map fun (k : Nat) => lo + k
theorem mem_ints {lo hi x : Int} : x ∈ ints lo hi ↔ lo ≤ x ∧ x ≤ hi := by
  simp only [ints, List.mem_map, List.mem_range]
  constructor
  · rintro ⟨k, h1, rfl⟩; omega
  · intro h; exact ⟨(x - lo).toNat, by omega, by omega⟩

def Arm.goodB (a : Arm) (l : List (Int × Int)) (x v c : Int) : Bool := (ints (-a.K) a.K).all fun k => decide (a.Has (x + (v + (c + k))) (v + (c + k))) && l.contains (x + (v + (c + k)), v + (c + k))
def Arm.canB (a : Arm) (l : List (Int × Int)) (x v : Int) : Bool := (ints (-a.F) a.F).any fun c => a.goodB l x v c

theorem Arm.goodB_iff {a : Arm} {p : Int → Int → Prop} {l : List (Int × Int)} (h : ∀ x v, a.Has x v → (p x v ↔ (x, v) ∈ l)) (x v c : Int) : a.goodB l x v c = true ↔ a.Good p x v c := by
  simp only [Arm.goodB, List.all_eq_true, mem_ints, Bool.and_eq_true, decide_eq_true_eq, List.contains_iff_mem, Arm.Good]
  constructor
  · intro h1 k h2 h3
    have := h1 k ⟨h2, h3⟩
    exact ⟨this.1, (h _ _ this.1).2 this.2⟩
  · intro h1 k h2
    have := h1 k h2.1 h2.2
    exact ⟨this.1, (h _ _ this.1).1 this.2⟩

theorem Arm.canB_iff {a : Arm} {p : Int → Int → Prop} {l : List (Int × Int)} (h : ∀ x v, a.Has x v → (p x v ↔ (x, v) ∈ l)) (x v : Int) : a.canB l x v = true ↔ a.Can p x v := by
  simp only [Arm.canB, List.any_eq_true, mem_ints, a.goodB_iff h, Arm.Can, and_assoc]

def Arm.keptL (a : Arm) (p : Int → Int → Bool) : Nat → List (Int × Int)
  | 0 => a.spots.filter fun s => p s.1 s.2
  | n + 1 => (a.keptL p n).filter fun s => a.canB (a.keptL p n) s.1 s.2

theorem Arm.keptL_iff {a : Arm} (ha : a.Ok) {p : Int → Int → Prop} {pB : Int → Int → Bool} (hp : ∀ x v, pB x v = true ↔ p x v) {n : Nat} {l : List (Int × Int)} (hl : a.keptL pB n = l) (hst : (l.filter fun s => a.canB l s.1 s.2) = l) (x v : Int) : a.Kept p x v ↔ (x, v) ∈ l := by
  have h1 : ∀ (n : Nat) (x v : Int), a.Kept p x v → (x, v) ∈ a.keptL pB n := by
    intro n
    induction n with
    | zero => intro x v h; exact List.mem_filter.2 ⟨(a.mem_spots ha x v).2 h.has, (hp x v).2 h.told⟩
    | succ n ih =>
      intro x v h
      refine List.mem_filter.2 ⟨ih x v h, (a.canB_iff (p := fun x v => (x, v) ∈ a.keptL pB n) (fun _ _ _ => Iff.rfl) x v).2 (h.can.mono fun y u _ hy => ih y u hy)⟩
  have h2 : ∀ (n : Nat) (x v : Int), (x, v) ∈ a.keptL pB n → a.Has x v ∧ p x v := by
    intro n
    induction n with
    | zero => intro x v h; have := List.mem_filter.1 h; exact ⟨(a.mem_spots ha x v).1 this.1, (hp x v).1 this.2⟩
    | succ n ih => intro x v h; exact ih x v (List.mem_filter.1 h).1
  constructor
  · intro h; rw [← hl]; exact h1 n x v h
  · intro h
    refine .of (A := fun x v => (x, v) ∈ l) (fun x v hx => ?_) h
    have h3 := h2 n x v (by rw [hl]; exact hx)
    refine ⟨h3.1, h3.2, ?_⟩
    rw [← hst] at hx
    exact (a.canB_iff (p := fun x v => (x, v) ∈ l) (fun _ _ _ => Iff.rfl) x v).1 (List.mem_filter.1 hx).2

def Arm.reachL (a : Arm) (l : List (Int × Int)) : Nat → List (Int × Int)
  | 0 => l
  | n + 1 => let m := a.reachL l n; a.spots.filter fun s => m.contains s || a.canB m s.1 s.2

theorem Arm.reachL_iff {a : Arm} (ha : a.Ok) {B : Int → Int → Prop} {l : List (Int × Int)} (hB : ∀ x v, B x v ↔ (x, v) ∈ l) (hh : ∀ x v, B x v → a.Has x v) : ∀ (n : Nat) (x v : Int), a.Reach B n x v ↔ (x, v) ∈ a.reachL l n
  | 0, x, v => hB x v
  | n + 1, x, v => by
    have ih := a.reachL_iff ha hB hh n
    simp only [Arm.reachL, List.mem_filter, Bool.or_eq_true, List.contains_iff_mem, a.mem_spots ha, a.canB_iff (fun x v _ => ih x v), Arm.Reach, ← ih]
    constructor
    · rintro (h | h)
      · exact ⟨h.has hh, .inl h⟩
      · exact ⟨h.1, .inr h.2⟩
    · rintro ⟨h1, h2 | h2⟩
      · exact .inl h2
      · exact .inr ⟨h1, h2⟩

def armA : Arm := ⟨6, 2, 3, 1, 1, 2⟩
def armB : Arm := ⟨6, 2, 3, 0, 0, 0⟩
theorem armA_ok : armA.Ok := by decide
theorem armB_ok : armB.Ok := by decide

theorem thereL {a : Arm} (ha : a.Ok) (t : Int) {n : Nat} {l : List (Int × Int)} (hl : a.keptL (fun x v => decide (a.Track t x v)) n = l) (hst : (l.filter fun s => a.canB l s.1 s.2) = l) (x v : Int) : a.There t x v ↔ (x, v) ∈ l :=
  a.keptL_iff ha (p := a.Track t) (fun x v => by simp) hl hst x v

def theA : List (Int × Int) := armA.keptL (fun x v => decide (armA.Track 3 x v)) 3
theorem theA_len : theA.length = 15 ∧ (theA.filter fun s => armA.canB theA s.1 s.2) = theA := by decide +kernel
def theB : List (Int × Int) := armB.keptL (fun x v => decide (armB.Track 3 x v)) 3
theorem theB_st : (theB.filter fun s => armB.canB theB s.1 s.2) = theB := by decide +kernel
def the0 : List (Int × Int) := armB.keptL (fun x v => decide (armB.Track 0 x v)) 3
theorem the0_st : (the0.filter fun s => armB.canB the0 s.1 s.2) = the0 := by decide +kernel
def safeB : List (Int × Int) := armB.keptL (fun _ _ => true) 5
theorem safeB_st : (safeB.filter fun s => armB.canB safeB s.1 s.2) = safeB := by decide +kernel

theorem sel_length {D : Int → Int → Prop} {a : Arm} (ha : a.Ok) {l : List (Int × Int)} {pB : Int → Int → Bool} {n : Nat} (hl : a.keptL pB n = l) (h : ∀ x v, D x v ↔ (x, v) ∈ l) : sel D a.spots = l := by
  have hs : ∀ (n : Nat), ∃ q : Int × Int → Bool, a.keptL pB n = a.spots.filter q := by
    intro n
    induction n with
    | zero => exact ⟨_, rfl⟩
    | succ n ih =>
      obtain ⟨q, hq⟩ := ih
      exact ⟨fun s => a.canB (a.keptL pB n) s.1 s.2 && q s, by rw [Arm.keptL, hq, List.filter_filter]⟩
  obtain ⟨q, hq⟩ := hs n
  rw [hl] at hq
  rw [hq]
  unfold sel
  refine List.filter_congr ?_
  rintro ⟨x, v⟩ hx
  have := h x v
  rw [hq, List.mem_filter] at this
  have h2 : D x v ↔ q (x, v) = true := ⟨fun hd => (this.1 hd).2, fun hd => this.2 ⟨hx, hd⟩⟩
  cases hqq : q (x, v) with
  | true => simpa using h2.2 hqq
  | false => simp only [decide_eq_false_iff_not]; exact fun hd => by rw [h2.1 hd] at hqq; cases hqq

theorem armA_stays : (armA.stays 3).length = 15 ∧ armA.err 3 [] = 0 := by
  have he : armA.err 3 [] = 0 := Arm.err_ok armA_ok (by decide) (by simp)
  refine ⟨?_, he⟩
  unfold Arm.stays
  rw [if_pos he, sel_length armA_ok (l := theA) rfl (fun x v => thereL armA_ok 3 rfl theA_len.2 x v)]
  exact theA_len.1

theorem rkB (x v : Int) (n : Nat) (h1 : (armB.reachL theB n).contains (x, v) = true) (h2 : ∀ m, m < n → (armB.reachL theB m).contains (x, v) = false) : armB.IsRk (armB.There 3) x v n := by
  have hr := armB.reachL_iff armB_ok (B := armB.There 3) (l := theB) (fun x v => thereL armB_ok 3 rfl theB_st x v) (fun x v h => h.has)
  refine ⟨(hr n x v).2 (List.contains_iff_mem.1 h1), fun m hm h => ?_⟩
  have := List.contains_iff_mem.2 ((hr m x v).1 h)
  rw [h2 m hm] at this
  cases this

theorem armB_steps : armB.stepsN 3 0 0 = 3 ∧ armB.stepsC 3 0 0 = 1 ∧ armB.stepsE 3 0 0 = 0 := by
  have he : armB.err 3 [(0, 0)] = 0 := Arm.err_ok armB_ok (by decide) (by simp; decide)
  have h0 : armB.IsRk (armB.There 3) 0 0 3 := rkB 0 0 3 (by decide +kernel) (by decide +kernel)
  have h1 : armB.IsRk (armB.There 3) 1 1 2 := rkB 1 1 2 (by decide +kernel) (by decide +kernel)
  obtain ⟨e1, e2, e3⟩ := Arm.steps_ok he ⟨3, h0.1⟩
  rw [e1, e2, e3, Arm.rk_eq h0]
  refine ⟨rfl, ?_, rfl⟩
  unfold Arm.own
  rw [Arm.rk_eq h0]
  refine Arm.cmd_eq ⟨by decide, by decide, ?_, ?_⟩
  · intro k hk1 hk2
    obtain rfl : k = 0 := by have : armB.K = 0 := rfl; omega
    refine ⟨by decide, ⟨2, h1.1⟩, .inl ?_⟩
    simp [Arm.rkK, Arm.rk_eq h1]
  · intro d hd1 hd2 hg
    obtain ⟨g1, g2, g3⟩ := hg 0 (by decide) (by decide)
    have hd3 : 0 ≤ d := by have := g1.1.1; omega
    obtain rfl : d = 0 := by omega
    rcases g3 with g3 | g3
    · simp [Arm.rkK, Arm.rk_eq h0] at g3
    · omega

theorem armB_park {n e : Int} (h : armB.IsPark n e) : n = 5 ∧ e = 0 := by
  have hr := armB.reachL_iff armB_ok (B := armB.There 0) (l := the0) (fun x v => thereL armB_ok 0 rfl the0_st x v) (fun x v h => h.has)
  have hs : ∀ x v, armB.Safe x v ↔ (x, v) ∈ safeB := armB.keptL_iff armB_ok (p := fun _ _ => True) (fun x v => by simp) rfl safeB_st
  have h5 : ∀ s ∈ safeB, (armB.reachL the0 5).contains s = true := by decide +kernel
  obtain ⟨s, hs1, hs2⟩ : ∃ s ∈ safeB, (armB.reachL the0 4).contains s = false := by decide +kernel
  have hf : ∀ x v, armB.Safe x v → armB.Reach (armB.There 0) 5 x v := fun x v hx => (hr 5 x v).2 (List.contains_iff_mem.1 (h5 _ ((hs x v).1 hx)))
  have hle : ∀ x v, armB.Safe x v → armB.rk (armB.There 0) x v ≤ 5 := fun x v hx => by
    have := Arm.Found.rk ⟨5, hf x v hx⟩
    rcases Nat.lt_or_ge 5 (armB.rk (armB.There 0) x v) with h1 | h1
    · exact absurd (hf x v hx) (this.2 5 h1)
    · exact h1
  have hS : armB.Safe s.1 s.2 := (hs _ _).2 hs1
  have heq : armB.rk (armB.There 0) s.1 s.2 = 5 := by
    refine Nat.le_antisymm (hle _ _ hS) ?_
    have := Arm.Found.rk ⟨5, hf _ _ hS⟩
    rcases Nat.lt_or_ge (armB.rk (armB.There 0) s.1 s.2) 5 with h1 | h1
    · have h2 : armB.Reach (armB.There 0) 4 s.1 s.2 := this.1.mono (by omega)
      have := List.contains_iff_mem.2 ((hr 4 _ _).1 h2)
      rw [hs2] at this
      cases this
    · exact h1
  rcases h with ⟨h, _⟩ | ⟨_, _, _, h | h⟩ | ⟨_, he, h1, x, v, h2, h3⟩
  · exact absurd armB_ok h
  · obtain ⟨x, v, h1, h2⟩ := h
    exact absurd ⟨5, hf x v h1⟩ h2
  · exact absurd hS (h _ _)
  · have := (h1 _ _ hS).2
    have := hle x v h2
    omega

theorem example34 : PureC Try.prog 34 false [] (· = .tup [armA.v, armB.v]) := by
  refine pureC_of_exec Try.E_ok Try.func34 rfl (by kernel_rfl) ?_
  (repeat' ((conv => whnf); (first | ((with_reducible refine spl (fun hc => ?_) (fun hc => ?_)) <;> (try (exfalso; omega))) | ((with_reducible refine spl' (fun hc => ?_) (fun hc => ?_)) <;> (try (exfalso; omega))) | (with_reducible refine imp_intro (fun hc => ?_)) | refine vc (k := ?_) | refine dr 1 (k := ?_) | refine dr 2 (k := ?_) | refine dr 3 (k := ?_) | refine dr 4 (k := ?_) | refine dr 5 (k := ?_) | refine dr 6 (k := ?_) | refine dr 7 (k := ?_) | refine dr 8 (k := ?_) | refine dr 9 (k := ?_) | refine dr 10 (k := ?_) | refine dr 11 (k := ?_) | refine dr 12 (k := ?_) | fail))); (all_goals (try (conv => whnf))); (all_goals (try exact trivial))
  refine ⟨_, rfl, ?_⟩
  (repeat' ((conv => whnf); (first | ((with_reducible refine spl (fun hc => ?_) (fun hc => ?_)) <;> (try (exfalso; omega))) | ((with_reducible refine spl' (fun hc => ?_) (fun hc => ?_)) <;> (try (exfalso; omega))) | (with_reducible refine imp_intro (fun hc => ?_)) | refine vc (k := ?_) | refine dr 1 (k := ?_) | refine dr 2 (k := ?_) | refine dr 3 (k := ?_) | refine dr 4 (k := ?_) | refine dr 5 (k := ?_) | refine dr 6 (k := ?_) | refine dr 7 (k := ?_) | refine dr 8 (k := ?_) | refine dr 9 (k := ?_) | refine dr 10 (k := ?_) | refine dr 11 (k := ?_) | refine dr 12 (k := ?_) | fail))); (all_goals (try (conv => whnf))); (all_goals (try exact trivial))

theorem works12 : PureC Try.prog 12 false [] (· = .prop True inferInstance) := by
  obtain ⟨s1, s2⟩ := armA_stays
  obtain ⟨p1, p2, p3⟩ := armB_steps
  have st : PureC Try.prog 21 true [armA.v, .int .i64 3] (· = .tup [.sl 2 15 (rowOf spotCs (0, 0) (armA.stays 3)), .int .i64 0]) := by
    have := stays21 armA 3
    rwa [s1, s2] at this
  have sp : PureC Try.prog 13 false [armB.v, .int .i64 3, spotV 0 0] (· = .tup [.int .i64 3, .int .i64 1, .int .i64 0]) := by
    have := steps13 armB 3 0 0
    rwa [p1, p2, p3] at this
  have pk : PureC Try.prog 27 false [armB.v] (· = .tup [.int .i64 5, .int .i64 0]) :=
    (park27 armB).mono fun v ⟨n, e, h1, h2⟩ => by obtain ⟨rfl, rfl⟩ := armB_park h2; exact h1
  refine pureC_of_exec Try.E_ok Try.func12 rfl (by kernel_rfl) ?_
  (repeat' ((conv => whnf); (first | ((with_reducible refine spl (fun hc => ?_) (fun hc => ?_)) <;> (try (exfalso; omega))) | ((with_reducible refine spl' (fun hc => ?_) (fun hc => ?_)) <;> (try (exfalso; omega))) | (with_reducible refine imp_intro (fun hc => ?_)) | refine vc (k := ?_) | refine dr 1 (k := ?_) | refine dr 2 (k := ?_) | refine dr 3 (k := ?_) | refine dr 4 (k := ?_) | refine dr 5 (k := ?_) | refine dr 6 (k := ?_) | refine dr 7 (k := ?_) | refine dr 8 (k := ?_) | refine dr 9 (k := ?_) | refine dr 10 (k := ?_) | refine dr 11 (k := ?_) | refine dr 12 (k := ?_) | fail))); (all_goals (try (conv => whnf))); (all_goals (try exact trivial)); (repeat' ((first | (refine callee_fo (example34) rfl ?_; rintro _ rfl) | (refine pcall_intro (example34) rfl ?_) | (refine pcall_soft (fun _ => example34) rfl ?_) | (refine callee_fo (st) rfl ?_; rintro _ rfl) | (refine pcall_intro (st) rfl ?_) | (refine pcall_soft (fun _ => st) rfl ?_) | (refine callee_fo (sp) rfl ?_; rintro _ rfl) | (refine pcall_intro (sp) rfl ?_) | (refine pcall_soft (fun _ => sp) rfl ?_) | (refine callee_fo (pk) rfl ?_; rintro _ rfl) | (refine pcall_intro (pk) rfl ?_) | (refine pcall_soft (fun _ => pk) rfl ?_)); (repeat' ((conv => whnf); (first | ((with_reducible refine spl (fun hc => ?_) (fun hc => ?_)) <;> (try (exfalso; omega))) | ((with_reducible refine spl' (fun hc => ?_) (fun hc => ?_)) <;> (try (exfalso; omega))) | (with_reducible refine imp_intro (fun hc => ?_)) | refine vc (k := ?_) | refine dr 1 (k := ?_) | refine dr 2 (k := ?_) | refine dr 3 (k := ?_) | refine dr 4 (k := ?_) | refine dr 5 (k := ?_) | refine dr 6 (k := ?_) | refine dr 7 (k := ?_) | refine dr 8 (k := ?_) | refine dr 9 (k := ?_) | refine dr 10 (k := ?_) | refine dr 11 (k := ?_) | refine dr 12 (k := ?_) | fail))); (all_goals (try (conv => whnf))); (all_goals (try exact trivial)))); (all_goals (try (refine ⟨_, rfl, ?_⟩; (repeat' ((conv => whnf); (first | ((with_reducible refine spl (fun hc => ?_) (fun hc => ?_)) <;> (try (exfalso; omega))) | ((with_reducible refine spl' (fun hc => ?_) (fun hc => ?_)) <;> (try (exfalso; omega))) | (with_reducible refine imp_intro (fun hc => ?_)) | refine vc (k := ?_) | refine dr 1 (k := ?_) | refine dr 2 (k := ?_) | refine dr 3 (k := ?_) | refine dr 4 (k := ?_) | refine dr 5 (k := ?_) | refine dr 6 (k := ?_) | refine dr 7 (k := ?_) | refine dr 8 (k := ?_) | refine dr 9 (k := ?_) | refine dr 10 (k := ?_) | refine dr 11 (k := ?_) | refine dr 12 (k := ?_) | fail))); (all_goals (try (conv => whnf))); (all_goals (try exact trivial)))))
  exact ⟨by simp, trivial⟩
end Go.Proofs
