/- Own work: texts of the proof of a law (Sh11, Sh12, Sh13, ShN, Sh16, Sh17, Sh19, Sh20, Sh21, Sh22, Sh23, Sh24, Sh25, Sh26). No condition. -/
import Derived.Test.YtdjkkkkhlgdopaaPart13
namespace Go.Proofs
open Go Go.Sx
set_option maxRecDepth 100000
set_option maxHeartbeats 4000000
-- SxAid2

def bit (n i : Nat) : Bool := n / 2 ^ i % 2 == 1

theorem andNot64 : ∀ (x : Fin 64) (k : Fin 6), bitsI .andNot .i64 (x.val : Int) (1 * 2 ^ k.val) = ((if bit x.val k.val then x.val - 2 ^ k.val else x.val : Nat) : Int) := by decide +kernel
theorem bit_clear : ∀ (x : Fin 64) (k i : Fin 6), bit (if bit x.val k.val then x.val - 2 ^ k.val else x.val) i.val = (bit x.val i.val && !(i.val == k.val)) := by decide +kernel
theorem clear_lt : ∀ (x : Fin 64) (k : Fin 6), (if bit x.val k.val then x.val - 2 ^ k.val else x.val) < 64 := by decide +kernel
theorem and_one : ∀ x : Fin 64, bitsI .and .i64 (x.val : Int) 1 = ((x.val % 2 : Nat) : Int) := by decide +kernel
theorem no_bits : ∀ x : Fin 64, (∀ i : Fin 6, bit x.val i.val = false) → x.val = 0 := by decide +kernel
theorem bit_high : ∀ (x : Fin 64) (n i : Fin 7), x.val < 2 ^ n.val → n.val ≤ i.val → bit x.val i.val = false := by decide +kernel

namespace Bands
variable (b : Bands)
def sumC (ks : List Int) (set : Nat) : Nat → Int
  | 0 => 0
  | i + 1 => sumC ks set i + (if bit set i then b.costOf ks i else 0)
def sumS (ks : List Int) (set : Nat) : Nat → Int
  | 0 => 0
  | i + 1 => sumS ks set i + (if bit set i then b.slots i ks else 0)
def okSet (ks : List Int) (set : Nat) : Bool := (List.range b.B.toNat).all fun i => !bit set i || !(b.slots i ks == 0)
def fitSet (ks : List Int) (need : Int) (set : Nat) : Bool := b.okSet ks set && decide (need ≤ b.C - ks.length + b.sumS ks set b.B.toNat)
def stepSet (ks : List Int) (need : Int) (r : Int × Int × Bool) (set : Nat) : Int × Int × Bool :=
  if b.fitSet ks need set = true ∧ (r.2.2 = false ∨ b.sumC ks set b.B.toNat < r.2.1) then ((set : Int), b.sumC ks set b.B.toNat, true) else r
def best (ks : List Int) (need : Int) : Int × Int × Bool := (List.range (2 ^ b.B.toNat)).foldl (b.stepSet ks need) (0, 0, false)
end Bands

theorem sum_jobs {b : Bands} {ks : List Int} {set : Nat} (t : Job → Int) (u : Nat → Int) (h1 : ∀ i : Nat, b.slots i ks ≠ 0 → t (b.jobOf ks i) = if bit set i then u i else 0) (h2 : ∀ i : Nat, b.slots i ks = 0 → u i = 0)
    (S : Nat → Int) (hS0 : S 0 = 0) (hS : ∀ i, S (i + 1) = S i + (if bit set i then u i else 0)) : ∀ n, ((((List.range n).map (b.jobOf ks)).filter Job.has).map t).sum = S n
  | 0 => by simp [hS0]
  | n + 1 => by
    have ih := sum_jobs t u h1 h2 S hS0 hS n
    rw [List.range_succ, List.map_append, List.filter_append, List.map_append, List.sum_append, ih, hS]
    congr 1
    by_cases hn : b.slots n ks = 0
    · rw [List.map_cons, List.filter_cons_of_neg (by rw [has_jobOf]; simp [hn]), h2 n hn]
      simp
    · rw [List.map_cons, List.filter_cons_of_pos (has_jobOf.2 hn)]
      simp [h1 n hn]

theorem jobOf_fst {b : Bands} {ks : List Int} {i : Nat} (h : b.slots i ks ≠ 0) : (b.jobOf ks i).1 = i := by
  unfold Bands.jobOf
  rw [if_neg h]

theorem costOf_zero {b : Bands} {band : Int} : ∀ {ks : List Int}, b.slots band ks = 0 → b.costOf ks band = 0
  | [], _ => by simp [Bands.costOf, Bands.lowest]
  | x :: ks, h => by
    unfold Bands.slots at h
    have h0 := (slots_nonneg (b := b) band ks).1
    by_cases hx : b.bd x = band
    · rw [if_pos hx] at h; omega
    · rw [if_neg hx] at h
      have := costOf_zero h
      unfold Bands.costOf at this ⊢
      unfold Bands.lowest
      rw [if_neg hx]
      exact this

theorem jobs_sumC {b : Bands} {ks : List Int} (set : Nat) : ((b.jobs ks).map (fun j => if bit set j.1.toNat then j.2.1 else 0)).sum = b.sumC ks set b.B.toNat :=
  sum_jobs (set := set) (fun j => if bit set j.1.toNat then j.2.1 else 0) (fun i => b.costOf ks i) (fun i hi => by simp only [jobOf_fst hi, Int.toNat_natCast]; rfl) (fun i hi => costOf_zero hi) (b.sumC ks set) rfl (fun _ => rfl) _

theorem jobs_sumS {b : Bands} {ks : List Int} (set : Nat) : ((b.jobs ks).map (fun j => if bit set j.1.toNat then j.2.2 else 0)).sum = b.sumS ks set b.B.toNat :=
  sum_jobs (set := set) (fun j => if bit set j.1.toNat then j.2.2 else 0) (fun i => b.slots i ks) (fun i hi => by simp only [jobOf_fst hi, Int.toNat_natCast]; rfl) (fun i hi => hi) (b.sumS ks set) rfl (fun _ => rfl) _

theorem jobs_any {b : Bands} {ks : List Int} {i : Nat} (hi : (i : Int) < b.B) : (b.jobs ks).any (fun j => j.1 == (i : Int)) = true ↔ b.slots i ks ≠ 0 := by
  rw [List.any_eq_true]
  constructor
  · rintro ⟨j, hj, he⟩
    obtain ⟨k, _, h2, rfl⟩ := jobs_mem hj
    have : (k : Int) = i := by simpa using he
    rwa [← this]
  · intro h
    refine ⟨b.jobOf ks i, List.mem_filter.2 ⟨List.mem_map.2 ⟨i, List.mem_range.2 (by omega), rfl⟩, has_jobOf.2 h⟩, ?_⟩
    simp [jobOf_fst h]

theorem jobs_ok {b : Bands} (hb : b.Ok) {ks : List Int} {set left : Nat} (hset : set < 2 ^ b.B.toNat) (hl : left < 64) (h : ∀ i, i < 6 → bit left i = (bit set i && !(b.jobs ks).any (fun j => j.1 == (i : Int)))) : left = 0 ↔ b.okSet ks set = true := by
  have hB := hb.B
  have hs64 : set < 64 := Nat.lt_of_lt_of_le hset (by
    have : 2 ^ b.B.toNat ≤ 2 ^ 6 := Nat.pow_le_pow_right (by omega) (by omega)
    simpa using this)
  unfold Bands.okSet
  rw [List.all_eq_true]
  constructor
  · intro h0 i hi
    have hi := List.mem_range.1 hi
    have hb0 := h i (by omega)
    rw [h0] at hb0
    have hz : bit 0 i = false := by simp [bit]
    rw [hz] at hb0
    by_cases hbit : bit set i = true
    · rw [hbit] at hb0 ⊢
      have : (b.jobs ks).any (fun j => j.1 == (i : Int)) = true := by simpa using hb0.symm
      have := (jobs_any (by omega)).1 this
      simp [this]
    · simp [hbit]
  · intro hall
    refine no_bits ⟨left, hl⟩ fun i => ?_
    rw [h i.val i.isLt]
    by_cases hiB : (i.val : Int) < b.B
    · have := hall i.val (List.mem_range.2 (by omega))
      by_cases hbit : bit set i.val = true
      · rw [hbit] at this ⊢
        have hs : b.slots i.val ks ≠ 0 := by simpa using this
        rw [(jobs_any hiB).2 hs]
        rfl
      · simp [hbit]
    · rw [bit_high ⟨set, hs64⟩ ⟨b.B.toNat, by omega⟩ ⟨i.val, by omega⟩ hset (by dsimp only; omega)]
      rfl

open Classical in
noncomputable def clRes (b : Bands) (l : List (Int × Int)) (need : Int) : Int × Int × Int :=
  if chk b l ≠ 0 then (0, 0, chk b l) else if need < 0 ∨ b.C < need then (0, 0, 1) else ((b.best (St.run b l).keys need).1, (b.best (St.run b l).keys need).2.1, 0)

theorem clean20 (b : Bands) (l : List (Int × Int)) (hl : l.length ≤ 8000) (need : Int) : PureC Try.prog 20 false [b.v, .sl 2 l.length (rowOf wC (0, 0) l), .int .i64 need] (· = .tup [.int .i64 (clRes b l need).1, .int .i64 (clRes b l need).2.1, .int .i64 (clRes b l need).2.2]) := by
  refine pureC_of_exec Try.E_ok Try.func20 rfl (by kernel_rfl) ?_
  (repeat' ((conv => whnf); (first | ((first | with_reducible refine spl (fun hc => ?_) (fun hc => ?_) | with_reducible refine spl' (fun hc => ?_) (fun hc => ?_)) <;> try (exfalso; omega)) | with_reducible refine imp_intro (fun hc => ?_) | refine vcq (k := ?_) | refine dr 9 (k := ?_)))); all_goals (try conv => whnf); all_goals (try with_reducible exact trivial)
  refine callee_fo (check28 b l hl) rfl ?_
  rintro _ rfl
  (repeat' ((conv => whnf); (first | ((first | with_reducible refine spl (fun hc => ?_) (fun hc => ?_) | with_reducible refine spl' (fun hc => ?_) (fun hc => ?_)) <;> try (exfalso; omega)) | with_reducible refine imp_intro (fun hc => ?_) | refine vcq (k := ?_) | refine dr 9 (k := ?_)))); all_goals (try conv => whnf); all_goals (try with_reducible exact trivial)
  · have e : clRes b l need = (0, 0, chk b l) := by unfold clRes; rw [if_pos hc]
    rw [e]
    refine ⟨_, rfl, ?_⟩
    (repeat' ((conv => whnf); (first | ((first | with_reducible refine spl (fun hc => ?_) (fun hc => ?_) | with_reducible refine spl' (fun hc => ?_) (fun hc => ?_)) <;> try (exfalso; omega)) | with_reducible refine imp_intro (fun hc => ?_) | refine vcq (k := ?_) | refine dr 9 (k := ?_)))); all_goals (try conv => whnf); all_goals (try with_reducible exact trivial)
  · have e : clRes b l need = (0, 0, 1) := by rename_i hz; unfold clRes; rw [if_neg hz, if_pos hc]
    rw [e]
    refine ⟨_, rfl, ?_⟩
    (repeat' ((conv => whnf); (first | ((first | with_reducible refine spl (fun hc => ?_) (fun hc => ?_) | with_reducible refine spl' (fun hc => ?_) (fun hc => ?_)) <;> try (exfalso; omega)) | with_reducible refine imp_intro (fun hc => ?_) | refine vcq (k := ?_) | refine dr 9 (k := ?_)))); all_goals (try conv => whnf); all_goals (try with_reducible exact trivial)
  · rename_i hz0
    have hz := Classical.not_not.1 hz0
    obtain ⟨hb, h1, h2⟩ := chk_ok hz
    obtain ⟨o1, o2⟩ := run_ok hb h2.inB
    have hB := hb.B
    have hC := hb.C
    have e : clRes b l need = ((b.best (St.run b l).keys need).1, (b.best (St.run b l).keys need).2.1, 0) := by unfold clRes; rw [if_neg hz0, if_neg hc]
    rw [e]
    refine callee_new (run38 b hb l hl h2.inB) rfl ?_
    rintro _ _ ⟨g, rfl, rfl⟩
    (repeat' ((conv => whnf); (first | ((first | with_reducible refine spl (fun hc => ?_) (fun hc => ?_) | with_reducible refine spl' (fun hc => ?_) (fun hc => ?_)) <;> try (exfalso; omega)) | with_reducible refine imp_intro (fun hc => ?_) | refine vcq (k := ?_) | refine dr 9 (k := ?_)))); all_goals (try conv => whnf); all_goals (try with_reducible exact trivial)
    refine callee_frame [1, 2, 3, 4] (jobs40 b hb _ o1 g) rfl ?_ ?_
    · (repeat' ((conv => whnf); (first | ((first | with_reducible refine spl (fun hc => ?_) (fun hc => ?_) | with_reducible refine spl' (fun hc => ?_) (fun hc => ?_)) <;> try (exfalso; omega)) | with_reducible refine imp_intro (fun hc => ?_) | refine vcq (k := ?_) | refine dr 9 (k := ?_)))); all_goals (try conv => whnf); all_goals (try with_reducible exact trivial)
    · rintro _ _ ⟨rfl, rfl⟩
      have hjl : (b.jobs (St.run b l).keys).length ≤ 6 := by
        have : (b.jobs (St.run b l).keys).length ≤ b.B.toNat := Nat.le_trans (List.length_filter_le _ _) (by simp)
        omega
      have hpow : 1 ≤ 2 ^ b.B.toNat ∧ 2 ^ b.B.toNat ≤ 64 := ⟨Nat.one_le_two_pow, by
        have : 2 ^ b.B.toNat ≤ 2 ^ 6 := Nat.pow_le_pow_right (by omega) (by omega)
        simpa using this⟩
      have hp2 : (1 : Int) * 2 ^ b.B.toNat = ((2 ^ b.B.toNat : Nat) : Int) := by simp
      have hlen : (St.run b l).keys.length = (St.run b l).cch.length := by simp [St.keys]
      have hcl := o1.len
      have hjm := fun j (h : j ∈ b.jobs (St.run b l).keys) => jobs_mem h
      have hsC := fun set => jobs_sumC (b := b) (ks := (St.run b l).keys) set
      have hsS := fun set => jobs_sumS (b := b) (ks := (St.run b l).keys) set
      have hok := fun set left => jobs_ok hb (ks := (St.run b l).keys) (set := set) (left := left)
      have hslot : ∀ i : Nat, b.slots i (St.run b l).keys ≤ 12 := fun i => by have := (slots_nonneg (b := b) i (St.run b l).keys).2; omega
      have hslot0 : ∀ i : Nat, 0 ≤ b.slots i (St.run b l).keys := fun i => (slots_nonneg (b := b) i (St.run b l).keys).1
      have hcost : ∀ i : Nat, 0 ≤ b.costOf (St.run b l).keys i ∧ b.costOf (St.run b l).keys i ≤ 6 := fun i => by have := lowest_le hb i (St.run b l).keys; have := hb.T; unfold Bands.costOf; omega
      generalize hjs : b.jobs (St.run b l).keys = js at *
      generalize hM : 2 ^ b.B.toNat = M at *
      (repeat' ((conv => whnf); (first | ((first | with_reducible refine spl (fun hc => ?_) (fun hc => ?_) | with_reducible refine spl' (fun hc => ?_) (fun hc => ?_)) <;> try (exfalso; omega)) | with_reducible refine imp_intro (fun hc => ?_) | refine vcq (k := ?_) | refine dr 9 (k := ?_)))); all_goals (try conv => whnf); all_goals (try with_reducible exact trivial)
      refine ⟨⟨by omega, by show b.B.toNat ≤ 64; omega, by rw [hp2]; exact inR64 (by omega) (by omega)⟩, ?_⟩
      rw [hp2]
      (repeat' ((conv => whnf); (first | ((first | with_reducible refine spl (fun hc => ?_) (fun hc => ?_) | with_reducible refine spl' (fun hc => ?_) (fun hc => ?_)) <;> try (exfalso; omega)) | with_reducible refine imp_intro (fun hc => ?_) | refine vcq (k := ?_) | refine dr 9 (k := ?_)))); all_goals (try conv => whnf); all_goals (try with_reducible exact trivial)
      refine ⟨Nat × Int × Int × Bool, fun q => q.1 ≤ M ∧ q.2 = (List.range q.1).foldl (b.stepSet (St.run b l).keys need) (0, 0, false), fun q => M - q.1, fun q => [(29, .any), (41, .int .i64 q.1), (6, .int .i64 q.2.1), (7, .int .i64 q.2.2.1), (12, .prop (q.2.2.2 = true) inferInstance)], fun _ => [], fun _ => [], (0, 0, 0, false), ⟨⟨by simp, rfl⟩, some [some 0, some 1, some 2, some 3, some 4], ?_⟩, ?_⟩
      · (repeat' ((conv => whnf); (first | ((first | with_reducible refine spl (fun hc => ?_) (fun hc => ?_) | with_reducible refine spl' (fun hc => ?_) (fun hc => ?_)) <;> try (exfalso; omega)) | with_reducible refine imp_intro (fun hc => ?_) | refine vcq (k := ?_) | refine dr 9 (k := ?_)))); all_goals (try conv => whnf); all_goals (try with_reducible exact trivial)
        refine ⟨by simp, ?_⟩
        (repeat' ((conv => whnf); (first | ((first | with_reducible refine spl (fun hc => ?_) (fun hc => ?_) | with_reducible refine spl' (fun hc => ?_) (fun hc => ?_)) <;> try (exfalso; omega)) | with_reducible refine imp_intro (fun hc => ?_) | refine vcq (k := ?_) | refine dr 9 (k := ?_)))); all_goals (try conv => whnf); all_goals (try with_reducible exact trivial)
      · rintro ⟨set, r1, r2, r3⟩ ⟨q1, q2⟩
        dsimp only at q1 q2
        (repeat' ((conv => whnf); (first | ((first | with_reducible refine spl (fun hc => ?_) (fun hc => ?_) | with_reducible refine spl' (fun hc => ?_) (fun hc => ?_)) <;> try (exfalso; omega)) | with_reducible refine imp_intro (fun hc => ?_) | refine vcq (k := ?_) | refine dr 9 (k := ?_)))); all_goals (try conv => whnf); all_goals (try with_reducible exact trivial)
        · have hset : set < M := by dsimp only at hc; omega
          refine ⟨Nat × Nat × Int × Int, fun p => p.1 ≤ js.length ∧ p.2.1 < 64 ∧ (∀ i, i < 6 → bit p.2.1 i = (bit set i && !(js.take p.1).any (fun j => j.1 == (i : Int)))) ∧ (p.2.2.1 = b.C - (St.run b l).cch.length + ((js.take p.1).map (fun j => if bit set j.1.toNat then j.2.2 else 0)).sum ∧ 0 ≤ p.2.2.1 ∧ p.2.2.1 ≤ 12 + 12 * p.1) ∧ (p.2.2.2 = ((js.take p.1).map (fun j => if bit set j.1.toNat then j.2.1 else 0)).sum ∧ 0 ≤ p.2.2.2 ∧ p.2.2.2 ≤ 6 * p.1), fun p => js.length - p.1,
            fun p => [(55, .int .i64 p.1), (14, .int .i64 p.2.1), (16, .int .i64 p.2.2.1), (15, .int .i64 p.2.2.2)], fun _ => [], fun _ => [], (0, set, b.C - (St.run b l).cch.length, 0), ⟨⟨by simp, by dsimp only; omega, fun i _ => by simp, ⟨by simp, by dsimp only; omega, by dsimp only; omega⟩, by simp⟩, some [some 0, some 1, some 2, some 3, some 4], ?_⟩, ?_⟩
          · (repeat' ((conv => whnf); (first | ((first | with_reducible refine spl (fun hc => ?_) (fun hc => ?_) | with_reducible refine spl' (fun hc => ?_) (fun hc => ?_)) <;> try (exfalso; omega)) | with_reducible refine imp_intro (fun hc => ?_) | refine vcq (k := ?_) | refine dr 9 (k := ?_)))); all_goals (try conv => whnf); all_goals (try with_reducible exact trivial)
          · rintro ⟨k, left, free, price⟩ ⟨p1, p2, p3, p4, p5⟩
            dsimp only at p1 p2 p3 p4 p5
            have hti : (k : Int).toNat = k := Int.toNat_natCast k
            by_cases hk : k < js.length
            · obtain ⟨i, i1, i2, i3⟩ := hjm _ (getD_mem (d := (0, 0, 0)) hk)
              have e0 : js.getD (k : Int).toNat (0, 0, 0) = ((i : Int), b.costOf (St.run b l).keys i, b.slots i (St.run b l).keys) := by rw [hti, i3]
              have f1 : 0 ≤ (js.getD (k : Int).toNat (0, 0, 0)).1 ∧ (js.getD (k : Int).toNat (0, 0, 0)).1.toNat ≤ 6 := by rw [e0]; dsimp only; omega
              have f2 : 0 ≤ (js.getD (k : Int).toNat (0, 0, 0)).2.1 ∧ (js.getD (k : Int).toNat (0, 0, 0)).2.1 ≤ 6 := by rw [e0]; exact hcost i
              have f3 : 0 ≤ (js.getD (k : Int).toNat (0, 0, 0)).2.2 ∧ (js.getD (k : Int).toNat (0, 0, 0)).2.2 ≤ 12 := by rw [e0]; exact ⟨hslot0 i, hslot i⟩
              have hi6 : i < 6 := by omega
              have f4 : inR .i64 (1 * 2 ^ (js.getD (k : Int).toNat (0, 0, 0)).1.toNat) := by
                rw [e0]
                have : (1 : Int) * 2 ^ ((i : Int).toNat) = ((2 ^ i : Nat) : Int) := by simp
                have h2 : 2 ^ i ≤ 2 ^ 6 := Nat.pow_le_pow_right (by omega) (by omega)
                have h3 : 1 ≤ 2 ^ i := Nat.one_le_two_pow
                dsimp only
                rw [this]
                exact inR64 (by omega) (by omega)
              have hbit : bitsI .and .i64 ((set : Int).fdiv (2 ^ (js.getD (k : Int).toNat (0, 0, 0)).1.toNat)) 1 = 1 ↔ bit set i = true := by
                rw [e0]
                have e1 : (set : Int).fdiv (2 ^ ((i : Int).toNat)) = ((set / 2 ^ i : Nat) : Int) := by
                  rw [Int.toNat_natCast, Int.fdiv_eq_ediv_of_nonneg _ (Int.pow_nonneg (by omega))]
                  simp
                dsimp only
                rw [e1, and_one ⟨set / 2 ^ i, Nat.lt_of_le_of_lt (Nat.div_le_self _ _) (by omega)⟩]
                unfold bit
                simp only [beq_iff_eq]
                omega
              have htake : js.take (k + 1) = js.take k ++ [js.getD k (0, 0, 0)] := take_succ_getD (0, 0, 0) hk
              rw [i3] at htake
              (repeat' ((conv => whnf); (first | ((first | with_reducible refine spl (fun hc => ?_) (fun hc => ?_) | with_reducible refine spl' (fun hc => ?_) (fun hc => ?_)) <;> try (exfalso; omega)) | with_reducible refine imp_intro (fun hc => ?_) | refine vcq (k := ?_) | refine dr 9 (k := ?_)))); all_goals (try conv => whnf); all_goals (try with_reducible exact trivial)
              refine ⟨⟨f1.1, Nat.le_trans f1.2 (by decide)⟩, ?_⟩
              (repeat' ((conv => whnf); (first | ((first | with_reducible refine spl (fun hc => ?_) (fun hc => ?_) | with_reducible refine spl' (fun hc => ?_) (fun hc => ?_)) <;> try (exfalso; omega)) | with_reducible refine imp_intro (fun hc => ?_) | refine vcq (k := ?_) | refine dr 9 (k := ?_)))); all_goals (try conv => whnf); all_goals (try with_reducible exact trivial)
              · refine ⟨⟨f1.1, Nat.le_trans f1.2 (by decide), f4⟩, ?_⟩
                (repeat' ((conv => whnf); (first | ((first | with_reducible refine spl (fun hc => ?_) (fun hc => ?_) | with_reducible refine spl' (fun hc => ?_) (fun hc => ?_)) <;> try (exfalso; omega)) | with_reducible refine imp_intro (fun hc => ?_) | refine vcq (k := ?_) | refine dr 9 (k := ?_)))); all_goals (try conv => whnf); all_goals (try with_reducible exact trivial)
                have hb1 : bit set i = true := hbit.1 hc
                have hany : ∀ n : Nat, (js.take (k + 1)).any (fun j => j.1 == (n : Int)) = ((js.take k).any (fun j => j.1 == (n : Int)) || (n == i)) := fun n => by
                  rw [htake, List.any_append]
                  congr 1
                  simp only [List.any_cons, List.any_nil, Bool.or_false]
                  rw [Bool.eq_iff_iff]
                  simp only [beq_iff_eq]
                  omega
                have hcl2 : bitsI .andNot .i64 (left : Int) (1 * 2 ^ (js.getD (k : Int).toNat (0, 0, 0)).1.toNat) = ((if bit left i then left - 2 ^ i else left : Nat) : Int) := by
                  rw [e0]
                  exact andNot64 ⟨left, p2⟩ ⟨i, hi6⟩
                have hcl3 := clear_lt ⟨left, p2⟩ ⟨i, hi6⟩
                have hcl4 := fun n (hn : n < 6) => bit_clear ⟨left, p2⟩ ⟨i, hi6⟩ ⟨n, hn⟩
                dsimp only at hcl3 hcl4
                generalize (if bit left i then left - 2 ^ i else left : Nat) = left' at *
                refine ⟨(k + 1, left', free + (js.getD (k : Int).toNat (0, 0, 0)).2.2, price + (js.getD (k : Int).toNat (0, 0, 0)).2.1), ⟨⟨by dsimp only; omega, hcl3, fun n hn => ?_, ⟨?_, by dsimp only; omega, by dsimp only; omega⟩, ?_, by dsimp only; omega, by dsimp only; omega⟩, by dsimp only; omega⟩, some [some 0, some 1, some 2, some 3, some 4], ?_⟩
                · dsimp only
                  rw [hcl4 n hn, hany, p3 n hn]
                  cases bit set n <;> cases (js.take k).any (fun j => j.1 == (n : Int)) <;> cases (n == i) <;> rfl
                · dsimp only
                  rw [htake, List.map_append, List.sum_append, p4.1, e0]
                  simp only [List.map_cons, List.map_nil, List.sum_cons, List.sum_nil, Int.toNat_natCast, hb1, if_true]
                  omega
                · dsimp only
                  rw [htake, List.map_append, List.sum_append, p5.1, e0]
                  simp only [List.map_cons, List.map_nil, List.sum_cons, List.sum_nil, Int.toNat_natCast, hb1, if_true]
                  omega
                · dsimp only
                  rw [hcl2]
                  (repeat' ((conv => whnf); (first | ((first | with_reducible refine spl (fun hc => ?_) (fun hc => ?_) | with_reducible refine spl' (fun hc => ?_) (fun hc => ?_)) <;> try (exfalso; omega)) | with_reducible refine imp_intro (fun hc => ?_) | refine vcq (k := ?_) | refine dr 9 (k := ?_)))); all_goals (try conv => whnf); all_goals (try with_reducible exact trivial)
              · have hb1 : bit set i = false := by simpa using fun h => hc (hbit.2 h)
                have hany : ∀ n : Nat, (js.take (k + 1)).any (fun j => j.1 == (n : Int)) = ((js.take k).any (fun j => j.1 == (n : Int)) || (n == i)) := fun n => by
                  rw [htake, List.any_append]
                  congr 1
                  simp only [List.any_cons, List.any_nil, Bool.or_false]
                  rw [Bool.eq_iff_iff]
                  simp only [beq_iff_eq]
                  omega
                refine ⟨(k + 1, left, free, price), ⟨⟨by dsimp only; omega, p2, fun n hn => ?_, ⟨?_, by dsimp only; omega, by dsimp only; omega⟩, ?_, by dsimp only; omega, by dsimp only; omega⟩, by dsimp only; omega⟩, some [some 0, some 1, some 2, some 3, some 4], ?_⟩
                · dsimp only
                  rw [hany, p3 n hn]
                  by_cases hni : n = i
                  · subst hni; simp [hb1]
                  · have e9 : (n == i) = false := by simpa using hni
                    rw [e9, Bool.or_false]
                · dsimp only
                  rw [htake, List.map_append, List.sum_append, p4.1]
                  simp [hb1]
                · dsimp only
                  rw [htake, List.map_append, List.sum_append, p5.1]
                  simp [hb1]
                · (repeat' ((conv => whnf); (first | ((first | with_reducible refine spl (fun hc => ?_) (fun hc => ?_) | with_reducible refine spl' (fun hc => ?_) (fun hc => ?_)) <;> try (exfalso; omega)) | with_reducible refine imp_intro (fun hc => ?_) | refine vcq (k := ?_) | refine dr 9 (k := ?_)))); all_goals (try conv => whnf); all_goals (try with_reducible exact trivial)
            · obtain rfl : k = js.length := by omega
              rw [List.take_length] at p3 p4 p5
              have hzero := hok set left hset p2 p3
              have hfit : (left ≠ 0 ∨ free < need) ↔ ¬ b.fitSet (St.run b l).keys need set = true := by
                unfold Bands.fitSet
                rw [Bool.and_eq_true, ← hzero, decide_eq_true_eq, hlen, ← hsS]
                omega
              have hprice : price = b.sumC (St.run b l).keys set b.B.toNat := by rw [p5.1, hsC]
              have hnext : (List.range (set + 1)).foldl (b.stepSet (St.run b l).keys need) (0, 0, false) = b.stepSet (St.run b l).keys need (r1, r2, r3) set := by
                rw [List.range_succ, List.foldl_append, ← q2]
                rfl
              (repeat' ((conv => whnf); (first | ((first | with_reducible refine spl (fun hc => ?_) (fun hc => ?_) | with_reducible refine spl' (fun hc => ?_) (fun hc => ?_)) <;> try (exfalso; omega)) | with_reducible refine imp_intro (fun hc => ?_) | refine vcq (k := ?_) | refine dr 9 (k := ?_)))); all_goals (try conv => whnf); all_goals (try with_reducible exact trivial)
              · dsimp only at hc
                have hno : ¬ (b.fitSet (St.run b l).keys need set = true ∧ (r3 = false ∨ b.sumC (St.run b l).keys set b.B.toNat < r2)) := by
                  rintro ⟨h1, h2⟩
                  rcases hc with hc | hc
                  · exact hfit.1 (by omega) h1
                  · rcases h2 with h2 | h2
                    · rw [h2] at hc; simp at hc
                    · omega
                refine ⟨(set + 1, r1, r2, r3), ⟨⟨by dsimp only; omega, ?_⟩, by dsimp only; omega⟩, some [some 0, some 1, some 2, some 3, some 4], ?_⟩
                · dsimp only
                  rw [hnext, Bands.stepSet, if_neg hno]
                · (repeat' ((conv => whnf); (first | ((first | with_reducible refine spl (fun hc => ?_) (fun hc => ?_) | with_reducible refine spl' (fun hc => ?_) (fun hc => ?_)) <;> try (exfalso; omega)) | with_reducible refine imp_intro (fun hc => ?_) | refine vcq (k := ?_) | refine dr 9 (k := ?_)))); all_goals (try conv => whnf); all_goals (try with_reducible exact trivial)
              · dsimp only at hc
                have hyes : b.fitSet (St.run b l).keys need set = true ∧ (r3 = false ∨ b.sumC (St.run b l).keys set b.B.toNat < r2) := by
                  refine ⟨Classical.byContradiction fun h => hc (.inl (by have := hfit.2 h; omega)), ?_⟩
                  cases hr : r3
                  · exact .inl rfl
                  · right
                    rw [← hprice]
                    have : ¬ (r2 ≤ price) := fun h => hc (.inr ⟨hr, h⟩)
                    omega
                refine ⟨(set + 1, (set : Int), price, true), ⟨⟨by dsimp only; omega, ?_⟩, by dsimp only; omega⟩, some [some 0, some 1, some 2, some 3, some 4], ?_⟩
                · dsimp only
                  rw [hnext, Bands.stepSet, if_pos hyes, hprice]
                · (repeat' ((conv => whnf); (first | ((first | with_reducible refine spl (fun hc => ?_) (fun hc => ?_) | with_reducible refine spl' (fun hc => ?_) (fun hc => ?_)) <;> try (exfalso; omega)) | with_reducible refine imp_intro (fun hc => ?_) | refine vcq (k := ?_) | refine dr 9 (k := ?_)))); all_goals (try conv => whnf); all_goals (try with_reducible exact trivial)
        · obtain rfl : set = M := by dsimp only at hc; omega
          have hbest : b.best (St.run b l).keys need = (r1, r2, r3) := by unfold Bands.best; rw [hM, ← q2]
          rw [hbest]
          refine ⟨_, rfl, ?_⟩
          (repeat' ((conv => whnf); (first | ((first | with_reducible refine spl (fun hc => ?_) (fun hc => ?_) | with_reducible refine spl' (fun hc => ?_) (fun hc => ?_)) <;> try (exfalso; omega)) | with_reducible refine imp_intro (fun hc => ?_) | refine vcq (k := ?_) | refine dr 9 (k := ?_)))); all_goals (try conv => whnf); all_goals (try with_reducible exact trivial)
end Go.Proofs


namespace Go.Proofs
open Go Go.Sx
set_option maxRecDepth 100000
set_option maxHeartbeats 4000000
-- SxAid2

theorem within35 (n x y : Int) : PureC Try.prog 35 false [.int .i64 n, .int .i64 x, .int .i64 y] (· = .prop (x ≤ n ∧ n ≤ y) inferInstance) := by
  refine pureC_of_exec Try.E_ok Try.func35 rfl (by kernel_rfl) ?_
  (repeat' ((conv => whnf); (first | ((first | with_reducible refine spl (fun hc => ?_) (fun hc => ?_) | with_reducible refine spl' (fun hc => ?_) (fun hc => ?_)) <;> try (exfalso; omega)) | with_reducible refine imp_intro (fun hc => ?_) | refine vcq (k := ?_) | refine dr 1 (k := ?_) | refine dr 2 (k := ?_) | refine dr 3 (k := ?_) | refine dr 4 (k := ?_) | refine dr 5 (k := ?_) | refine dr 6 (k := ?_) | refine dr 7 (k := ?_) | refine dr 8 (k := ?_) | refine dr 9 (k := ?_) | refine dr 10 (k := ?_) | refine dr 11 (k := ?_) | refine dr 12 (k := ?_) | refine dr 1001 (k := ?_) | refine dr 1002 (k := ?_) | refine dr 1003 (k := ?_) | refine dr 1004 (k := ?_) | refine dr 1005 (k := ?_) | refine dr 1006 (k := ?_) | refine dr 1007 (k := ?_) | refine dr 1008 (k := ?_) | refine dr 1009 (k := ?_) | refine dr 1010 (k := ?_) | refine dr 1011 (k := ?_) | refine dr 1012 (k := ?_) | refine dr 1013 (k := ?_) | refine dr 1014 (k := ?_) | refine dr 1015 (k := ?_) | refine dr 1016 (k := ?_)))); all_goals (try conv => whnf); all_goals (try with_reducible exact trivial)
  refine ⟨_, rfl, ?_⟩
  (repeat' ((conv => whnf); (first | ((first | with_reducible refine spl (fun hc => ?_) (fun hc => ?_) | with_reducible refine spl' (fun hc => ?_) (fun hc => ?_)) <;> try (exfalso; omega)) | with_reducible refine imp_intro (fun hc => ?_) | refine vcq (k := ?_) | refine dr 1 (k := ?_) | refine dr 2 (k := ?_) | refine dr 3 (k := ?_) | refine dr 4 (k := ?_) | refine dr 5 (k := ?_) | refine dr 6 (k := ?_) | refine dr 7 (k := ?_) | refine dr 8 (k := ?_) | refine dr 9 (k := ?_) | refine dr 10 (k := ?_) | refine dr 11 (k := ?_) | refine dr 12 (k := ?_) | refine dr 1001 (k := ?_) | refine dr 1002 (k := ?_) | refine dr 1003 (k := ?_) | refine dr 1004 (k := ?_) | refine dr 1005 (k := ?_) | refine dr 1006 (k := ?_) | refine dr 1007 (k := ?_) | refine dr 1008 (k := ?_) | refine dr 1009 (k := ?_) | refine dr 1010 (k := ?_) | refine dr 1011 (k := ?_) | refine dr 1012 (k := ?_) | refine dr 1013 (k := ?_) | refine dr 1014 (k := ?_) | refine dr 1015 (k := ?_) | refine dr 1016 (k := ?_)))); all_goals (try conv => whnf); all_goals (try with_reducible exact trivial)

theorem many18 (b : Bands) (hb : b.Ok) : PureC Try.prog 18 false [b.v] (· = .int .i64 b.N) := by
  have hNb := N_bounds hb
  have h1 : b.B * b.T * b.K = b.N := rfl
  refine pureC_of_exec Try.E_ok Try.func18 rfl (by kernel_rfl) ?_
  (repeat' ((conv => whnf); (first | ((first | with_reducible refine spl (fun hc => ?_) (fun hc => ?_) | with_reducible refine spl' (fun hc => ?_) (fun hc => ?_)) <;> try (exfalso; omega)) | with_reducible refine imp_intro (fun hc => ?_) | refine vcq (k := ?_) | refine dr 1 (k := ?_) | refine dr 2 (k := ?_) | refine dr 3 (k := ?_) | refine dr 4 (k := ?_) | refine dr 5 (k := ?_) | refine dr 6 (k := ?_) | refine dr 7 (k := ?_) | refine dr 8 (k := ?_) | refine dr 9 (k := ?_) | refine dr 10 (k := ?_) | refine dr 11 (k := ?_) | refine dr 12 (k := ?_) | refine dr 1001 (k := ?_) | refine dr 1002 (k := ?_) | refine dr 1003 (k := ?_) | refine dr 1004 (k := ?_) | refine dr 1005 (k := ?_) | refine dr 1006 (k := ?_) | refine dr 1007 (k := ?_) | refine dr 1008 (k := ?_) | refine dr 1009 (k := ?_) | refine dr 1010 (k := ?_) | refine dr 1011 (k := ?_) | refine dr 1012 (k := ?_) | refine dr 1013 (k := ?_) | refine dr 1014 (k := ?_) | refine dr 1015 (k := ?_) | refine dr 1016 (k := ?_)))); all_goals (try conv => whnf); all_goals (try with_reducible exact trivial)
  refine ⟨_, rfl, ?_⟩
  (repeat' ((conv => whnf); (first | ((first | with_reducible refine spl (fun hc => ?_) (fun hc => ?_) | with_reducible refine spl' (fun hc => ?_) (fun hc => ?_)) <;> try (exfalso; omega)) | with_reducible refine imp_intro (fun hc => ?_) | refine vcq (k := ?_) | refine dr 1 (k := ?_) | refine dr 2 (k := ?_) | refine dr 3 (k := ?_) | refine dr 4 (k := ?_) | refine dr 5 (k := ?_) | refine dr 6 (k := ?_) | refine dr 7 (k := ?_) | refine dr 8 (k := ?_) | refine dr 9 (k := ?_) | refine dr 10 (k := ?_) | refine dr 11 (k := ?_) | refine dr 12 (k := ?_) | refine dr 1001 (k := ?_) | refine dr 1002 (k := ?_) | refine dr 1003 (k := ?_) | refine dr 1004 (k := ?_) | refine dr 1005 (k := ?_) | refine dr 1006 (k := ?_) | refine dr 1007 (k := ?_) | refine dr 1008 (k := ?_) | refine dr 1009 (k := ?_) | refine dr 1010 (k := ?_) | refine dr 1011 (k := ?_) | refine dr 1012 (k := ?_) | refine dr 1013 (k := ?_) | refine dr 1014 (k := ?_) | refine dr 1015 (k := ?_) | refine dr 1016 (k := ?_)))); all_goals (try conv => whnf); all_goals (try with_reducible exact trivial)

theorem isBlock12 (b : Bands) (hb : b.Ok) (n : Int) : PureC Try.prog 12 false [b.v, .int .i64 n] (· = .prop (0 ≤ n ∧ n < b.N) inferInstance) := by
  have hNb := N_bounds hb
  refine pureC_of_exec Try.E_ok Try.func12 rfl (by kernel_rfl) ?_
  (repeat' ((conv => whnf); (first | ((first | with_reducible refine spl (fun hc => ?_) (fun hc => ?_) | with_reducible refine spl' (fun hc => ?_) (fun hc => ?_)) <;> try (exfalso; omega)) | with_reducible refine imp_intro (fun hc => ?_) | refine vcq (k := ?_) | refine dr 1 (k := ?_) | refine dr 2 (k := ?_) | refine dr 3 (k := ?_) | refine dr 4 (k := ?_) | refine dr 5 (k := ?_) | refine dr 6 (k := ?_) | refine dr 7 (k := ?_) | refine dr 8 (k := ?_) | refine dr 9 (k := ?_) | refine dr 10 (k := ?_) | refine dr 11 (k := ?_) | refine dr 12 (k := ?_) | refine dr 1001 (k := ?_) | refine dr 1002 (k := ?_) | refine dr 1003 (k := ?_) | refine dr 1004 (k := ?_) | refine dr 1005 (k := ?_) | refine dr 1006 (k := ?_) | refine dr 1007 (k := ?_) | refine dr 1008 (k := ?_) | refine dr 1009 (k := ?_) | refine dr 1010 (k := ?_) | refine dr 1011 (k := ?_) | refine dr 1012 (k := ?_) | refine dr 1013 (k := ?_) | refine dr 1014 (k := ?_) | refine dr 1015 (k := ?_) | refine dr 1016 (k := ?_)))); all_goals (try conv => whnf); all_goals (try with_reducible exact trivial); (repeat' ((first | (refine callee_fo (many18 b hb) rfl ?_; rintro _ rfl) | (refine pcall_intro (many18 b hb) rfl ?_) | (refine pcall_soft (fun _ => many18 b hb) rfl ?_) | (refine callee_fo (within35 n 0 (b.N - 1)) rfl ?_; rintro _ rfl) | (refine pcall_intro (within35 n 0 (b.N - 1)) rfl ?_) | (refine pcall_soft (fun _ => within35 n 0 (b.N - 1)) rfl ?_)); (repeat' ((conv => whnf); (first | ((first | with_reducible refine spl (fun hc => ?_) (fun hc => ?_) | with_reducible refine spl' (fun hc => ?_) (fun hc => ?_)) <;> try (exfalso; omega)) | with_reducible refine imp_intro (fun hc => ?_) | refine vcq (k := ?_) | refine dr 1 (k := ?_) | refine dr 2 (k := ?_) | refine dr 3 (k := ?_) | refine dr 4 (k := ?_) | refine dr 5 (k := ?_) | refine dr 6 (k := ?_) | refine dr 7 (k := ?_) | refine dr 8 (k := ?_) | refine dr 9 (k := ?_) | refine dr 10 (k := ?_) | refine dr 11 (k := ?_) | refine dr 12 (k := ?_) | refine dr 1001 (k := ?_) | refine dr 1002 (k := ?_) | refine dr 1003 (k := ?_) | refine dr 1004 (k := ?_) | refine dr 1005 (k := ?_) | refine dr 1006 (k := ?_) | refine dr 1007 (k := ?_) | refine dr 1008 (k := ?_) | refine dr 1009 (k := ?_) | refine dr 1010 (k := ?_) | refine dr 1011 (k := ?_) | refine dr 1012 (k := ?_) | refine dr 1013 (k := ?_) | refine dr 1014 (k := ?_) | refine dr 1015 (k := ?_) | refine dr 1016 (k := ?_)))); all_goals (try conv => whnf); all_goals (try with_reducible exact trivial))); (all_goals (try (refine ⟨_, rfl, ?_⟩; (repeat' ((conv => whnf); (first | ((first | with_reducible refine spl (fun hc => ?_) (fun hc => ?_) | with_reducible refine spl' (fun hc => ?_) (fun hc => ?_)) <;> try (exfalso; omega)) | with_reducible refine imp_intro (fun hc => ?_) | refine vcq (k := ?_) | refine dr 1 (k := ?_) | refine dr 2 (k := ?_) | refine dr 3 (k := ?_) | refine dr 4 (k := ?_) | refine dr 5 (k := ?_) | refine dr 6 (k := ?_) | refine dr 7 (k := ?_) | refine dr 8 (k := ?_) | refine dr 9 (k := ?_) | refine dr 10 (k := ?_) | refine dr 11 (k := ?_) | refine dr 12 (k := ?_) | refine dr 1001 (k := ?_) | refine dr 1002 (k := ?_) | refine dr 1003 (k := ?_) | refine dr 1004 (k := ?_) | refine dr 1005 (k := ?_) | refine dr 1006 (k := ?_) | refine dr 1007 (k := ?_) | refine dr 1008 (k := ?_) | refine dr 1009 (k := ?_) | refine dr 1010 (k := ?_) | refine dr 1011 (k := ?_) | refine dr 1012 (k := ?_) | refine dr 1013 (k := ?_) | refine dr 1014 (k := ?_) | refine dr 1015 (k := ?_) | refine dr 1016 (k := ?_)))); all_goals (try conv => whnf); all_goals (try with_reducible exact trivial))))

theorem isBands46 (b : Bands) : PureC Try.prog 46 false [b.v] (· = .prop b.Ok (Classical.propDecidable _)) := by
  refine pureC_of_exec Try.E_ok Try.func46 rfl (by kernel_rfl) ?_
  (repeat' ((conv => whnf); (first | ((first | with_reducible refine spl (fun hc => ?_) (fun hc => ?_) | with_reducible refine spl' (fun hc => ?_) (fun hc => ?_)) <;> try (exfalso; omega)) | with_reducible refine imp_intro (fun hc => ?_) | refine vcq (k := ?_) | refine dr 1 (k := ?_) | refine dr 2 (k := ?_) | refine dr 3 (k := ?_) | refine dr 4 (k := ?_) | refine dr 5 (k := ?_) | refine dr 6 (k := ?_) | refine dr 7 (k := ?_) | refine dr 8 (k := ?_) | refine dr 9 (k := ?_) | refine dr 10 (k := ?_) | refine dr 11 (k := ?_) | refine dr 12 (k := ?_) | refine dr 1001 (k := ?_) | refine dr 1002 (k := ?_) | refine dr 1003 (k := ?_) | refine dr 1004 (k := ?_) | refine dr 1005 (k := ?_) | refine dr 1006 (k := ?_) | refine dr 1007 (k := ?_) | refine dr 1008 (k := ?_) | refine dr 1009 (k := ?_) | refine dr 1010 (k := ?_) | refine dr 1011 (k := ?_) | refine dr 1012 (k := ?_) | refine dr 1013 (k := ?_) | refine dr 1014 (k := ?_) | refine dr 1015 (k := ?_) | refine dr 1016 (k := ?_)))); all_goals (try conv => whnf); all_goals (try with_reducible exact trivial); (repeat' ((first | (refine callee_fo (within35 b.B 1 6) rfl ?_; rintro _ rfl) | (refine pcall_intro (within35 b.B 1 6) rfl ?_) | (refine pcall_soft (fun _ => within35 b.B 1 6) rfl ?_) | (refine callee_fo (within35 b.T 1 6) rfl ?_; rintro _ rfl) | (refine pcall_intro (within35 b.T 1 6) rfl ?_) | (refine pcall_soft (fun _ => within35 b.T 1 6) rfl ?_) | (refine callee_fo (within35 b.K 1 4) rfl ?_; rintro _ rfl) | (refine pcall_intro (within35 b.K 1 4) rfl ?_) | (refine pcall_soft (fun _ => within35 b.K 1 4) rfl ?_) | (refine callee_fo (within35 b.C 1 12) rfl ?_; rintro _ rfl) | (refine pcall_intro (within35 b.C 1 12) rfl ?_) | (refine pcall_soft (fun _ => within35 b.C 1 12) rfl ?_) | (refine callee_fo (within35 b.L 1 20) rfl ?_; rintro _ rfl) | (refine pcall_intro (within35 b.L 1 20) rfl ?_) | (refine pcall_soft (fun _ => within35 b.L 1 20) rfl ?_)); (repeat' ((conv => whnf); (first | ((first | with_reducible refine spl (fun hc => ?_) (fun hc => ?_) | with_reducible refine spl' (fun hc => ?_) (fun hc => ?_)) <;> try (exfalso; omega)) | with_reducible refine imp_intro (fun hc => ?_) | refine vcq (k := ?_) | refine dr 1 (k := ?_) | refine dr 2 (k := ?_) | refine dr 3 (k := ?_) | refine dr 4 (k := ?_) | refine dr 5 (k := ?_) | refine dr 6 (k := ?_) | refine dr 7 (k := ?_) | refine dr 8 (k := ?_) | refine dr 9 (k := ?_) | refine dr 10 (k := ?_) | refine dr 11 (k := ?_) | refine dr 12 (k := ?_) | refine dr 1001 (k := ?_) | refine dr 1002 (k := ?_) | refine dr 1003 (k := ?_) | refine dr 1004 (k := ?_) | refine dr 1005 (k := ?_) | refine dr 1006 (k := ?_) | refine dr 1007 (k := ?_) | refine dr 1008 (k := ?_) | refine dr 1009 (k := ?_) | refine dr 1010 (k := ?_) | refine dr 1011 (k := ?_) | refine dr 1012 (k := ?_) | refine dr 1013 (k := ?_) | refine dr 1014 (k := ?_) | refine dr 1015 (k := ?_) | refine dr 1016 (k := ?_)))); all_goals (try conv => whnf); all_goals (try with_reducible exact trivial))); (all_goals (try (refine ⟨_, rfl, ?_⟩; (repeat' ((conv => whnf); (first | ((first | with_reducible refine spl (fun hc => ?_) (fun hc => ?_) | with_reducible refine spl' (fun hc => ?_) (fun hc => ?_)) <;> try (exfalso; omega)) | with_reducible refine imp_intro (fun hc => ?_) | refine vcq (k := ?_) | refine dr 1 (k := ?_) | refine dr 2 (k := ?_) | refine dr 3 (k := ?_) | refine dr 4 (k := ?_) | refine dr 5 (k := ?_) | refine dr 6 (k := ?_) | refine dr 7 (k := ?_) | refine dr 8 (k := ?_) | refine dr 9 (k := ?_) | refine dr 10 (k := ?_) | refine dr 11 (k := ?_) | refine dr 12 (k := ?_) | refine dr 1001 (k := ?_) | refine dr 1002 (k := ?_) | refine dr 1003 (k := ?_) | refine dr 1004 (k := ?_) | refine dr 1005 (k := ?_) | refine dr 1006 (k := ?_) | refine dr 1007 (k := ?_) | refine dr 1008 (k := ?_) | refine dr 1009 (k := ?_) | refine dr 1010 (k := ?_) | refine dr 1011 (k := ?_) | refine dr 1012 (k := ?_) | refine dr 1013 (k := ?_) | refine dr 1014 (k := ?_) | refine dr 1015 (k := ?_) | refine dr 1016 (k := ?_)))); all_goals (try conv => whnf); all_goals (try with_reducible exact trivial))))
  · exact ⟨⟨fun h => ⟨by assumption, by assumption, by assumption, by assumption, h⟩, fun h => h.L⟩, trivial⟩
  · exact ⟨fun h => hc h.C, trivial⟩
  · exact ⟨fun h => hc h.K, trivial⟩
  · exact ⟨fun h => hc h.T, trivial⟩
  · exact ⟨fun h => hc h.B, trivial⟩

theorem areWrites47 (b : Bands) (hb : b.Ok) (l : List (Int × Int)) (hl : l.length ≤ 8000) : PureC Try.prog 47 false [b.v, .sl 2 l.length (rowOf wC (0, 0) l)] (· = .prop (AreW b l) (Classical.propDecidable _)) := by
  refine pureC_of_exec Try.E_ok Try.func47 rfl (by kernel_rfl) ?_
  (repeat' ((conv => whnf); (first | ((first | with_reducible refine spl (fun hc => ?_) (fun hc => ?_) | with_reducible refine spl' (fun hc => ?_) (fun hc => ?_)) <;> try (exfalso; omega)) | with_reducible refine imp_intro (fun hc => ?_) | refine vcq (k := ?_) | refine dr 17 (k := ?_)))); all_goals (try conv => whnf); all_goals (try with_reducible exact trivial)
  refine ⟨Nat, fun i => i ≤ l.length ∧ AreW b (l.take i), fun i => l.length - i, fun i => [(5, .int .i64 i)], fun _ => [], fun _ => [], 0, ⟨⟨by omega, fun w hw => by simp at hw⟩, some [some 0], ?_⟩, ?_⟩
  · (repeat' ((conv => whnf); (first | ((first | with_reducible refine spl (fun hc => ?_) (fun hc => ?_) | with_reducible refine spl' (fun hc => ?_) (fun hc => ?_)) <;> try (exfalso; omega)) | with_reducible refine imp_intro (fun hc => ?_) | refine vcq (k := ?_) | refine dr 17 (k := ?_)))); all_goals (try conv => whnf); all_goals (try with_reducible exact trivial)
  · rintro i ⟨h1, h2⟩
    have hti : (i : Int).toNat = i := Int.toNat_natCast i
    (repeat' ((conv => whnf); (first | ((first | with_reducible refine spl (fun hc => ?_) (fun hc => ?_) | with_reducible refine spl' (fun hc => ?_) (fun hc => ?_)) <;> try (exfalso; omega)) | with_reducible refine imp_intro (fun hc => ?_) | refine vcq (k := ?_) | refine dr 17 (k := ?_)))); all_goals (try conv => whnf); all_goals (try with_reducible exact trivial); (repeat' ((first | (refine callee_fo (isBlock12 b hb (l.getD (i : Int).toNat (0, 0)).1) rfl ?_; rintro _ rfl) | (refine pcall_intro (isBlock12 b hb (l.getD (i : Int).toNat (0, 0)).1) rfl ?_) | (refine pcall_soft (fun _ => isBlock12 b hb (l.getD (i : Int).toNat (0, 0)).1) rfl ?_) | (refine callee_fo (within35 (l.getD (i : Int).toNat (0, 0)).2 0 999) rfl ?_; rintro _ rfl) | (refine pcall_intro (within35 (l.getD (i : Int).toNat (0, 0)).2 0 999) rfl ?_) | (refine pcall_soft (fun _ => within35 (l.getD (i : Int).toNat (0, 0)).2 0 999) rfl ?_)); (repeat' ((conv => whnf); (first | ((first | with_reducible refine spl (fun hc => ?_) (fun hc => ?_) | with_reducible refine spl' (fun hc => ?_) (fun hc => ?_)) <;> try (exfalso; omega)) | with_reducible refine imp_intro (fun hc => ?_) | refine vcq (k := ?_) | refine dr 17 (k := ?_)))); all_goals (try conv => whnf); all_goals (try with_reducible exact trivial))); (all_goals (try (refine ⟨_, rfl, ?_⟩; (repeat' ((conv => whnf); (first | ((first | with_reducible refine spl (fun hc => ?_) (fun hc => ?_) | with_reducible refine spl' (fun hc => ?_) (fun hc => ?_)) <;> try (exfalso; omega)) | with_reducible refine imp_intro (fun hc => ?_) | refine vcq (k := ?_) | refine dr 17 (k := ?_)))); all_goals (try conv => whnf); all_goals (try with_reducible exact trivial))))
    · rw [hti] at hc
      rename_i hlt
      have hi : i < l.length := by omega
      refine ⟨fun h => ?_, trivial⟩
      have := h _ (getD_mem (d := (0, 0)) hi)
      omega
    · rw [hti] at hc
      rename_i hlt
      have hi : i < l.length := by omega
      refine ⟨i + 1, ⟨⟨by omega, fun w hw => ?_⟩, by dsimp only; omega⟩, some [some 0], ?_⟩
      · rw [take_succ_getD (0, 0) hi] at hw
        rcases List.mem_append.1 hw with hw | hw
        · exact h2 w hw
        · rw [List.mem_singleton.1 hw]
          omega
      · (repeat' ((conv => whnf); (first | ((first | with_reducible refine spl (fun hc => ?_) (fun hc => ?_) | with_reducible refine spl' (fun hc => ?_) (fun hc => ?_)) <;> try (exfalso; omega)) | with_reducible refine imp_intro (fun hc => ?_) | refine vcq (k := ?_) | refine dr 17 (k := ?_)))); all_goals (try conv => whnf); all_goals (try with_reducible exact trivial)
    · obtain rfl : i = l.length := by omega
      rw [List.take_length] at h2
      exact ⟨h2, trivial⟩

theorem check29 (b : Bands) (l : List (Int × Int)) (hl : l.length ≤ 8000) : PureC Try.prog 29 false [b.v, .sl 2 l.length (rowOf wC (0, 0) l)] (· = .int .i64 (chk b l)) := by
  refine pureC_of_exec Try.E_ok Try.func29 rfl (by kernel_rfl) ?_
  (repeat' ((conv => whnf); (first | ((first | with_reducible refine spl (fun hc => ?_) (fun hc => ?_) | with_reducible refine spl' (fun hc => ?_) (fun hc => ?_)) <;> try (exfalso; omega)) | with_reducible refine imp_intro (fun hc => ?_) | refine vcq (k := ?_) | refine dr 17 (k := ?_)))); all_goals (try conv => whnf); all_goals (try with_reducible exact trivial); (repeat' ((first | (refine callee_fo (isBands46 b) rfl ?_; rintro _ rfl) | (refine pcall_intro (isBands46 b) rfl ?_) | (refine pcall_soft (fun _ => isBands46 b) rfl ?_)); (repeat' ((conv => whnf); (first | ((first | with_reducible refine spl (fun hc => ?_) (fun hc => ?_) | with_reducible refine spl' (fun hc => ?_) (fun hc => ?_)) <;> try (exfalso; omega)) | with_reducible refine imp_intro (fun hc => ?_) | refine vcq (k := ?_) | refine dr 17 (k := ?_)))); all_goals (try conv => whnf); all_goals (try with_reducible exact trivial))); (all_goals (try (refine ⟨_, rfl, ?_⟩; (repeat' ((conv => whnf); (first | ((first | with_reducible refine spl (fun hc => ?_) (fun hc => ?_) | with_reducible refine spl' (fun hc => ?_) (fun hc => ?_)) <;> try (exfalso; omega)) | with_reducible refine imp_intro (fun hc => ?_) | refine vcq (k := ?_) | refine dr 17 (k := ?_)))); all_goals (try conv => whnf); all_goals (try with_reducible exact trivial))))
  · refine ⟨?_, trivial⟩
    unfold chk
    rw [if_pos hc]
  · rename_i h1
    have hok := Classical.not_not.1 h1
    refine ⟨?_, trivial⟩
    unfold chk
    rw [if_neg (fun h => h hok), if_pos (by omega)]
  · rename_i h1
    have hok := Classical.not_not.1 h1
    (repeat' ((conv => whnf); (first | ((first | with_reducible refine spl (fun hc => ?_) (fun hc => ?_) | with_reducible refine spl' (fun hc => ?_) (fun hc => ?_)) <;> try (exfalso; omega)) | with_reducible refine imp_intro (fun hc => ?_) | refine vcq (k := ?_) | refine dr 17 (k := ?_)))); all_goals (try conv => whnf); all_goals (try with_reducible exact trivial); (repeat' ((first | (refine callee_fo (areWrites47 b hok l hl) rfl ?_; rintro _ rfl) | (refine pcall_intro (areWrites47 b hok l hl) rfl ?_) | (refine pcall_soft (fun _ => areWrites47 b hok l hl) rfl ?_)); (repeat' ((conv => whnf); (first | ((first | with_reducible refine spl (fun hc => ?_) (fun hc => ?_) | with_reducible refine spl' (fun hc => ?_) (fun hc => ?_)) <;> try (exfalso; omega)) | with_reducible refine imp_intro (fun hc => ?_) | refine vcq (k := ?_) | refine dr 17 (k := ?_)))); all_goals (try conv => whnf); all_goals (try with_reducible exact trivial))); (all_goals (try (refine ⟨_, rfl, ?_⟩; (repeat' ((conv => whnf); (first | ((first | with_reducible refine spl (fun hc => ?_) (fun hc => ?_) | with_reducible refine spl' (fun hc => ?_) (fun hc => ?_)) <;> try (exfalso; omega)) | with_reducible refine imp_intro (fun hc => ?_) | refine vcq (k := ?_) | refine dr 17 (k := ?_)))); all_goals (try conv => whnf); all_goals (try with_reducible exact trivial))))
    · refine ⟨?_, trivial⟩
      unfold chk
      rw [if_neg (fun h => h hok), if_neg (by omega), if_pos hc]
    · refine ⟨?_, trivial⟩
      unfold chk
      rw [if_neg (fun h => h hok), if_neg (by omega), if_neg hc]

theorem ready11 (b : Bands) (l : List (Int × Int)) (hl : l.length ≤ 9223372036854775807) : PureC Try.prog 11 false [b.v, .sl 2 l.length (rowOf wC (0, 0) l)] (· = .prop (chk b l = 0) (Classical.propDecidable _)) := by
  refine pureC_of_exec Try.E_ok Try.func11 rfl (by kernel_rfl) ?_
  (repeat' ((conv => whnf); (first | ((first | with_reducible refine spl (fun hc => ?_) (fun hc => ?_) | with_reducible refine spl' (fun hc => ?_) (fun hc => ?_)) <;> try (exfalso; omega)) | with_reducible refine imp_intro (fun hc => ?_) | refine vcq (k := ?_) | refine dr 17 (k := ?_)))); all_goals (try conv => whnf); all_goals (try with_reducible exact trivial)
  · refine callee_fo (check29 b l (by omega)) rfl ?_
    rintro _ rfl
    (repeat' ((conv => whnf); (first | ((first | with_reducible refine spl (fun hc => ?_) (fun hc => ?_) | with_reducible refine spl' (fun hc => ?_) (fun hc => ?_)) <;> try (exfalso; omega)) | with_reducible refine imp_intro (fun hc => ?_) | refine vcq (k := ?_) | refine dr 17 (k := ?_)))); all_goals (try conv => whnf); all_goals (try with_reducible exact trivial)
    refine ⟨_, rfl, ?_⟩
    (repeat' ((conv => whnf); (first | ((first | with_reducible refine spl (fun hc => ?_) (fun hc => ?_) | with_reducible refine spl' (fun hc => ?_) (fun hc => ?_)) <;> try (exfalso; omega)) | with_reducible refine imp_intro (fun hc => ?_) | refine vcq (k := ?_) | refine dr 17 (k := ?_)))); all_goals (try conv => whnf); all_goals (try with_reducible exact trivial)
  · refine ⟨_, rfl, ?_⟩
    exact ⟨fun h => by have := (chk_ok h).2.1; omega, trivial⟩

/-! the example -/
def exB : Bands := ⟨3, 2, 2, 3, 2⟩
def exL : List (Int × Int) := [(0, 5), (3, 6), (5, 7), (0, 8), (8, 9), (4, 1), (7, 2)]

theorem exB_ok : exB.Ok := ⟨by decide, by decide, by decide, by decide, by decide⟩

theorem ex_chk : chk exB exL = 0 := by
  unfold chk
  rw [if_neg (fun h => h exB_ok), if_neg (by decide), if_neg (fun h => h (by unfold AreW; decide))]

theorem example36 : PureC Try.prog 36 false [] (· = .tup [exB.v, .sl 2 exL.length (rowOf wC (0, 0) exL)]) := by
  refine pureC_of_exec Try.E_ok Try.func36 rfl (by kernel_rfl) ?_
  (repeat' ((conv => whnf); (first | ((first | with_reducible refine spl (fun hc => ?_) (fun hc => ?_) | with_reducible refine spl' (fun hc => ?_) (fun hc => ?_)) <;> try (exfalso; omega)) | with_reducible refine imp_intro (fun hc => ?_) | refine vcq (k := ?_) | refine dr 17 (k := ?_)))); all_goals (try conv => whnf); all_goals (try with_reducible exact trivial)
  refine ⟨_, rfl, ?_⟩
  (repeat' ((conv => whnf); (first | ((first | with_reducible refine spl (fun hc => ?_) (fun hc => ?_) | with_reducible refine spl' (fun hc => ?_) (fun hc => ?_)) <;> try (exfalso; omega)) | with_reducible refine imp_intro (fun hc => ?_) | refine vcq (k := ?_) | refine dr 17 (k := ?_)))); all_goals (try conv => whnf); all_goals (try with_reducible exact trivial)
  refine ⟨fun i hi => ?_, .inr fun i _ => rfl, ?_⟩
  · match i, hi with
    | 0, _ => rfl
    | 1, _ => rfl
    | 2, _ => rfl
    | 3, _ => rfl
    | 4, _ => rfl
    | 5, _ => rfl
    | 6, _ => rfl
  · (repeat' ((conv => whnf); (first | ((first | with_reducible refine spl (fun hc => ?_) (fun hc => ?_) | with_reducible refine spl' (fun hc => ?_) (fun hc => ?_)) <;> try (exfalso; omega)) | with_reducible refine imp_intro (fun hc => ?_) | refine vcq (k := ?_) | refine dr 17 (k := ?_)))); all_goals (try conv => whnf); all_goals (try with_reducible exact trivial)

theorem ex_flush : ((St.run exB exL).flush exB).cost = 9 ∧ ((St.run exB exL).flush exB).cleaned = 4 ∧ ((St.run exB exL).flush exB).refreshed = 1 := by decide +kernel
theorem ex_read : (St.run exB exL).read 8 = 9 := by decide +kernel
theorem ex_best : (exB.best (St.run exB exL).keys 2).1 = 2 ∧ (exB.best (St.run exB exL).keys 2).2.1 = 1 := by decide +kernel

theorem works13 : PureC Try.prog 13 false [] (· = .prop True inferInstance) := by
  refine pureC_of_exec Try.E_ok Try.func13 rfl (by kernel_rfl) ?_
  (repeat' ((conv => whnf); (first | ((first | with_reducible refine spl (fun hc => ?_) (fun hc => ?_) | with_reducible refine spl' (fun hc => ?_) (fun hc => ?_)) <;> try (exfalso; omega)) | with_reducible refine imp_intro (fun hc => ?_) | refine vcq (k := ?_) | refine dr 17 (k := ?_)))); all_goals (try conv => whnf); all_goals (try with_reducible exact trivial)
  refine callee_fo example36 rfl ?_
  rintro _ rfl
  (repeat' ((conv => whnf); (first | ((first | with_reducible refine spl (fun hc => ?_) (fun hc => ?_) | with_reducible refine spl' (fun hc => ?_) (fun hc => ?_)) <;> try (exfalso; omega)) | with_reducible refine imp_intro (fun hc => ?_) | refine vcq (k := ?_) | refine dr 17 (k := ?_)))); all_goals (try conv => whnf); all_goals (try with_reducible exact trivial)
  refine callee_fo (flush17 exB exL (by decide)) rfl ?_
  rintro _ rfl
  (repeat' ((conv => whnf); (first | ((first | with_reducible refine spl (fun hc => ?_) (fun hc => ?_) | with_reducible refine spl' (fun hc => ?_) (fun hc => ?_)) <;> try (exfalso; omega)) | with_reducible refine imp_intro (fun hc => ?_) | refine vcq (k := ?_) | refine dr 17 (k := ?_)))); all_goals (try conv => whnf); all_goals (try with_reducible exact trivial)
  refine callee_fo (read14 exB exL (by decide) 8) rfl ?_
  rintro _ rfl
  (repeat' ((conv => whnf); (first | ((first | with_reducible refine spl (fun hc => ?_) (fun hc => ?_) | with_reducible refine spl' (fun hc => ?_) (fun hc => ?_)) <;> try (exfalso; omega)) | with_reducible refine imp_intro (fun hc => ?_) | refine vcq (k := ?_) | refine dr 17 (k := ?_)))); all_goals (try conv => whnf); all_goals (try with_reducible exact trivial)
  refine callee_fo (clean20 exB exL (by decide) 2) rfl ?_
  rintro _ rfl
  (repeat' ((conv => whnf); (first | ((first | with_reducible refine spl (fun hc => ?_) (fun hc => ?_) | with_reducible refine spl' (fun hc => ?_) (fun hc => ?_)) <;> try (exfalso; omega)) | with_reducible refine imp_intro (fun hc => ?_) | refine vcq (k := ?_) | refine dr 17 (k := ?_)))); all_goals (try conv => whnf); all_goals (try with_reducible exact trivial)
  refine ⟨_, rfl, ?_⟩
  have e1 : resF exB exL = (St.run exB exL).flush exB := by unfold resF; rw [if_pos ex_chk]
  have e2 : rdRes exB exL 8 = ((St.run exB exL).read 8, 0) := by unfold rdRes; rw [if_neg (fun h => h ex_chk), if_neg (by decide)]
  have e3 : clRes exB exL 2 = ((exB.best (St.run exB exL).keys 2).1, (exB.best (St.run exB exL).keys 2).2.1, 0) := by unfold clRes; rw [if_neg (fun h => h ex_chk), if_neg (by decide)]
  refine ⟨⟨fun _ => trivial, fun _ => ?_⟩, trivial⟩
  rw [e1, e2, e3]
  obtain ⟨f1, f2, f3⟩ := ex_flush
  exact ⟨⟨⟨⟨⟨⟨⟨⟨ex_chk, rfl⟩, rfl⟩, f1⟩, f2⟩, f3⟩, ex_read⟩, ex_best.1⟩, ex_best.2⟩

/-- the value that was written last to a block -/
def lastW (l : List (Int × Int)) (n : Int) : Int := l.foldl (fun a w => if w.1 = n then w.2 else a) 0

theorem read_clean {b : Bands} {s : St} {band n : Int} (hn : 0 ≤ n) : (s.clean b band).read n = s.read n := by
  unfold St.read
  have h1 : (s.clean b band).med = (s.clean0 b band).med := (sqz_same _ _ _).1
  rw [clean_keys, clean_cch, h1]
  have hcast : ((n.toNat : Nat) : Int) = n := by omega
  by_cases hk : n ∈ s.keys
  · by_cases hbd : b.bd n = band
    · have hnot : n ∉ s.keys.filter (fun n => !(b.bd n == band)) := by simp [hbd]
      rw [if_neg hnot, if_pos hk]
      simp only [St.clean0, hcast]
      rw [if_pos ⟨hk, hbd⟩]
    · have hin : n ∈ s.keys.filter (fun n => !(b.bd n == band)) := List.mem_filter.2 ⟨hk, by simp [hbd]⟩
      rw [if_pos hin, if_pos hk]
      exact look_filter (p := fun m => !(b.bd m == band)) (by simp [hbd]) s.cch
  · have hnot : n ∉ s.keys.filter (fun n => !(b.bd n == band)) := fun h => hk (List.mem_filter.1 h).1
    rw [if_neg hnot, if_neg hk]
    simp only [St.clean0, hcast]
    rw [if_neg (fun h => hk h.1)]

theorem read_ins {s : St} (h : Asc s.cch) {w : Int × Int} {n : Int} : St.read { s with cch := ins w s.cch } n = if n = w.1 then w.2 else s.read n := by
  unfold St.read St.keys
  dsimp only
  rw [look_ins h]
  by_cases hn : n = w.1
  · rw [if_pos ((mem_ins h n).2 (.inl hn)), if_pos hn, if_pos hn]
  · rw [if_neg hn, if_neg hn]
    by_cases hk : n ∈ s.cch.map Prod.fst
    · rw [if_pos ((mem_ins h n).2 (.inr hk)), if_pos hk]
    · rw [if_neg (fun h2 => ((mem_ins h n).1 h2).elim hn hk), if_neg hk]

theorem read_write {b : Bands} (hb : b.Ok) {s : St} (hs : s.Ok b) {w : Int × Int} {n : Int} (hn : 0 ≤ n) : (s.write b w).read n = if n = w.1 then w.2 else s.read n := by
  unfold St.write
  split
  · exact read_ins hs.asc
  · split
    · rw [show St.read { s.clean b (b.choose s.keys) with cch := ins w (s.clean b (b.choose s.keys)).cch } n = _ from read_ins (clean_ok hb hs _).asc, read_clean hn]
    · exact read_ins hs.asc

theorem read_foldl {b : Bands} (hb : b.Ok) {n : Int} (hn : 0 ≤ n) : ∀ (l : List (Int × Int)) (s : St), s.Ok b → InB b l → (l.foldl (St.write b) s).read n = l.foldl (fun a w => if w.1 = n then w.2 else a) (s.read n)
  | [], _, _, _ => rfl
  | w :: l, s, hs, h => by
    simp only [List.foldl_cons]
    rw [read_foldl hb hn l _ (write_ok hb hs (h w List.mem_cons_self)) (fun x hx => h x (List.mem_cons_of_mem _ hx)), read_write hb hs hn]
    congr 1
    by_cases hw : n = w.1
    · rw [if_pos hw, if_pos hw.symm]
    · rw [if_neg hw, if_neg (fun h => hw h.symm)]

/-- the stage's theorem -/
theorem read_last {b : Bands} (hb : b.Ok) {l : List (Int × Int)} (h : InB b l) {n : Int} (hn : 0 ≤ n) : (St.run b l).read n = lastW l n := by
  unfold St.run lastW
  rw [read_foldl hb hn l _ (begin_ok hb) h]
  rfl

end Go.Proofs


namespace Go.Proofs
open Go Go.Sx
set_option maxRecDepth 100000
set_option maxHeartbeats 4000000
-- SxAid2

/-- the place of a block -/
def findW : List (Int × Int) → Int → Int
  | [], _ => -1
  | x :: l, n => if x.1 = n then 0 else if findW l n < 0 then -1 else findW l n + 1

theorem findW_at {n : Int} : ∀ {l : List (Int × Int)} {i : Nat}, i < l.length → (∀ k, k < i → (l.getD k (0, 0)).1 ≠ n) → (l.getD i (0, 0)).1 = n → findW l n = i
  | [], i, h, _, _ => by simp at h
  | x :: l, 0, _, _, h => by
    unfold findW
    rw [if_pos (by simpa using h)]
    rfl
  | x :: l, i + 1, h, h1, h2 => by
    have h0 := h1 0 (by omega)
    have ih := findW_at (n := n) (l := l) (i := i) (by simpa using h) (fun k hk => by have := h1 (k + 1) (by omega); simpa using this) (by simpa using h2)
    unfold findW
    rw [if_neg (by simpa using h0), ih, if_neg (by omega)]
    omega

theorem findW_none {n : Int} : ∀ {l : List (Int × Int)}, (∀ k, k < l.length → (l.getD k (0, 0)).1 ≠ n) → findW l n = -1
  | [], _ => rfl
  | x :: l, h => by
    have h0 := h 0 (by simp)
    have ih := findW_none (n := n) (l := l) (fun k hk => by have := h (k + 1) (by simpa using hk); simpa using this)
    unfold findW
    rw [if_neg (by simpa using h0), ih]
    rfl

theorem findW_spec {n : Int} : ∀ (l : List (Int × Int)), (findW l n = -1 ∧ n ∉ l.map Prod.fst) ∨ (0 ≤ findW l n ∧ findW l n < l.length ∧ (l.getD (findW l n).toNat (0, 0)).1 = n ∧ n ∈ l.map Prod.fst)
  | [] => .inl ⟨rfl, by simp⟩
  | x :: l => by
    unfold findW
    by_cases hx : x.1 = n
    · rw [if_pos hx]
      exact .inr ⟨by omega, by simp only [List.length_cons]; omega, by simpa using hx, by simp [hx]⟩
    · rw [if_neg hx]
      rcases findW_spec (n := n) l with ⟨h1, h2⟩ | ⟨h1, h2, h3, h4⟩
      · rw [h1]
        refine .inl ⟨rfl, ?_⟩
        simp only [List.map_cons, List.mem_cons, not_or]
        exact ⟨fun h => hx h.symm, h2⟩
      · rw [if_neg (by omega)]
        refine .inr ⟨by omega, by simp only [List.length_cons]; omega, ?_, by simp [h4]⟩
        rw [show (findW l n + 1).toNat = (findW l n).toNat + 1 by omega, List.getD_cons_succ]
        exact h3

theorem find19 (l : List (Int × Int)) (hl : l.length ≤ 8000) (n : Int) : PureC Try.prog 19 false [.sl 2 l.length (rowOf wC (0, 0) l), .int .i64 n] (· = .int .i64 (findW l n)) := by
  refine pureC_of_exec Try.E_ok Try.func19 rfl (by kernel_rfl) ?_
  (repeat' ((conv => whnf); (first | ((first | with_reducible refine spl (fun hc => ?_) (fun hc => ?_) | with_reducible refine spl' (fun hc => ?_) (fun hc => ?_)) <;> try (exfalso; omega)) | with_reducible refine imp_intro (fun hc => ?_) | refine vcq (k := ?_) | refine dr 1 (k := ?_) | refine dr 2 (k := ?_) | refine dr 3 (k := ?_) | refine dr 4 (k := ?_) | refine dr 5 (k := ?_) | refine dr 6 (k := ?_) | refine dr 7 (k := ?_) | refine dr 8 (k := ?_) | refine dr 9 (k := ?_) | refine dr 10 (k := ?_) | refine dr 11 (k := ?_) | refine dr 12 (k := ?_) | refine dr 1001 (k := ?_) | refine dr 1002 (k := ?_) | refine dr 1003 (k := ?_) | refine dr 1004 (k := ?_) | refine dr 1005 (k := ?_) | refine dr 1006 (k := ?_) | refine dr 1007 (k := ?_) | refine dr 1008 (k := ?_) | refine dr 1009 (k := ?_) | refine dr 1010 (k := ?_) | refine dr 1011 (k := ?_) | refine dr 1012 (k := ?_) | refine dr 1013 (k := ?_) | refine dr 1014 (k := ?_) | refine dr 1015 (k := ?_) | refine dr 1016 (k := ?_)))); all_goals (try conv => whnf); all_goals (try with_reducible exact trivial)
  refine ⟨Nat, fun i => i ≤ l.length ∧ ∀ k, k < i → (l.getD k (0, 0)).1 ≠ n, fun i => l.length - i, fun i => [(5, .int .i64 i)], fun _ => [], fun _ => [], 0, ⟨⟨by omega, fun k hk => by omega⟩, none, ?_⟩, ?_⟩
  · (repeat' ((conv => whnf); (first | ((first | with_reducible refine spl (fun hc => ?_) (fun hc => ?_) | with_reducible refine spl' (fun hc => ?_) (fun hc => ?_)) <;> try (exfalso; omega)) | with_reducible refine imp_intro (fun hc => ?_) | refine vcq (k := ?_) | refine dr 1 (k := ?_) | refine dr 2 (k := ?_) | refine dr 3 (k := ?_) | refine dr 4 (k := ?_) | refine dr 5 (k := ?_) | refine dr 6 (k := ?_) | refine dr 7 (k := ?_) | refine dr 8 (k := ?_) | refine dr 9 (k := ?_) | refine dr 10 (k := ?_) | refine dr 11 (k := ?_) | refine dr 12 (k := ?_) | refine dr 1001 (k := ?_) | refine dr 1002 (k := ?_) | refine dr 1003 (k := ?_) | refine dr 1004 (k := ?_) | refine dr 1005 (k := ?_) | refine dr 1006 (k := ?_) | refine dr 1007 (k := ?_) | refine dr 1008 (k := ?_) | refine dr 1009 (k := ?_) | refine dr 1010 (k := ?_) | refine dr 1011 (k := ?_) | refine dr 1012 (k := ?_) | refine dr 1013 (k := ?_) | refine dr 1014 (k := ?_) | refine dr 1015 (k := ?_) | refine dr 1016 (k := ?_)))); all_goals (try conv => whnf); all_goals (try with_reducible exact trivial)
  · rintro i ⟨h1, h2⟩
    have hti : (i : Int).toNat = i := Int.toNat_natCast i
    (repeat' ((conv => whnf); (first | ((first | with_reducible refine spl (fun hc => ?_) (fun hc => ?_) | with_reducible refine spl' (fun hc => ?_) (fun hc => ?_)) <;> try (exfalso; omega)) | with_reducible refine imp_intro (fun hc => ?_) | refine vcq (k := ?_) | refine dr 1 (k := ?_) | refine dr 2 (k := ?_) | refine dr 3 (k := ?_) | refine dr 4 (k := ?_) | refine dr 5 (k := ?_) | refine dr 6 (k := ?_) | refine dr 7 (k := ?_) | refine dr 8 (k := ?_) | refine dr 9 (k := ?_) | refine dr 10 (k := ?_) | refine dr 11 (k := ?_) | refine dr 12 (k := ?_) | refine dr 1001 (k := ?_) | refine dr 1002 (k := ?_) | refine dr 1003 (k := ?_) | refine dr 1004 (k := ?_) | refine dr 1005 (k := ?_) | refine dr 1006 (k := ?_) | refine dr 1007 (k := ?_) | refine dr 1008 (k := ?_) | refine dr 1009 (k := ?_) | refine dr 1010 (k := ?_) | refine dr 1011 (k := ?_) | refine dr 1012 (k := ?_) | refine dr 1013 (k := ?_) | refine dr 1014 (k := ?_) | refine dr 1015 (k := ?_) | refine dr 1016 (k := ?_)))); all_goals (try conv => whnf); all_goals (try with_reducible exact trivial)
    · rw [hti] at hc
      rename_i hlt
      refine ⟨_, rfl, ?_⟩
      rw [findW_at (i := i) (by omega) h2 hc]
      (repeat' ((conv => whnf); (first | ((first | with_reducible refine spl (fun hc => ?_) (fun hc => ?_) | with_reducible refine spl' (fun hc => ?_) (fun hc => ?_)) <;> try (exfalso; omega)) | with_reducible refine imp_intro (fun hc => ?_) | refine vcq (k := ?_) | refine dr 1 (k := ?_) | refine dr 2 (k := ?_) | refine dr 3 (k := ?_) | refine dr 4 (k := ?_) | refine dr 5 (k := ?_) | refine dr 6 (k := ?_) | refine dr 7 (k := ?_) | refine dr 8 (k := ?_) | refine dr 9 (k := ?_) | refine dr 10 (k := ?_) | refine dr 11 (k := ?_) | refine dr 12 (k := ?_) | refine dr 1001 (k := ?_) | refine dr 1002 (k := ?_) | refine dr 1003 (k := ?_) | refine dr 1004 (k := ?_) | refine dr 1005 (k := ?_) | refine dr 1006 (k := ?_) | refine dr 1007 (k := ?_) | refine dr 1008 (k := ?_) | refine dr 1009 (k := ?_) | refine dr 1010 (k := ?_) | refine dr 1011 (k := ?_) | refine dr 1012 (k := ?_) | refine dr 1013 (k := ?_) | refine dr 1014 (k := ?_) | refine dr 1015 (k := ?_) | refine dr 1016 (k := ?_)))); all_goals (try conv => whnf); all_goals (try with_reducible exact trivial)
    · rw [hti] at hc
      rename_i hlt
      refine ⟨i + 1, ⟨⟨by omega, fun k hk => ?_⟩, by dsimp only; omega⟩, none, ?_⟩
      · rcases Nat.lt_or_eq_of_le (show k ≤ i by omega) with h | rfl
        · exact h2 k h
        · exact hc
      · (repeat' ((conv => whnf); (first | ((first | with_reducible refine spl (fun hc => ?_) (fun hc => ?_) | with_reducible refine spl' (fun hc => ?_) (fun hc => ?_)) <;> try (exfalso; omega)) | with_reducible refine imp_intro (fun hc => ?_) | refine vcq (k := ?_) | refine dr 1 (k := ?_) | refine dr 2 (k := ?_) | refine dr 3 (k := ?_) | refine dr 4 (k := ?_) | refine dr 5 (k := ?_) | refine dr 6 (k := ?_) | refine dr 7 (k := ?_) | refine dr 8 (k := ?_) | refine dr 9 (k := ?_) | refine dr 10 (k := ?_) | refine dr 11 (k := ?_) | refine dr 12 (k := ?_) | refine dr 1001 (k := ?_) | refine dr 1002 (k := ?_) | refine dr 1003 (k := ?_) | refine dr 1004 (k := ?_) | refine dr 1005 (k := ?_) | refine dr 1006 (k := ?_) | refine dr 1007 (k := ?_) | refine dr 1008 (k := ?_) | refine dr 1009 (k := ?_) | refine dr 1010 (k := ?_) | refine dr 1011 (k := ?_) | refine dr 1012 (k := ?_) | refine dr 1013 (k := ?_) | refine dr 1014 (k := ?_) | refine dr 1015 (k := ?_) | refine dr 1016 (k := ?_)))); all_goals (try conv => whnf); all_goals (try with_reducible exact trivial)
    · obtain rfl : i = l.length := by omega
      refine ⟨_, rfl, ?_⟩
      rw [findW_none h2]
      (repeat' ((conv => whnf); (first | ((first | with_reducible refine spl (fun hc => ?_) (fun hc => ?_) | with_reducible refine spl' (fun hc => ?_) (fun hc => ?_)) <;> try (exfalso; omega)) | with_reducible refine imp_intro (fun hc => ?_) | refine vcq (k := ?_) | refine dr 1 (k := ?_) | refine dr 2 (k := ?_) | refine dr 3 (k := ?_) | refine dr 4 (k := ?_) | refine dr 5 (k := ?_) | refine dr 6 (k := ?_) | refine dr 7 (k := ?_) | refine dr 8 (k := ?_) | refine dr 9 (k := ?_) | refine dr 10 (k := ?_) | refine dr 11 (k := ?_) | refine dr 12 (k := ?_) | refine dr 1001 (k := ?_) | refine dr 1002 (k := ?_) | refine dr 1003 (k := ?_) | refine dr 1004 (k := ?_) | refine dr 1005 (k := ?_) | refine dr 1006 (k := ?_) | refine dr 1007 (k := ?_) | refine dr 1008 (k := ?_) | refine dr 1009 (k := ?_) | refine dr 1010 (k := ?_) | refine dr 1011 (k := ?_) | refine dr 1012 (k := ?_) | refine dr 1013 (k := ?_) | refine dr 1014 (k := ?_) | refine dr 1015 (k := ?_) | refine dr 1016 (k := ?_)))); all_goals (try conv => whnf); all_goals (try with_reducible exact trivial)

theorem read_mem {s : St} {n : Int} (h : n ∈ s.keys) : s.read n = look s.cch n := by unfold St.read; rw [if_pos h]
theorem cch_last {b : Bands} (hb : b.Ok) {l : List (Int × Int)} (h : InB b l) {i : Nat} (hi : i < (St.run b l).cch.length) : ((St.run b l).cch.getD i (0, 0)).2 = lastW l ((St.run b l).cch.getD i (0, 0)).1 := by
  have ho := (run_ok hb h).1
  have hm : ((St.run b l).cch.getD i (0, 0)).1 ∈ (St.run b l).keys := List.mem_map.2 ⟨_, getD_mem hi, rfl⟩
  rw [← read_last hb h (keys_blk ho _ hm).1, read_mem hm, look_getD ho.asc hi]

end Go.Proofs


namespace Go.Proofs
open Go Go.Sx

/-! the neighbours -/
/-! the price -/
/-! the same again -/
theorem ins_self : ∀ {l : List (Int × Int)}, Asc l → ∀ {w}, w ∈ l → ins w l = l
  | x :: l, h, w, hw => by
    have h1 := List.pairwise_cons.1 h
    unfold ins
    rcases List.mem_cons.1 hw with rfl | hw
    · rw [if_neg (by omega), if_pos rfl]
    · have := h1.1 w hw
      rw [if_pos this, ins_self h1.2 hw]

/-! the cheapest cleaning -/
section
variable {b : Bands} {ks : List Int} {need : Int}

end
theorem run16s (b : Bands) (l : List (Int × Int)) (hz : chk b l = 0) : PureC Try.prog 16 false [b.v, .sl 2 l.length (rowOf wC (0, 0) l)] (· = .tup [stV b.N.toNat b.B.toNat (St.run b l), .int .i64 0]) := by
  have hr := run16 b l (by have := (chk_ok hz).2.1; omega)
  have e1 : resN b l = b.N.toNat := if_pos hz
  have e2 : resB b l = b.B.toNat := if_pos hz
  have e3 : resR b l = St.run b l := if_pos hz
  rwa [e1, e2, e3, hz] at hr

end Go.Proofs


namespace Go.Proofs
open Go Go.Sx
set_option maxRecDepth 100000
set_option maxHeartbeats 4000000
-- SxAid2

end Go.Proofs


namespace Go.Proofs
open Go Go.Sx
set_option maxRecDepth 100000
set_option maxHeartbeats 4000000
-- SxAid2

end Go.Proofs


namespace Go.Proofs
open Go Go.Sx
set_option maxRecDepth 100000
set_option maxHeartbeats 4000000
-- SxAid2

end Go.Proofs


namespace Go.Proofs
open Go Go.Sx
set_option maxRecDepth 100000
set_option maxHeartbeats 4000000
-- SxAid2

end Go.Proofs


namespace Go.Proofs
open Go Go.Sx
set_option maxRecDepth 100000
set_option maxHeartbeats 4000000
-- SxAid2

end Go.Proofs


namespace Go.Proofs
open Go Go.Sx
set_option maxRecDepth 100000
set_option maxHeartbeats 4000000
-- SxAid2

end Go.Proofs


namespace Go.Proofs
open Go Go.Sx
set_option maxRecDepth 100000
set_option maxHeartbeats 4000000
-- SxAid2

theorem same23 (n m : Nat) (s : St) (hn : n ≤ 1000) (hm : m ≤ 1000) (hs : s.cch.length ≤ 1000) : PureC Try.prog 23 false [stV n m s, stV n m s] (· = .prop True inferInstance) := by
  refine pureC_of_exec Try.E_ok Try.func23 rfl (by kernel_rfl) ?_
  (repeat' ((conv => whnf); (first | ((first | with_reducible refine spl (fun hc => ?_) (fun hc => ?_) | with_reducible refine spl' (fun hc => ?_) (fun hc => ?_)) <;> try (exfalso; omega)) | with_reducible refine imp_intro (fun hc => ?_) | refine vcq (k := ?_) | refine dr 11 (k := ?_)))); all_goals (try conv => whnf); all_goals (try with_reducible exact trivial)
  refine ⟨Nat, fun i => i ≤ n, fun i => n - i, fun i => [(16, .any), (19, .any), (25, .any), (28, .any), (34, .any), (36, .any), (41, .any), (43, .any), (48, .any), (50, .any), (5, .int .i64 i)], fun _ => [], fun _ => [], 0, ⟨by omega, some [some 0, some 1], ?_⟩, ?_⟩
  · (repeat' ((conv => whnf); (first | ((first | with_reducible refine spl (fun hc => ?_) (fun hc => ?_) | with_reducible refine spl' (fun hc => ?_) (fun hc => ?_)) <;> try (exfalso; omega)) | with_reducible refine imp_intro (fun hc => ?_) | refine vcq (k := ?_) | refine dr 11 (k := ?_)))); all_goals (try conv => whnf); all_goals (try with_reducible exact trivial)
  · intro i hi
    (repeat' ((conv => whnf); (first | ((first | with_reducible refine spl (fun hc => ?_) (fun hc => ?_) | with_reducible refine spl' (fun hc => ?_) (fun hc => ?_)) <;> try (exfalso; omega)) | with_reducible refine imp_intro (fun hc => ?_) | refine vcq (k := ?_) | refine dr 11 (k := ?_)))); all_goals (try conv => whnf); all_goals (try with_reducible exact trivial)
    · refine ⟨i + 1, ⟨by omega, by dsimp only; omega⟩, some [some 0, some 1], ?_⟩
      (repeat' ((conv => whnf); (first | ((first | with_reducible refine spl (fun hc => ?_) (fun hc => ?_) | with_reducible refine spl' (fun hc => ?_) (fun hc => ?_)) <;> try (exfalso; omega)) | with_reducible refine imp_intro (fun hc => ?_) | refine vcq (k := ?_) | refine dr 11 (k := ?_)))); all_goals (try conv => whnf); all_goals (try with_reducible exact trivial)
    · refine ⟨Nat, fun i => i ≤ s.cch.length, fun i => s.cch.length - i, fun i => [(6, .int .i64 i)], fun _ => [], fun _ => [], 0, ⟨by omega, some [some 0, some 1], ?_⟩, ?_⟩
      · (repeat' ((conv => whnf); (first | ((first | with_reducible refine spl (fun hc => ?_) (fun hc => ?_) | with_reducible refine spl' (fun hc => ?_) (fun hc => ?_)) <;> try (exfalso; omega)) | with_reducible refine imp_intro (fun hc => ?_) | refine vcq (k := ?_) | refine dr 11 (k := ?_)))); all_goals (try conv => whnf); all_goals (try with_reducible exact trivial)
      · intro i hi
        (repeat' ((conv => whnf); (first | ((first | with_reducible refine spl (fun hc => ?_) (fun hc => ?_) | with_reducible refine spl' (fun hc => ?_) (fun hc => ?_)) <;> try (exfalso; omega)) | with_reducible refine imp_intro (fun hc => ?_) | refine vcq (k := ?_) | refine dr 11 (k := ?_)))); all_goals (try conv => whnf); all_goals (try with_reducible exact trivial)
        · refine ⟨i + 1, ⟨by omega, by dsimp only; omega⟩, some [some 0, some 1], ?_⟩
          (repeat' ((conv => whnf); (first | ((first | with_reducible refine spl (fun hc => ?_) (fun hc => ?_) | with_reducible refine spl' (fun hc => ?_) (fun hc => ?_)) <;> try (exfalso; omega)) | with_reducible refine imp_intro (fun hc => ?_) | refine vcq (k := ?_) | refine dr 11 (k := ?_)))); all_goals (try conv => whnf); all_goals (try with_reducible exact trivial)
        · refine ⟨Nat, fun i => i ≤ m, fun i => m - i, fun i => [(7, .int .i64 i)], fun _ => [], fun _ => [], 0, ⟨by omega, some [some 0, some 1], ?_⟩, ?_⟩
          · (repeat' ((conv => whnf); (first | ((first | with_reducible refine spl (fun hc => ?_) (fun hc => ?_) | with_reducible refine spl' (fun hc => ?_) (fun hc => ?_)) <;> try (exfalso; omega)) | with_reducible refine imp_intro (fun hc => ?_) | refine vcq (k := ?_) | refine dr 11 (k := ?_)))); all_goals (try conv => whnf); all_goals (try with_reducible exact trivial)
          · intro i hi
            (repeat' ((conv => whnf); (first | ((first | with_reducible refine spl (fun hc => ?_) (fun hc => ?_) | with_reducible refine spl' (fun hc => ?_) (fun hc => ?_)) <;> try (exfalso; omega)) | with_reducible refine imp_intro (fun hc => ?_) | refine vcq (k := ?_) | refine dr 11 (k := ?_)))); all_goals (try conv => whnf); all_goals (try with_reducible exact trivial)
            · refine ⟨i + 1, ⟨by omega, by dsimp only; omega⟩, some [some 0, some 1], ?_⟩
              (repeat' ((conv => whnf); (first | ((first | with_reducible refine spl (fun hc => ?_) (fun hc => ?_) | with_reducible refine spl' (fun hc => ?_) (fun hc => ?_)) <;> try (exfalso; omega)) | with_reducible refine imp_intro (fun hc => ?_) | refine vcq (k := ?_) | refine dr 11 (k := ?_)))); all_goals (try conv => whnf); all_goals (try with_reducible exact trivial)
            · refine ⟨_, rfl, ?_⟩
              (repeat' ((conv => whnf); (first | ((first | with_reducible refine spl (fun hc => ?_) (fun hc => ?_) | with_reducible refine spl' (fun hc => ?_) (fun hc => ?_)) <;> try (exfalso; omega)) | with_reducible refine imp_intro (fun hc => ?_) | refine vcq (k := ?_) | refine dr 11 (k := ?_)))); all_goals (try conv => whnf); all_goals (try with_reducible exact trivial)

end Go.Proofs


namespace Go.Proofs
open Go Go.Sx
set_option maxRecDepth 100000
set_option maxHeartbeats 4000000
-- SxAid2

end Go.Proofs


namespace Go.Proofs
open Go Go.Sx
set_option maxRecDepth 100000
set_option maxHeartbeats 4000000
-- SxAid2

theorem nnew_intro {P : Program} {g : FuncId} {args : List V} {R : V → List O → Prop} {F : V → List O → Prop} {G G2 : Prop} (h : NewC P g args R) (hfo : foL args = true) (hf : ∀ v obs, R v obs → F v obs) : G ∨ (∃ R, NNew P g args R ∧ ∀ v obs, R v obs → F v obs) ∨ G2 := by
  refine .inr (.inl ⟨R, ?_, hf⟩)
  unfold NNew
  exact ⟨hfo, h⟩

theorem copied22n (l : List (Int × Int)) (hl : l.length ≤ 1048576) : NewC Try.prog 22 [.sl 2 l.length (rowOf wC (0, 0) l)] (fun r H => r = .osl 0 l.length ∧ H = [.row 42 2 l.length (rowOf wC (0, 0) l) false]) := by
  refine newC_ent Try.E_ok Try.func22 rfl (by kernel_rfl) ?_
  (repeat' ((conv => whnf); (first | ((first | with_reducible refine spl (fun hc => ?_) (fun hc => ?_) | with_reducible refine spl' (fun hc => ?_) (fun hc => ?_)) <;> try (exfalso; omega)) | with_reducible refine imp_intro (fun hc => ?_) | refine vcq (k := ?_) | refine dr 1 (k := ?_) | refine dr 2 (k := ?_) | refine dr 3 (k := ?_) | refine dr 4 (k := ?_) | refine dr 5 (k := ?_) | refine dr 6 (k := ?_) | refine dr 7 (k := ?_) | refine dr 8 (k := ?_) | refine dr 9 (k := ?_) | refine dr 10 (k := ?_) | refine dr 11 (k := ?_) | refine dr 12 (k := ?_) | refine dr 1001 (k := ?_) | refine dr 1002 (k := ?_) | refine dr 1003 (k := ?_) | refine dr 1004 (k := ?_) | refine dr 1005 (k := ?_) | refine dr 1006 (k := ?_) | refine dr 1007 (k := ?_) | refine dr 1008 (k := ?_) | refine dr 1009 (k := ?_) | refine dr 1010 (k := ?_) | refine dr 1011 (k := ?_) | refine dr 1012 (k := ?_) | refine dr 1013 (k := ?_) | refine dr 1014 (k := ?_) | refine dr 1015 (k := ?_) | refine dr 1016 (k := ?_)))); all_goals (try conv => whnf); all_goals (try with_reducible exact trivial)
  refine ⟨_, _, ⟨rfl, rfl⟩, some [some 1], ?_⟩
  (repeat' ((conv => whnf); (first | ((first | with_reducible refine spl (fun hc => ?_) (fun hc => ?_) | with_reducible refine spl' (fun hc => ?_) (fun hc => ?_)) <;> try (exfalso; omega)) | with_reducible refine imp_intro (fun hc => ?_) | refine vcq (k := ?_) | refine dr 1 (k := ?_) | refine dr 2 (k := ?_) | refine dr 3 (k := ?_) | refine dr 4 (k := ?_) | refine dr 5 (k := ?_) | refine dr 6 (k := ?_) | refine dr 7 (k := ?_) | refine dr 8 (k := ?_) | refine dr 9 (k := ?_) | refine dr 10 (k := ?_) | refine dr 11 (k := ?_) | refine dr 12 (k := ?_) | refine dr 1001 (k := ?_) | refine dr 1002 (k := ?_) | refine dr 1003 (k := ?_) | refine dr 1004 (k := ?_) | refine dr 1005 (k := ?_) | refine dr 1006 (k := ?_) | refine dr 1007 (k := ?_) | refine dr 1008 (k := ?_) | refine dr 1009 (k := ?_) | refine dr 1010 (k := ?_) | refine dr 1011 (k := ?_) | refine dr 1012 (k := ?_) | refine dr 1013 (k := ?_) | refine dr 1014 (k := ?_) | refine dr 1015 (k := ?_) | refine dr 1016 (k := ?_)))); all_goals (try conv => whnf); all_goals (try with_reducible exact trivial)

/-- the writes whose block was not written before -/
def dstep (a : List (Int × Int)) (w : Int × Int) : List (Int × Int) := if findW a w.1 < 0 then a ++ [w] else a
def ded (l : List (Int × Int)) : List (Int × Int) := l.foldl dstep []

theorem dstep_le (a : List (Int × Int)) (w : Int × Int) : a.length ≤ (dstep a w).length := by
  unfold dstep
  split <;> simp

theorem foldl_dstep_le : ∀ (l a : List (Int × Int)), a.length ≤ (l.foldl dstep a).length
  | [], _ => Nat.le_refl _
  | w :: l, a => Nat.le_trans (dstep_le a w) (foldl_dstep_le l _)

structure NoClean (s : St) (a : List (Int × Int)) : Prop where
  cost : s.cost = 0
  cleaned : s.cleaned = 0
  refreshed : s.refreshed = 0
  med : ∀ i, s.med i = 0
  len : s.cch.length = a.length
  keys : ∀ n, n ∈ s.cch.map Prod.fst ↔ n ∈ a.map Prod.fst

theorem noClean {b : Bands} (hb : b.Ok) : ∀ (l : List (Int × Int)) (s : St) (a : List (Int × Int)), s.Ok b → InB b l → ((l.foldl dstep a).length : Int) ≤ b.C → NoClean s a → NoClean (l.foldl (St.write b) s) (l.foldl dstep a)
  | [], s, a, _, _, _, h => h
  | w :: l, s, a, hs, hin, hle, h => by
    have hw := hin w (by simp)
    have hgo := foldl_dstep_le l (dstep a w)
    refine noClean hb l (s.write b w) (dstep a w) (write_ok hb hs hw) (fun x hx => hin x (by simp [hx])) hle ?_
    simp only [List.foldl_cons] at hle
    have hk := h.keys w.1
    have hf := findW_spec (n := w.1) a
    have hmi := mem_ins (w := w) hs.asc
    have hl := ins_length (w := w) hs.asc
    unfold St.write dstep at *
    by_cases hm : w.1 ∈ s.keys
    · rw [if_pos hm]
      have hm2 : w.1 ∈ s.cch.map Prod.fst := hm
      rw [if_pos hm2] at hl
      rw [if_neg (by rcases hf with ⟨_, g⟩ | ⟨g, _⟩; exact absurd (hk.1 hm2) g; omega)]
      refine ⟨h.cost, h.cleaned, h.refreshed, h.med, by rw [hl]; exact h.len, fun n => ?_⟩
      rw [hmi n, h.keys n]
      constructor
      · rintro (rfl | g)
        · exact hk.1 hm2
        · exact g
      · exact .inr
    · have hm2 : w.1 ∉ s.cch.map Prod.fst := hm
      rw [if_neg hm]
      rw [if_neg hm2] at hl
      have hfn : findW a w.1 < 0 := by
        rcases hf with ⟨g, _⟩ | ⟨_, _, _, g⟩
        · omega
        · exact absurd (hk.2 g) hm2
      rw [if_pos hfn] at hgo hle ⊢
      have hlen := h.len
      simp only [List.length_append, List.length_singleton] at hgo
      rw [if_neg (by omega)]
      refine ⟨h.cost, h.cleaned, h.refreshed, h.med, by simp [hl, hlen], fun n => ?_⟩
      rw [hmi n, h.keys n]
      simp [or_comm]

theorem lastW_in {l : List (Int × Int)} (h : ∀ w ∈ l, 0 ≤ w.2 ∧ w.2 ≤ 999) (n : Int) : 0 ≤ lastW l n ∧ lastW l n ≤ 999 := by
  unfold lastW
  have key : ∀ (l : List (Int × Int)) (a : Int), (∀ w ∈ l, 0 ≤ w.2 ∧ w.2 ≤ 999) → 0 ≤ a ∧ a ≤ 999 → 0 ≤ l.foldl (fun a w => if w.1 = n then w.2 else a) a ∧ l.foldl (fun a w => if w.1 = n then w.2 else a) a ≤ 999 := by
    intro l
    induction l with
    | nil => intro a _ h; exact h
    | cons w l ih =>
      intro a h ha
      refine ih _ (fun x hx => h x (by simp [hx])) ?_
      dsimp only
      split
      · exact h w (by simp)
      · exact ha
  exact key l 0 h ⟨by omega, by omega⟩

theorem again_same {b : Bands} {l : List (Int × Int)} (hz : chk b l = 0) (hl : l.length < 60) {i : Nat} (hi : i < (St.run b l).cch.length) :
    chk b (l ++ [(St.run b l).cch.getD i (0, 0)]) = 0 ∧ St.run b (l ++ [(St.run b l).cch.getD i (0, 0)]) = St.run b l := by
  obtain ⟨hb, h1, h2⟩ := chk_ok hz
  obtain ⟨o1, _⟩ := run_ok hb h2.inB
  have hmem : (St.run b l).cch.getD i (0, 0) ∈ (St.run b l).cch := by
    rw [List.getD_eq_getElem?_getD, List.getElem?_eq_getElem hi]
    exact List.getElem_mem hi
  have hv := cch_last hb h2.inB hi
  generalize hw : (St.run b l).cch.getD i (0, 0) = w at *
  have hblk := o1.blk w hmem
  have hlw := lastW_in (l := l) (fun x hx => (h2 x hx).2) w.1
  constructor
  · unfold chk
    rw [if_neg (by simpa using hb), if_neg (by simp; omega), if_neg]
    simp only [Classical.not_not]
    intro x hx
    rcases List.mem_append.1 hx with hx | hx
    · exact h2 x hx
    · have : x = w := by simpa using hx
      subst this
      exact ⟨hblk, by omega, by omega⟩
  · have e : St.run b (l ++ [w]) = St.write b (St.run b l) w := by unfold St.run; rw [List.foldl_append]; rfl
    rw [e]
    generalize St.run b l = s at *
    have hk : w.1 ∈ s.keys := List.mem_map.2 ⟨w, hmem, rfl⟩
    unfold St.write
    rw [if_pos hk, ins_self o1.asc hmem]

theorem ded_take {l : List (Int × Int)} {i : Nat} (h : i < l.length) : ded (l.take (i + 1)) = dstep (ded (l.take i)) (l.getD i (0, 0)) := by
  unfold ded
  rw [List.take_succ_eq_append_getElem h, List.foldl_append]
  simp [List.getD_eq_getElem?_getD, List.getElem?_eq_getElem h]

theorem ded_le (l : List (Int × Int)) : (ded l).length ≤ l.length := by
  unfold ded
  have key : ∀ (l a : List (Int × Int)), (l.foldl dstep a).length ≤ a.length + l.length := by
    intro l
    induction l with
    | nil => intro a; simp
    | cons w l ih =>
      intro a
      have := ih (dstep a w)
      have h2 : (dstep a w).length ≤ a.length + 1 := by unfold dstep; split <;> simp
      simp only [List.foldl_cons, List.length_cons]
      omega
  simpa using key l []

/-- all but the end behind a write that is done again -/
noncomputable def again6A (b : Bands) (l : List (Int × Int)) (hl : l.length ≤ 9223372036854775807) (n : Int) : { G : Nat → Prop // (∀ i, chk b l = 0 → l.length < 60 → G i) → PureC Try.prog 6 false [b.v, .sl 2 l.length (rowOf wC (0, 0) l), .int .i64 n] (· = .prop True inferInstance) } := by
  constructor
  case property =>
    intro hG
    refine pureC_of_exec Try.E_ok Try.func6 rfl (by kernel_rfl) ?_
    (repeat' ((conv => whnf); (first | ((first | with_reducible refine spl (fun hc => ?_) (fun hc => ?_) | with_reducible refine spl' (fun hc => ?_) (fun hc => ?_)) <;> try (exfalso; omega)) | with_reducible refine imp_intro (fun hc => ?_) | refine vcq (k := ?_) | refine dr 8 (k := ?_) | refine dr 9 (k := ?_) | refine dr 815070906080507040603050204151413132009 (k := ?_)))); all_goals (try conv => whnf); all_goals (try with_reducible exact trivial)
    refine callee_fo (ready11 b l hl) rfl ?_
    rintro _ rfl
    by_cases hz : chk b l = 0
    · obtain ⟨hb, h1, h2⟩ := chk_ok hz
      obtain ⟨o1, o2⟩ := run_ok hb h2.inB
      have hr := run16s b l hz
      have hlen := o1.len
      have hC := hb.C
      (repeat' ((conv => whnf); (first | ((first | with_reducible refine spl (fun hc => ?_) (fun hc => ?_) | with_reducible refine spl' (fun hc => ?_) (fun hc => ?_)) <;> try (exfalso; omega)) | with_reducible refine imp_intro (fun hc => ?_) | refine vcq (k := ?_) | refine dr 8 (k := ?_) | refine dr 9 (k := ?_) | refine dr 815070906080507040603050204151413132009 (k := ?_)))); all_goals (try conv => whnf); all_goals (try with_reducible exact trivial)
      · refine callee_fo works13 rfl ?_
        rintro _ rfl
        (repeat' ((conv => whnf); (first | ((first | with_reducible refine spl (fun hc => ?_) (fun hc => ?_) | with_reducible refine spl' (fun hc => ?_) (fun hc => ?_)) <;> try (exfalso; omega)) | with_reducible refine imp_intro (fun hc => ?_) | refine vcq (k := ?_) | refine dr 8 (k := ?_) | refine dr 9 (k := ?_) | refine dr 815070906080507040603050204151413132009 (k := ?_)))); all_goals (try conv => whnf); all_goals (try with_reducible exact trivial)
        refine ⟨_, rfl, ?_⟩
        (repeat' ((conv => whnf); (first | ((first | with_reducible refine spl (fun hc => ?_) (fun hc => ?_) | with_reducible refine spl' (fun hc => ?_) (fun hc => ?_)) <;> try (exfalso; omega)) | with_reducible refine imp_intro (fun hc => ?_) | refine vcq (k := ?_) | refine dr 8 (k := ?_) | refine dr 9 (k := ?_) | refine dr 815070906080507040603050204151413132009 (k := ?_)))); all_goals (try conv => whnf); all_goals (try with_reducible exact trivial)

      · have hl60 : l.length < 60 := by omega
        refine callee_fo hr rfl ?_
        rintro _ rfl
        (repeat' ((conv => whnf); (first | ((first | with_reducible refine spl (fun hc => ?_) (fun hc => ?_) | with_reducible refine spl' (fun hc => ?_) (fun hc => ?_)) <;> try (exfalso; omega)) | with_reducible refine imp_intro (fun hc => ?_) | refine vcq (k := ?_) | refine dr 8 (k := ?_) | refine dr 9 (k := ?_) | refine dr 815070906080507040603050204151413132009 (k := ?_)))); all_goals (try conv => whnf); all_goals (try with_reducible exact trivial)
        refine callee_view (find19 (St.run b l).cch (by omega) n) ?_
        (repeat' ((conv => whnf); (first | ((first | with_reducible refine spl (fun hc => ?_) (fun hc => ?_) | with_reducible refine spl' (fun hc => ?_) (fun hc => ?_)) <;> try (exfalso; omega)) | with_reducible refine imp_intro (fun hc => ?_) | refine vcq (k := ?_) | refine dr 8 (k := ?_) | refine dr 9 (k := ?_) | refine dr 815070906080507040603050204151413132009 (k := ?_)))); all_goals (try conv => whnf); all_goals (try with_reducible exact trivial)
        rintro _ rfl
        have hfs := findW_spec (n := n) (St.run b l).cch
        have hnc : ((ded l).length : Int) ≤ b.C → NoClean (St.run b l) (ded l) := fun h => noClean hb l St.begin [] (begin_ok hb) h2.inB h ⟨rfl, rfl, rfl, fun _ => rfl, rfl, fun _ => Iff.rfl⟩
        (repeat' ((conv => whnf); (first | ((first | with_reducible refine spl (fun hc => ?_) (fun hc => ?_) | with_reducible refine spl' (fun hc => ?_) (fun hc => ?_)) <;> try (exfalso; omega)) | with_reducible refine imp_intro (fun hc => ?_) | refine vcq (k := ?_) | refine dr 8 (k := ?_) | refine dr 9 (k := ?_) | refine dr 815070906080507040603050204151413132009 (k := ?_)))); all_goals (try conv => whnf); all_goals (try with_reducible exact trivial)
        · have hw := hfs.resolve_left (fun g => by omega)
          obtain ⟨i, hi⟩ : ∃ i : Nat, findW (St.run b l).cch n = i := ⟨(findW (St.run b l).cch n).toNat, by omega⟩
          have hil : i < (St.run b l).cch.length := by omega
          obtain ⟨hz2, hrun⟩ := again_same hz (by omega) hil
          have hr2 := run16s b (l ++ [(St.run b l).cch.getD i (0, 0)]) hz2
          rw [hrun] at hr2
          refine nnew_intro (copied22n l (by omega)) rfl ?_
          rintro _ _ ⟨rfl, rfl⟩
          rw [hi]
          (repeat' ((conv => whnf); (first | ((first | with_reducible refine spl (fun hc => ?_) (fun hc => ?_) | with_reducible refine spl' (fun hc => ?_) (fun hc => ?_)) <;> try (exfalso; omega)) | with_reducible refine imp_intro (fun hc => ?_) | refine vcq (k := ?_) | refine dr 8 (k := ?_) | refine dr 9 (k := ?_) | refine dr 815070906080507040603050204151413132009 (k := ?_)))); all_goals (try conv => whnf); all_goals (try with_reducible exact trivial)
          refine pcall_view hr2 ?_ ?_
          · (repeat' ((conv => whnf); (first | ((first | with_reducible refine spl (fun hc => ?_) (fun hc => ?_) | with_reducible refine spl' (fun hc => ?_) (fun hc => ?_)) <;> try (exfalso; omega)) | with_reducible refine imp_intro (fun hc => ?_) | refine vcq (k := ?_) | refine dr 8 (k := ?_) | refine dr 9 (k := ?_) | refine dr 815070906080507040603050204151413132009 (k := ?_)))); all_goals (try conv => whnf); all_goals (try with_reducible exact trivial)
            refine ⟨by simp, rowOf_snoc (c := wC) (a := (St.run b l).cch.getD i (0, 0)) (l := l) rfl (fun _ _ => rfl), .inl rfl, ?_⟩
            (repeat' ((conv => whnf); (first | ((first | with_reducible refine spl (fun hc => ?_) (fun hc => ?_) | with_reducible refine spl' (fun hc => ?_) (fun hc => ?_)) <;> try (exfalso; omega)) | with_reducible refine imp_intro (fun hc => ?_) | refine vcq (k := ?_) | refine dr 8 (k := ?_) | refine dr 9 (k := ?_) | refine dr 815070906080507040603050204151413132009 (k := ?_)))); all_goals (try conv => whnf); all_goals (try with_reducible exact trivial)
          (repeat' ((conv => whnf); (first | ((first | with_reducible refine spl (fun hc => ?_) (fun hc => ?_) | with_reducible refine spl' (fun hc => ?_) (fun hc => ?_)) <;> try (exfalso; omega)) | with_reducible refine imp_intro (fun hc => ?_) | refine vcq (k := ?_) | refine dr 8 (k := ?_) | refine dr 9 (k := ?_) | refine dr 815070906080507040603050204151413132009 (k := ?_)))); all_goals (try conv => whnf); all_goals (try with_reducible exact trivial)
          refine callee_fo (same23 b.N.toNat b.B.toNat (St.run b l) (by have := (N_bounds hb).2.1; omega) (by have := hb.B; omega) (by omega)) rfl ?_
          rintro _ rfl
          (repeat' ((conv => whnf); (first | ((first | with_reducible refine spl (fun hc => ?_) (fun hc => ?_) | with_reducible refine spl' (fun hc => ?_) (fun hc => ?_)) <;> try (exfalso; omega)) | with_reducible refine imp_intro (fun hc => ?_) | refine vcq (k := ?_) | refine dr 8 (k := ?_) | refine dr 9 (k := ?_) | refine dr 815070906080507040603050204151413132009 (k := ?_)))); all_goals (try conv => whnf); all_goals (try with_reducible exact trivial)
          · exact absurd trivial hc
          dsimp only
          clear hw hr2 hrun hz2 hil
          exact hG i hz hl60
        · refine ⟨Nat × List (Int × Int), fun q => q.1 ≤ l.length ∧ q.2 = ded (l.take q.1), fun q => l.length - q.1, fun q => [(13, .int .i64 (q.1 : Nat)), (12, .osl 2 q.2.length), (34, .any), (37, .any)], fun _ => [], fun q => [.row 42 2 q.2.length (rowOf wC (0, 0) q.2) true], (0, []), ⟨⟨by dsimp only; omega, rfl⟩, some [some 0, some 1, none], ?_⟩, ?_⟩
          · (repeat' ((conv => whnf); (first | ((first | with_reducible refine spl (fun hc => ?_) (fun hc => ?_) | with_reducible refine spl' (fun hc => ?_) (fun hc => ?_)) <;> try (exfalso; omega)) | with_reducible refine imp_intro (fun hc => ?_) | refine vcq (k := ?_) | refine dr 8 (k := ?_) | refine dr 9 (k := ?_) | refine dr 815070906080507040603050204151413132009 (k := ?_)))); all_goals (try conv => whnf); all_goals (try with_reducible exact trivial)
          · rintro ⟨i, a⟩ ⟨hi, ha⟩
            dsimp only at hi ha
            have hti : (i : Int).toNat = i := Int.toNat_natCast i
            have hdl := ded_le (l.take i)
            rw [List.length_take, ← ha] at hdl
            (repeat' ((conv => whnf); (first | ((first | with_reducible refine spl (fun hc => ?_) (fun hc => ?_) | with_reducible refine spl' (fun hc => ?_) (fun hc => ?_)) <;> try (exfalso; omega)) | with_reducible refine imp_intro (fun hc => ?_) | refine vcq (k := ?_) | refine dr 8 (k := ?_) | refine dr 9 (k := ?_) | refine dr 815070906080507040603050204151413132009 (k := ?_)))); all_goals (try conv => whnf); all_goals (try with_reducible exact trivial)
            · have hi1 : i < l.length := by dsimp only at hc; omega
              have hdt := ded_take hi1
              rw [← ha] at hdt
              refine callee_view (find19 a (by omega) (l.getD (i : Int).toNat (0, 0)).1) ?_
              (repeat' ((conv => whnf); (first | ((first | with_reducible refine spl (fun hc => ?_) (fun hc => ?_) | with_reducible refine spl' (fun hc => ?_) (fun hc => ?_)) <;> try (exfalso; omega)) | with_reducible refine imp_intro (fun hc => ?_) | refine vcq (k := ?_) | refine dr 8 (k := ?_) | refine dr 9 (k := ?_) | refine dr 815070906080507040603050204151413132009 (k := ?_)))); all_goals (try conv => whnf); all_goals (try with_reducible exact trivial)
              rintro _ rfl
              (repeat' ((conv => whnf); (first | ((first | with_reducible refine spl (fun hc => ?_) (fun hc => ?_) | with_reducible refine spl' (fun hc => ?_) (fun hc => ?_)) <;> try (exfalso; omega)) | with_reducible refine imp_intro (fun hc => ?_) | refine vcq (k := ?_) | refine dr 8 (k := ?_) | refine dr 9 (k := ?_) | refine dr 815070906080507040603050204151413132009 (k := ?_)))); all_goals (try conv => whnf); all_goals (try with_reducible exact trivial)
              · have hfd : findW a (l.getD i (0, 0)).1 < 0 := by rw [← hti]; assumption
                unfold dstep at hdt
                rw [if_pos hfd] at hdt
                refine ⟨(i + 1, a ++ [l.getD (i : Int).toNat (0, 0)]), ⟨⟨by dsimp only; omega, by dsimp only; rw [hdt, hti]⟩, by dsimp only; omega⟩, some [some 0, some 1, some 4], ?_⟩
                (repeat' ((conv => whnf); (first | ((first | with_reducible refine spl (fun hc => ?_) (fun hc => ?_) | with_reducible refine spl' (fun hc => ?_) (fun hc => ?_)) <;> try (exfalso; omega)) | with_reducible refine imp_intro (fun hc => ?_) | refine vcq (k := ?_) | refine dr 8 (k := ?_) | refine dr 9 (k := ?_) | refine dr 815070906080507040603050204151413132009 (k := ?_)))); all_goals (try conv => whnf); all_goals (try with_reducible exact trivial)
                refine ⟨by simp, ?_⟩
                (repeat' ((conv => whnf); (first | ((first | with_reducible refine spl (fun hc => ?_) (fun hc => ?_) | with_reducible refine spl' (fun hc => ?_) (fun hc => ?_)) <;> try (exfalso; omega)) | with_reducible refine imp_intro (fun hc => ?_) | refine vcq (k := ?_) | refine dr 8 (k := ?_) | refine dr 9 (k := ?_) | refine dr 815070906080507040603050204151413132009 (k := ?_)))); all_goals (try conv => whnf); all_goals (try with_reducible exact trivial)
                refine ⟨by simp, rowOf_snoc (c := wC) (a := l.getD (i : Int).toNat (0, 0)) (l := a) rfl (fun _ _ => rfl), ?_⟩
                (repeat' ((conv => whnf); (first | ((first | with_reducible refine spl (fun hc => ?_) (fun hc => ?_) | with_reducible refine spl' (fun hc => ?_) (fun hc => ?_)) <;> try (exfalso; omega)) | with_reducible refine imp_intro (fun hc => ?_) | refine vcq (k := ?_) | refine dr 8 (k := ?_) | refine dr 9 (k := ?_) | refine dr 815070906080507040603050204151413132009 (k := ?_)))); all_goals (try conv => whnf); all_goals (try with_reducible exact trivial)
              · have hfd : ¬ findW a (l.getD i (0, 0)).1 < 0 := by rw [← hti]; assumption
                unfold dstep at hdt
                rw [if_neg hfd] at hdt
                refine ⟨(i + 1, a), ⟨⟨by dsimp only; omega, by dsimp only; rw [hdt]⟩, by dsimp only; omega⟩, some [some 0, some 1, some 2], ?_⟩
                (repeat' ((conv => whnf); (first | ((first | with_reducible refine spl (fun hc => ?_) (fun hc => ?_) | with_reducible refine spl' (fun hc => ?_) (fun hc => ?_)) <;> try (exfalso; omega)) | with_reducible refine imp_intro (fun hc => ?_) | refine vcq (k := ?_) | refine dr 8 (k := ?_) | refine dr 9 (k := ?_) | refine dr 815070906080507040603050204151413132009 (k := ?_)))); all_goals (try conv => whnf); all_goals (try with_reducible exact trivial)
            · refine callee_fo works13 rfl ?_
              rintro _ rfl
              (repeat' ((conv => whnf); (first | ((first | with_reducible refine spl (fun hc => ?_) (fun hc => ?_) | with_reducible refine spl' (fun hc => ?_) (fun hc => ?_)) <;> try (exfalso; omega)) | with_reducible refine imp_intro (fun hc => ?_) | refine vcq (k := ?_) | refine dr 8 (k := ?_) | refine dr 9 (k := ?_) | refine dr 815070906080507040603050204151413132009 (k := ?_)))); all_goals (try conv => whnf); all_goals (try with_reducible exact trivial)
              refine ⟨_, rfl, ?_⟩
              (repeat' ((conv => whnf); (first | ((first | with_reducible refine spl (fun hc => ?_) (fun hc => ?_) | with_reducible refine spl' (fun hc => ?_) (fun hc => ?_)) <;> try (exfalso; omega)) | with_reducible refine imp_intro (fun hc => ?_) | refine vcq (k := ?_) | refine dr 8 (k := ?_) | refine dr 9 (k := ?_) | refine dr 815070906080507040603050204151413132009 (k := ?_)))); all_goals (try conv => whnf); all_goals (try with_reducible exact trivial)
            · exfalso
              have hil : i = l.length := by omega
              have h5 : ¬ b.C < (a.length : Int) := by assumption
              have h6 : (((St.run b l).cost ≠ 0 ∨ (St.run b l).cleaned ≠ 0) ∨ (St.run b l).refreshed ≠ 0) ∨ ((St.run b l).cch.length : Int) ≠ a.length := hc
              clear hc
              rw [hil, List.take_length] at ha
              subst ha
              have g := hnc (by omega)
              have g1 := g.cost
              have g2 := g.cleaned
              have g3 := g.refreshed
              have g4 := g.len
              omega
            · have hil : i = l.length := by omega
              have h5 : ¬ b.C < (a.length : Int) := by assumption
              rw [hil, List.take_length] at ha
              have hnl : ((ded l).length : Int) ≤ b.C := by rw [← ha]; omega
              have g : NoClean (St.run b l) (ded l) := hnc hnl
              have hN := (N_bounds hb).2.1
              refine ⟨Nat, fun j => j ≤ b.N.toNat, fun j => b.N.toNat - j, fun j => [(14, .int .i64 (j : Nat)), (100, .any), (105, .any), (110, .any), (113, .any)], fun _ => [], fun _ => [], 0, ⟨by omega, none, ?_⟩, ?_⟩
              · (repeat' ((conv => whnf); (first | ((first | with_reducible refine spl (fun hc => ?_) (fun hc => ?_) | with_reducible refine spl' (fun hc => ?_) (fun hc => ?_)) <;> try (exfalso; omega)) | with_reducible refine imp_intro (fun hc => ?_) | refine vcq (k := ?_) | refine dr 8 (k := ?_) | refine dr 9 (k := ?_) | refine dr 815070906080507040603050204151413132009 (k := ?_)))); all_goals (try conv => whnf); all_goals (try with_reducible exact trivial)
              · intro j hj
                have hj : j ≤ b.N.toNat := hj
                (repeat' ((conv => whnf); (first | ((first | with_reducible refine spl (fun hc => ?_) (fun hc => ?_) | with_reducible refine spl' (fun hc => ?_) (fun hc => ?_)) <;> try (exfalso; omega)) | with_reducible refine imp_intro (fun hc => ?_) | refine vcq (k := ?_) | refine dr 8 (k := ?_) | refine dr 9 (k := ?_) | refine dr 815070906080507040603050204151413132009 (k := ?_)))); all_goals (try conv => whnf); all_goals (try with_reducible exact trivial)
                · exact absurd (g.med _) hc
                · refine ⟨j + 1, ⟨by omega, by dsimp only; omega⟩, none, ?_⟩
                  (repeat' ((conv => whnf); (first | ((first | with_reducible refine spl (fun hc => ?_) (fun hc => ?_) | with_reducible refine spl' (fun hc => ?_) (fun hc => ?_)) <;> try (exfalso; omega)) | with_reducible refine imp_intro (fun hc => ?_) | refine vcq (k := ?_) | refine dr 8 (k := ?_) | refine dr 9 (k := ?_) | refine dr 815070906080507040603050204151413132009 (k := ?_)))); all_goals (try conv => whnf); all_goals (try with_reducible exact trivial)
                · refine callee_fo works13 rfl ?_
                  rintro _ rfl
                  (repeat' ((conv => whnf); (first | ((first | with_reducible refine spl (fun hc => ?_) (fun hc => ?_) | with_reducible refine spl' (fun hc => ?_) (fun hc => ?_)) <;> try (exfalso; omega)) | with_reducible refine imp_intro (fun hc => ?_) | refine vcq (k := ?_) | refine dr 8 (k := ?_) | refine dr 9 (k := ?_) | refine dr 815070906080507040603050204151413132009 (k := ?_)))); all_goals (try conv => whnf); all_goals (try with_reducible exact trivial)
                  refine ⟨_, rfl, ?_⟩
                  (repeat' ((conv => whnf); (first | ((first | with_reducible refine spl (fun hc => ?_) (fun hc => ?_) | with_reducible refine spl' (fun hc => ?_) (fun hc => ?_)) <;> try (exfalso; omega)) | with_reducible refine imp_intro (fun hc => ?_) | refine vcq (k := ?_) | refine dr 8 (k := ?_) | refine dr 9 (k := ?_) | refine dr 815070906080507040603050204151413132009 (k := ?_)))); all_goals (try conv => whnf); all_goals (try with_reducible exact trivial)
    · (repeat' ((conv => whnf); (first | ((first | with_reducible refine spl (fun hc => ?_) (fun hc => ?_) | with_reducible refine spl' (fun hc => ?_) (fun hc => ?_)) <;> try (exfalso; omega)) | with_reducible refine imp_intro (fun hc => ?_) | refine vcq (k := ?_) | refine dr 8 (k := ?_) | refine dr 9 (k := ?_) | refine dr 815070906080507040603050204151413132009 (k := ?_)))); all_goals (try conv => whnf); all_goals (try with_reducible exact trivial)
      · refine callee_fo works13 rfl ?_
        rintro _ rfl
        (repeat' ((conv => whnf); (first | ((first | with_reducible refine spl (fun hc => ?_) (fun hc => ?_) | with_reducible refine spl' (fun hc => ?_) (fun hc => ?_)) <;> try (exfalso; omega)) | with_reducible refine imp_intro (fun hc => ?_) | refine vcq (k := ?_) | refine dr 8 (k := ?_) | refine dr 9 (k := ?_) | refine dr 815070906080507040603050204151413132009 (k := ?_)))); all_goals (try conv => whnf); all_goals (try with_reducible exact trivial)
        refine ⟨_, rfl, ?_⟩
        (repeat' ((conv => whnf); (first | ((first | with_reducible refine spl (fun hc => ?_) (fun hc => ?_) | with_reducible refine spl' (fun hc => ?_) (fun hc => ?_)) <;> try (exfalso; omega)) | with_reducible refine imp_intro (fun hc => ?_) | refine vcq (k := ?_) | refine dr 8 (k := ?_) | refine dr 9 (k := ?_) | refine dr 815070906080507040603050204151413132009 (k := ?_)))); all_goals (try conv => whnf); all_goals (try with_reducible exact trivial)

end Go.Proofs


namespace Go.Proofs
open Go Go.Sx
set_option maxRecDepth 100000
set_option maxHeartbeats 40000000
-- SxAid2

theorem again6 (b : Bands) (l : List (Int × Int)) (hl : l.length ≤ 9223372036854775807) (n : Int) : PureC Try.prog 6 false [b.v, .sl 2 l.length (rowOf wC (0, 0) l), .int .i64 n] (· = .prop True inferInstance) := by
  refine (again6A b l hl n).2 fun i hz hl60 => ?_
  obtain ⟨hb, h1, h2⟩ := chk_ok hz
  obtain ⟨o1, o2⟩ := run_ok hb h2.inB
  have hlen := o1.len
  have hC := hb.C
  have hnc : ((ded l).length : Int) ≤ b.C → NoClean (St.run b l) (ded l) := fun h => noClean hb l St.begin [] (begin_ok hb) h2.inB h ⟨rfl, rfl, rfl, fun _ => rfl, rfl, fun _ => Iff.rfl⟩
  refine ⟨Nat × List (Int × Int), fun q => q.1 ≤ l.length ∧ q.2 = ded (l.take q.1), fun q => l.length - q.1, fun q => [(13, .int .i64 (q.1 : Nat)), (12, .osl 6 q.2.length), (34, .any), (37, .any)], fun _ => [], fun q => [.row 42 2 q.2.length (rowOf wC (0, 0) q.2) true], (0, []), ⟨⟨by dsimp only; omega, rfl⟩, some [some 0, some 1, some 2, some 3, some 4, some 5, none], ?_⟩, ?_⟩
  · (repeat' ((conv => whnf); (first | ((first | with_reducible refine spl (fun hc => ?_) (fun hc => ?_) | with_reducible refine spl' (fun hc => ?_) (fun hc => ?_)) <;> try (exfalso; omega)) | with_reducible refine imp_intro (fun hc => ?_) | refine vcq (k := ?_) | refine dr 8 (k := ?_) | refine dr 9 (k := ?_)))); all_goals (try conv => whnf); all_goals (try with_reducible exact trivial)
  · rintro ⟨i, a⟩ ⟨hi, ha⟩
    dsimp only at hi ha
    have hti : (i : Int).toNat = i := Int.toNat_natCast i
    have hdl := ded_le (l.take i)
    rw [List.length_take, ← ha] at hdl
    (repeat' ((conv => whnf); (first | ((first | with_reducible refine spl (fun hc => ?_) (fun hc => ?_) | with_reducible refine spl' (fun hc => ?_) (fun hc => ?_)) <;> try (exfalso; omega)) | with_reducible refine imp_intro (fun hc => ?_) | refine vcq (k := ?_) | refine dr 8 (k := ?_) | refine dr 9 (k := ?_)))); all_goals (try conv => whnf); all_goals (try with_reducible exact trivial)
    · have hi1 : i < l.length := by dsimp only at hc; omega
      have hdt := ded_take hi1
      rw [← ha] at hdt
      refine callee_view (find19 a (by omega) (l.getD (i : Int).toNat (0, 0)).1) ?_
      (repeat' ((conv => whnf); (first | ((first | with_reducible refine spl (fun hc => ?_) (fun hc => ?_) | with_reducible refine spl' (fun hc => ?_) (fun hc => ?_)) <;> try (exfalso; omega)) | with_reducible refine imp_intro (fun hc => ?_) | refine vcq (k := ?_) | refine dr 8 (k := ?_) | refine dr 9 (k := ?_)))); all_goals (try conv => whnf); all_goals (try with_reducible exact trivial)
      rintro _ rfl
      (repeat' ((conv => whnf); (first | ((first | with_reducible refine spl (fun hc => ?_) (fun hc => ?_) | with_reducible refine spl' (fun hc => ?_) (fun hc => ?_)) <;> try (exfalso; omega)) | with_reducible refine imp_intro (fun hc => ?_) | refine vcq (k := ?_) | refine dr 8 (k := ?_) | refine dr 9 (k := ?_)))); all_goals (try conv => whnf); all_goals (try with_reducible exact trivial)
      · have hfd : findW a (l.getD i (0, 0)).1 < 0 := by rw [← hti]; assumption
        unfold dstep at hdt
        rw [if_pos hfd] at hdt
        refine ⟨(i + 1, a ++ [l.getD (i : Int).toNat (0, 0)]), ⟨⟨by dsimp only; omega, by dsimp only; rw [hdt, hti]⟩, by dsimp only; omega⟩, some [some 0, some 1, some 2, some 3, some 4, some 5, some 8], ?_⟩
        (repeat' ((conv => whnf); (first | ((first | with_reducible refine spl (fun hc => ?_) (fun hc => ?_) | with_reducible refine spl' (fun hc => ?_) (fun hc => ?_)) <;> try (exfalso; omega)) | with_reducible refine imp_intro (fun hc => ?_) | refine vcq (k := ?_) | refine dr 8 (k := ?_) | refine dr 9 (k := ?_)))); all_goals (try conv => whnf); all_goals (try with_reducible exact trivial)
        refine ⟨by simp, ?_⟩
        (repeat' ((conv => whnf); (first | ((first | with_reducible refine spl (fun hc => ?_) (fun hc => ?_) | with_reducible refine spl' (fun hc => ?_) (fun hc => ?_)) <;> try (exfalso; omega)) | with_reducible refine imp_intro (fun hc => ?_) | refine vcq (k := ?_) | refine dr 8 (k := ?_) | refine dr 9 (k := ?_)))); all_goals (try conv => whnf); all_goals (try with_reducible exact trivial)
        refine ⟨by simp, rowOf_snoc (c := wC) (a := l.getD (i : Int).toNat (0, 0)) (l := a) rfl (fun _ _ => rfl), ?_⟩
        (repeat' ((conv => whnf); (first | ((first | with_reducible refine spl (fun hc => ?_) (fun hc => ?_) | with_reducible refine spl' (fun hc => ?_) (fun hc => ?_)) <;> try (exfalso; omega)) | with_reducible refine imp_intro (fun hc => ?_) | refine vcq (k := ?_) | refine dr 8 (k := ?_) | refine dr 9 (k := ?_)))); all_goals (try conv => whnf); all_goals (try with_reducible exact trivial)
      · have hfd : ¬ findW a (l.getD i (0, 0)).1 < 0 := by rw [← hti]; assumption
        unfold dstep at hdt
        rw [if_neg hfd] at hdt
        refine ⟨(i + 1, a), ⟨⟨by dsimp only; omega, by dsimp only; rw [hdt]⟩, by dsimp only; omega⟩, some [some 0, some 1, some 2, some 3, some 4, some 5, some 6], ?_⟩
        (repeat' ((conv => whnf); (first | ((first | with_reducible refine spl (fun hc => ?_) (fun hc => ?_) | with_reducible refine spl' (fun hc => ?_) (fun hc => ?_)) <;> try (exfalso; omega)) | with_reducible refine imp_intro (fun hc => ?_) | refine vcq (k := ?_) | refine dr 8 (k := ?_) | refine dr 9 (k := ?_)))); all_goals (try conv => whnf); all_goals (try with_reducible exact trivial)
    · refine callee_fo works13 rfl ?_
      rintro _ rfl
      (repeat' ((conv => whnf); (first | ((first | with_reducible refine spl (fun hc => ?_) (fun hc => ?_) | with_reducible refine spl' (fun hc => ?_) (fun hc => ?_)) <;> try (exfalso; omega)) | with_reducible refine imp_intro (fun hc => ?_) | refine vcq (k := ?_) | refine dr 8 (k := ?_) | refine dr 9 (k := ?_)))); all_goals (try conv => whnf); all_goals (try with_reducible exact trivial)
      refine ⟨_, rfl, ?_⟩
      (repeat' ((conv => whnf); (first | ((first | with_reducible refine spl (fun hc => ?_) (fun hc => ?_) | with_reducible refine spl' (fun hc => ?_) (fun hc => ?_)) <;> try (exfalso; omega)) | with_reducible refine imp_intro (fun hc => ?_) | refine vcq (k := ?_) | refine dr 8 (k := ?_) | refine dr 9 (k := ?_)))); all_goals (try conv => whnf); all_goals (try with_reducible exact trivial)
    · exfalso
      have hil : i = l.length := by omega
      have h5 : ¬ b.C < (a.length : Int) := by assumption
      have h6 : (((St.run b l).cost ≠ 0 ∨ (St.run b l).cleaned ≠ 0) ∨ (St.run b l).refreshed ≠ 0) ∨ ((St.run b l).cch.length : Int) ≠ a.length := hc
      clear hc
      rw [hil, List.take_length] at ha
      subst ha
      have g := hnc (by omega)
      have g1 := g.cost
      have g2 := g.cleaned
      have g3 := g.refreshed
      have g4 := g.len
      omega
    · have hil : i = l.length := by omega
      have h5 : ¬ b.C < (a.length : Int) := by assumption
      rw [hil, List.take_length] at ha
      have hnl : ((ded l).length : Int) ≤ b.C := by rw [← ha]; omega
      have g : NoClean (St.run b l) (ded l) := hnc hnl
      have hN := (N_bounds hb).2.1
      refine ⟨Nat, fun j => j ≤ b.N.toNat, fun j => b.N.toNat - j, fun j => [(14, .int .i64 (j : Nat)), (100, .any), (105, .any), (110, .any), (113, .any)], fun _ => [], fun _ => [], 0, ⟨by omega, none, ?_⟩, ?_⟩
      · (repeat' ((conv => whnf); (first | ((first | with_reducible refine spl (fun hc => ?_) (fun hc => ?_) | with_reducible refine spl' (fun hc => ?_) (fun hc => ?_)) <;> try (exfalso; omega)) | with_reducible refine imp_intro (fun hc => ?_) | refine vcq (k := ?_) | refine dr 8 (k := ?_) | refine dr 9 (k := ?_)))); all_goals (try conv => whnf); all_goals (try with_reducible exact trivial)
      · intro j hj
        have hj : j ≤ b.N.toNat := hj
        (repeat' ((conv => whnf); (first | ((first | with_reducible refine spl (fun hc => ?_) (fun hc => ?_) | with_reducible refine spl' (fun hc => ?_) (fun hc => ?_)) <;> try (exfalso; omega)) | with_reducible refine imp_intro (fun hc => ?_) | refine vcq (k := ?_) | refine dr 8 (k := ?_) | refine dr 9 (k := ?_)))); all_goals (try conv => whnf); all_goals (try with_reducible exact trivial)
        · exact absurd (g.med _) hc
        · refine ⟨j + 1, ⟨by omega, by dsimp only; omega⟩, none, ?_⟩
          (repeat' ((conv => whnf); (first | ((first | with_reducible refine spl (fun hc => ?_) (fun hc => ?_) | with_reducible refine spl' (fun hc => ?_) (fun hc => ?_)) <;> try (exfalso; omega)) | with_reducible refine imp_intro (fun hc => ?_) | refine vcq (k := ?_) | refine dr 8 (k := ?_) | refine dr 9 (k := ?_)))); all_goals (try conv => whnf); all_goals (try with_reducible exact trivial)
        · refine callee_fo works13 rfl ?_
          rintro _ rfl
          (repeat' ((conv => whnf); (first | ((first | with_reducible refine spl (fun hc => ?_) (fun hc => ?_) | with_reducible refine spl' (fun hc => ?_) (fun hc => ?_)) <;> try (exfalso; omega)) | with_reducible refine imp_intro (fun hc => ?_) | refine vcq (k := ?_) | refine dr 8 (k := ?_) | refine dr 9 (k := ?_)))); all_goals (try conv => whnf); all_goals (try with_reducible exact trivial)
          refine ⟨_, rfl, ?_⟩
          (repeat' ((conv => whnf); (first | ((first | with_reducible refine spl (fun hc => ?_) (fun hc => ?_) | with_reducible refine spl' (fun hc => ?_) (fun hc => ?_)) <;> try (exfalso; omega)) | with_reducible refine imp_intro (fun hc => ?_) | refine vcq (k := ?_) | refine dr 8 (k := ?_) | refine dr 9 (k := ?_)))); all_goals (try conv => whnf); all_goals (try with_reducible exact trivial)
end Go.Proofs

