/- Own work: texts of the proof of a law (Miss, CaC10, CaC11, CaL4, CaR6x, CaR7, CaR8). No condition. -/
import Derived.Test.YtmjaflgakiembaaBase20
namespace Go.Sx
open Go
variable {P : Program} {E : Env}
theorem ncall_intro {g : FuncId} {args : List V} {v : V} {ob : O} {F : V → O → Prop} {G : Prop} (h : NewC P g args fun r H => r = v ∧ H = [ob]) (hfo : foL args = true) (hf : F v ob) : G ∨ (∃ v ob, NCall P g args v ob ∧ F v ob) := by
  refine .inr ⟨v, ob, ?_, hf⟩
  unfold NCall
  exact ⟨hfo, h⟩
end Go.Sx
namespace Go.Proofs
open Go Go.Sx
set_option maxRecDepth 100000
set_option maxHeartbeats 1000000
theorem from_rch {x : Cache} {s : PS} {k : Nat} {D : List (Int × Int)} (h : Rch x k s D) : ∀ m, k + m ≤ x.l.length → Rch x (k + m) (PS.from x.l s k m) D
  | 0, _ => h
  | m + 1, hm => by
    have h1 := from_rch h m (by omega)
    exact h1.order (by omega)
theorem take_snoc {D : List (Int × Int)} {j : Nat} (hj : j < D.length) : D.take (j + 1) = D.take j ++ [D.getD j (0, 0)] := by
  rw [List.take_succ_eq_append_getElem hj]
  congr 2
  simp [List.getD_eq_getElem?_getD, hj]
theorem playD_rch {x : Cache} {D : List (Int × Int)} : ∀ (j : Nat) (s : PS) (k : Nat), j ≤ D.length → PS.playD x D j = some (s, k) → Rch x k s (D.take j)
  | 0, s, k, _, h => by
    simp only [PS.playD, Option.some.injEq, Prod.mk.injEq] at h
    obtain ⟨rfl, rfl⟩ := h
    exact .begin
  | j + 1, s, k, hj, h => by
    simp only [PS.playD] at h
    split at h
    · cases h
    · rename_i s0 k0 h0
      have h1 := playD_rch j s0 k0 (by omega) h0
      split at h
      · rename_i hc
        simp only [Option.some.injEq, Prod.mk.injEq] at h
        obtain ⟨rfl, rfl⟩ := h
        obtain ⟨⟨c1, c2⟩, ⟨c3, c4⟩, c5⟩ := hc
        have h2 := from_rch h1 ((D.getD j (0, 0)).1.toNat - k0) (by omega)
        rw [show k0 + ((D.getD j (0, 0)).1.toNat - k0) = (D.getD j (0, 0)).1.toNat by omega] at h2
        have h3 := h2.drain (b := (D.getD j (0, 0)).2.toNat) (by omega) c5
        rw [take_snoc (by omega)]
        have e : D.getD j (0, 0) = (((D.getD j (0, 0)).1.toNat : Int), ((D.getD j (0, 0)).2.toNat : Int)) := by
          refine Prod.ext ?_ ?_
          · show _ = ((D.getD j (0, 0)).1.toNat : Int); omega
          · show _ = ((D.getD j (0, 0)).2.toNat : Int); omega
        rw [← e] at h3
        exact h3
      · cases h
theorem play_pos {x : Cache} (hx : x.Ok) {D : List (Int × Int)} {torn : Bool} {s : PS} {k : Nat} (hb : ¬ badPl x D torn) (h : PS.playD x D D.length = some (s, k)) : PosI x (PS.endP x D torn s k) := by
  have h1 := playD_rch D.length s k (Nat.le_refl _) h
  have hk := (PS.playD_size x hx.len D D.length s k h).1
  unfold PS.endP
  by_cases ht : torn = true
  · rw [if_pos ht]
    have h2 : D.length ≠ 0 ∧ (D.getD (D.length - 1) (0, 0)).1 = x.l.length := by
      constructor
      · intro g; exact hb (.inr ⟨ht, .inl g⟩)
      · exact Classical.byContradiction fun g => hb (.inr ⟨ht, .inr g⟩)
    obtain ⟨j, hj⟩ : ∃ j, D.length = j + 1 := ⟨D.length - 1, by omega⟩
    rw [hj] at h
    simp only [PS.playD] at h
    split at h
    · cases h
    · rename_i s0 k0 h0
      split at h
      · rename_i hc
        simp only [Option.some.injEq, Prod.mk.injEq] at h
        obtain ⟨rfl, rfl⟩ := h
        obtain ⟨⟨c1, c2⟩, ⟨c3, c4⟩, c5⟩ := hc
        have hjj : D.length - 1 = j := by omega
        rw [hjj] at h2 ⊢
        have h3 := from_rch (playD_rch j s0 k0 (by omega) h0) ((D.getD j (0, 0)).1.toNat - k0) (by omega)
        have e1 : k0 + ((D.getD j (0, 0)).1.toNat - k0) = x.l.length := by omega
        rw [e1] at h3
        rw [show x.l.length - (D.getD j (0, 0)).1.toNat = 0 by omega]
        show PosI x (((PS.from x.l s0 k0 _).drain _).M.set _ _)
        generalize PS.from x.l s0 k0 ((D.getD j (0, 0)).1.toNat - k0) = s1 at *
        obtain ⟨n, hn⟩ := drain_M c5
        rw [hn, C6.set_set _ (by have := hx.n; omega)]
        exact ⟨⟨⟨s1.drain (D.getD j (0, 0)).2.toNat, D.take j ++ [((x.l.length : Int), ((D.getD j (0, 0)).2.toNat : Int))]⟩, s1.M.set (D.getD j (0, 0)).2.toNat (-2), true⟩, .inr ⟨rfl, s1, D.take j, (D.getD j (0, 0)).2.toNat, h3, by omega, c5, rfl, rfl⟩, rfl⟩
      · cases h
  · rw [if_neg ht]
    have h3 := from_rch h1 (x.l.length - k) (by omega)
    rw [show k + (x.l.length - k) = x.l.length by omega] at h3
    exact ⟨⟨⟨PS.from x.l s k (x.l.length - k), _⟩, _, false⟩, .inl ⟨rfl, h3, rfl⟩, rfl⟩
theorem endP_torn {x : Cache} (hx : x.Ok) {D : List (Int × Int)} {torn : Bool} {s : PS} {k : Nat} (hb : ¬ badPl x D torn) (h : PS.playD x D D.length = some (s, k)) : (∃ b, b < 6 ∧ (PS.endP x D torn s k).get b = -2) ↔ torn = true := by
  constructor
  · rintro ⟨b, hb6, h2⟩
    refine Classical.byContradiction fun ht => ?_
    unfold PS.endP at h2
    rw [if_neg ht] at h2
    have h1 := playD_rch D.length s k (Nat.le_refl _) h
    have hk := (PS.playD_size x hx.len D D.length s k h).1
    have h3 := from_rch h1 (x.l.length - k) (by omega)
    obtain ⟨u, g1, g2⟩ := rch_u hx h3
    rw [g2, tidy_M] at h2
    have := ((g1.inv hx).inv.med b hb6).ge
    omega
  · intro ht
    have hp : D.length ≠ 0 := fun g => hb (.inr ⟨ht, .inl g⟩)
    obtain ⟨h1, h2⟩ := PS.playD_blk h (by omega)
    have hn := hx.n
    refine ⟨(D.getD (D.length - 1) (0, 0)).2.toNat, by omega, ?_⟩
    unfold PS.endP
    rw [if_pos ht, C6.get_set (by omega) (by omega), if_pos rfl]
end Go.Proofs

namespace Go.Proofs
open Go Go.Sx
set_option maxRecDepth 100000
set_option maxHeartbeats 4000000
theorem mul110 (n : Nat) (hn : n ≤ 6) : PureC Try.prog 110 false [.int .u64 1, .int .u64 n] (· = .tup [.int .u64 0, .int .u64 n]) := by
  have h : n = 0 ∨ n = 1 ∨ n = 2 ∨ n = 3 ∨ n = 4 ∨ n = 5 ∨ n = 6 := by omega
  rcases h with rfl | rfl | rfl | rfl | rfl | rfl | rfl
  all_goals
    refine pureC_of_exec Try.E_ok Try.func110 rfl (by kernel_rfl) ?_
    (repeat' ((conv => whnf); (first | (with_reducible refine spl (fun hc => ?_) fun hc => ?_) <;> try (exfalso; omega) | with_reducible refine iJ fun hc => ?_ | refine vcq (k := ?_) | refine dr 2007 (k := ?_)))); all_goals ((try conv => whnf); try with_reducible exact trivial)
    repeat (refine And.intro (by first | decide +kernel | (constructor <;> decide +kernel)) ?_; ((repeat' ((conv => whnf); (first | (with_reducible refine spl (fun hc => ?_) fun hc => ?_) <;> try (exfalso; omega) | with_reducible refine iJ fun hc => ?_ | refine vcq (k := ?_) | refine dr 2007 (k := ?_)))); all_goals ((try conv => whnf); try with_reducible exact trivial)))
    refine ⟨_, rfl, ?_⟩
    (repeat' ((conv => whnf); (first | (with_reducible refine spl (fun hc => ?_) fun hc => ?_) <;> try (exfalso; omega) | with_reducible refine iJ fun hc => ?_ | refine vcq (k := ?_) | refine dr 2007 (k := ?_)))); all_goals ((try conv => whnf); try with_reducible exact trivial)
theorem mul96 (n : Nat) (hn : n ≤ 6) : PureC Try.prog 96 false [.int .u64 1, .int .u64 n] (· = .tup [.int .u64 0, .int .u64 n]) := by
  refine pureC_of_exec Try.E_ok Try.func96 rfl (by kernel_rfl) ?_
  (repeat' ((conv => whnf); (first | (with_reducible refine spl (fun hc => ?_) fun hc => ?_) <;> try (exfalso; omega) | with_reducible refine iJ fun hc => ?_ | refine vcq (k := ?_) | refine dr 2007 (k := ?_)))); all_goals ((try conv => whnf); try with_reducible exact trivial); (repeat' ((first | (refine callee_fo (mul110 n hn) rfl ?_; rintro _ rfl) | (refine pcall_intro (mul110 n hn) rfl ?_) | (refine pcall_soft (fun _ => mul110 n hn) rfl ?_)); (repeat' ((conv => whnf); (first | (with_reducible refine spl (fun hc => ?_) fun hc => ?_) <;> try (exfalso; omega) | with_reducible refine iJ fun hc => ?_ | refine vcq (k := ?_) | refine dr 2007 (k := ?_)))); all_goals ((try conv => whnf); try with_reducible exact trivial))); (all_goals (try (refine ⟨_, rfl, ?_⟩; (repeat' ((conv => whnf); (first | (with_reducible refine spl (fun hc => ?_) fun hc => ?_) <;> try (exfalso; omega) | with_reducible refine iJ fun hc => ?_ | refine vcq (k := ?_) | refine dr 2007 (k := ?_)))); all_goals ((try conv => whnf); try with_reducible exact trivial))))
theorem repeat84 (n : Nat) (hn : 1 ≤ n ∧ n ≤ 6) : Sx.Callee Try.prog 84 [.osl 0 1, .int .i64 n] [.row 3 1 1 (fun _ => [.int .i64 (-1)]) false] (fun v H => v = .osl 1 n ∧ H = [.row 3 1 1 (fun _ => [.int .i64 (-1)]) false, .row 3 1 n (fun _ => [.int .i64 (-1)]) false]) := by
  refine callee_ent Try.E_ok Try.func84 rfl (by kernel_rfl) ?_
  (repeat' ((conv => whnf); (first | (with_reducible refine spl (fun hc => ?_) fun hc => ?_) <;> try (exfalso; omega) | with_reducible refine iJ fun hc => ?_ | refine vcq (k := ?_) | refine dr 2007 (k := ?_)))); all_goals ((try conv => whnf); try with_reducible exact trivial)
  refine And.intro (by constructor <;> decide) ?_
  (repeat' ((conv => whnf); (first | (with_reducible refine spl (fun hc => ?_) fun hc => ?_) <;> try (exfalso; omega) | with_reducible refine iJ fun hc => ?_ | refine vcq (k := ?_) | refine dr 2007 (k := ?_)))); all_goals ((try conv => whnf); try with_reducible exact trivial)
  refine And.intro ⟨show (0:Int) ≤ (n:Int) by omega, show (n:Int) ≤ 18446744073709551615 by omega⟩ ?_
  (repeat' ((conv => whnf); (first | (with_reducible refine spl (fun hc => ?_) fun hc => ?_) <;> try (exfalso; omega) | with_reducible refine iJ fun hc => ?_ | refine vcq (k := ?_) | refine dr 2007 (k := ?_)))); all_goals ((try conv => whnf); try with_reducible exact trivial)
  refine callee_fo (mul96 n hn.2) rfl ?_
  rintro _ rfl
  (repeat' ((conv => whnf); (first | (with_reducible refine spl (fun hc => ?_) fun hc => ?_) <;> try (exfalso; omega) | with_reducible refine iJ fun hc => ?_ | refine vcq (k := ?_) | refine dr 2007 (k := ?_)))); all_goals ((try conv => whnf); try with_reducible exact trivial)
  refine ⟨Nat, fun m => 1 ≤ m ∧ m ≤ n, fun m => n - m, fun m => [(8, .int .i64 m)], fun m => [(1, .row 3 1 n (fun j => if j < m then [.int .i64 (-1)] else [.int .i64 0]) false)], fun _ => [], 1, ⟨⟨by omega, by omega⟩, none, ?_⟩, ?_⟩
  · (repeat' ((conv => whnf); (first | (with_reducible refine spl (fun hc => ?_) fun hc => ?_) <;> try (exfalso; omega) | with_reducible refine iJ fun hc => ?_ | refine vcq (k := ?_) | refine dr 2007 (k := ?_)))); all_goals ((try conv => whnf); try with_reducible exact trivial)
    refine congrArg (fun f => [O.row 3 1 1 (fun _ => [.int .i64 (-1)]) false, O.row 3 1 n f false]) (funext fun j => ?_)
    by_cases h : j < 1
    · exact (if_pos ⟨Nat.zero_le _, show j < 0 + min 1 n by omega⟩).trans (if_pos h).symm
    · exact (if_neg (fun hh => h (by have := show j < 0 + min 1 n from hh.2; omega))).trans (if_neg h).symm
  · intro m hm
    have hm : 1 ≤ m ∧ m ≤ n := hm
    (repeat' ((conv => whnf); (first | (with_reducible refine spl (fun hc => ?_) fun hc => ?_) <;> try (exfalso; omega) | with_reducible refine iJ fun hc => ?_ | refine vcq (k := ?_) | refine dr 2007 (k := ?_)))); all_goals ((try conv => whnf); try with_reducible exact trivial)
    · refine ⟨m + min (n - m) m, ⟨⟨by omega, by omega⟩, by dsimp only; omega⟩, some [some 0, some 1], ?_⟩
      (repeat' ((conv => whnf); (first | (with_reducible refine spl (fun hc => ?_) fun hc => ?_) <;> try (exfalso; omega) | with_reducible refine iJ fun hc => ?_ | refine vcq (k := ?_) | refine dr 2007 (k := ?_)))); all_goals ((try conv => whnf); try with_reducible exact trivial)
      refine ⟨fun i hi => ?_, ?_⟩
      · dsimp only
        repeat' split
        all_goals first | rfl | (exfalso; omega)
      · (repeat' ((conv => whnf); (first | (with_reducible refine spl (fun hc => ?_) fun hc => ?_) <;> try (exfalso; omega) | with_reducible refine iJ fun hc => ?_ | refine vcq (k := ?_) | refine dr 2007 (k := ?_)))); all_goals ((try conv => whnf); try with_reducible exact trivial)
    · refine ⟨_, _, ⟨rfl, rfl⟩, some [some 0, some 1], ?_⟩
      (repeat' ((conv => whnf); (first | (with_reducible refine spl (fun hc => ?_) fun hc => ?_) <;> try (exfalso; omega) | with_reducible refine iJ fun hc => ?_ | refine vcq (k := ?_) | refine dr 2007 (k := ?_)))); all_goals ((try conv => whnf); try with_reducible exact trivial)
      refine ⟨fun i hi => ?_, ?_⟩
      · dsimp only
        repeat' split
        all_goals first | rfl | (exfalso; omega)
      · (repeat' ((conv => whnf); (first | (with_reducible refine spl (fun hc => ?_) fun hc => ?_) <;> try (exfalso; omega) | with_reducible refine iJ fun hc => ?_ | refine vcq (k := ?_) | refine dr 2007 (k := ?_)))); all_goals ((try conv => whnf); try with_reducible exact trivial)
end Go.Proofs


namespace Go.Proofs
open Go Go.Sx
set_option maxRecDepth 100000
set_option maxHeartbeats 4000000
def newP (l : List (Int × Int)) : Nat → Nat → Int
  | 0, _ => -1
  | k + 1, b => if ((l.getD k (0, 0)).1 = 1 ∨ (l.getD k (0, 0)).1 = 2) ∧ (l.getD k (0, 0)).2.toNat = b then k else newP l k b
theorem newP_succ (l : List (Int × Int)) (k b : Nat) : newP l (k + 1) b = if ((l.getD k (0, 0)).1 = 1 ∨ (l.getD k (0, 0)).1 = 2) ∧ (l.getD k (0, 0)).2.toNat = b then (k : Int) else newP l k b := rfl
theorem newest63 (x : Cache) (hx : x.Ok) : NewC Try.prog 63 [x.v] (fun r H => r = .osl 0 x.n.toNat ∧ H = [.row 3 1 x.n.toNat (fun b => [.int .i64 (newP x.l x.l.length b)]) false]) := by
  obtain ⟨n, hn⟩ : ∃ n : Nat, x.n = n := ⟨x.n.toNat, by have := hx.n; omega⟩
  have hn6 := hx.n
  have hl16 := hx.len
  have hr := repeat84 n (by omega)
  refine newC_ent Try.E_ok Try.func63 rfl (by kernel_rfl) ?_
  rw [show x.v = .agg [.int .i64 n, .sl 2 x.l.length (rowOf oC (0, 0) x.l)] from by unfold Cache.v; rw [hn]]
  rw [hn]
  (repeat' ((conv => whnf); (first | (with_reducible refine spl (fun hc => ?_) fun hc => ?_) <;> try (exfalso; omega) | with_reducible refine iJ fun hc => ?_ | refine vcq (k := ?_) | refine dr 2007 (k := ?_)))); all_goals ((try conv => whnf); try with_reducible exact trivial)
  refine callee_frame [1] hr rfl ?_ ?_
  · (repeat' ((conv => whnf); (first | (with_reducible refine spl (fun hc => ?_) fun hc => ?_) <;> try (exfalso; omega) | with_reducible refine iJ fun hc => ?_ | refine vcq (k := ?_) | refine dr 2007 (k := ?_)))); all_goals ((try conv => whnf); try with_reducible exact trivial)
  · rintro _ _ ⟨rfl, rfl⟩
    (repeat' ((conv => whnf); (first | (with_reducible refine spl (fun hc => ?_) fun hc => ?_) <;> try (exfalso; omega) | with_reducible refine iJ fun hc => ?_ | refine vcq (k := ?_) | refine dr 2007 (k := ?_)))); all_goals ((try conv => whnf); try with_reducible exact trivial)
    refine ⟨Nat, fun k => k ≤ x.l.length, fun k => x.l.length - k, fun k => [(13, .int .i64 k)], fun k => [(2, .row 3 1 n (fun b => [.int .i64 (newP x.l k b)]) false)], fun _ => [], 0, ⟨by omega, none, ?_⟩, ?_⟩
    · (repeat' ((conv => whnf); (first | (with_reducible refine spl (fun hc => ?_) fun hc => ?_) <;> try (exfalso; omega) | with_reducible refine iJ fun hc => ?_ | refine vcq (k := ?_) | refine dr 2007 (k := ?_)))); all_goals ((try conv => whnf); try with_reducible exact trivial)
      rfl
    · intro k hk
      have hk : k ≤ x.l.length := hk
      (repeat' ((conv => whnf); (first | (with_reducible refine spl (fun hc => ?_) fun hc => ?_) <;> try (exfalso; omega) | with_reducible refine iJ fun hc => ?_ | refine vcq (k := ?_) | refine dr 2007 (k := ?_)))); all_goals ((try conv => whnf); try with_reducible exact trivial)
      · have hk1 : k < x.l.length := by omega
        have hq : (x.l.getD (k : Int).toNat (0, 0)).1 = 1 ∨ (x.l.getD (k : Int).toNat (0, 0)).1 = 2 → 0 ≤ (x.l.getD (k : Int).toNat (0, 0)).2 ∧ (x.l.getD (k : Int).toNat (0, 0)).2 < n := by
          have e : x.l.getD (k : Int).toNat (0, 0) = x.l[k] := by simp [List.getD_eq_getElem?_getD, hk1]
          rw [e]
          have h1 := hx.ord x.l[k] (List.getElem_mem hk1)
          unfold Cache.OkO at h1
          omega
        refine callee_fo (puts62 (x.l.getD (k : Int).toNat (0, 0))) rfl ?_
        rintro _ rfl
        (repeat' ((conv => whnf); (first | (with_reducible refine spl (fun hc => ?_) fun hc => ?_) <;> try (exfalso; omega) | with_reducible refine iJ fun hc => ?_ | refine vcq (k := ?_) | refine dr 2007 (k := ?_)))); all_goals ((try conv => whnf); try with_reducible exact trivial)
        · refine ⟨k + 1, ⟨by omega, by dsimp only; omega⟩, some [some 0, some 1, some 2], ?_⟩
          (repeat' ((conv => whnf); (first | (with_reducible refine spl (fun hc => ?_) fun hc => ?_) <;> try (exfalso; omega) | with_reducible refine iJ fun hc => ?_ | refine vcq (k := ?_) | refine dr 2007 (k := ?_)))); all_goals ((try conv => whnf); try with_reducible exact trivial)
          refine ⟨fun i hi => ?_, ?_⟩
          · show spliceP (i = (x.l.getD k (0, 0)).2.toNat) [.int .i64 (newP x.l k i)] 0 [.int .i64 k] = [.int .i64 (newP x.l (k + 1) i)]
            by_cases h : i = (x.l.getD k (0, 0)).2.toNat
            · rw [spliceP_pos h, newP_succ, if_pos ⟨hc, h.symm⟩]
              rfl
            · rw [spliceP_neg h, newP_succ, if_neg (fun hh => h hh.2.symm)]
          · (repeat' ((conv => whnf); (first | (with_reducible refine spl (fun hc => ?_) fun hc => ?_) <;> try (exfalso; omega) | with_reducible refine iJ fun hc => ?_ | refine vcq (k := ?_) | refine dr 2007 (k := ?_)))); all_goals ((try conv => whnf); try with_reducible exact trivial)
        · refine ⟨k + 1, ⟨by omega, by dsimp only; omega⟩, some [some 0, some 1, some 2], ?_⟩
          (repeat' ((conv => whnf); (first | (with_reducible refine spl (fun hc => ?_) fun hc => ?_) <;> try (exfalso; omega) | with_reducible refine iJ fun hc => ?_ | refine vcq (k := ?_) | refine dr 2007 (k := ?_)))); all_goals ((try conv => whnf); try with_reducible exact trivial)
          refine ⟨fun i hi => ?_, ?_⟩
          · show [V.int .i64 (newP x.l k i)] = [.int .i64 (newP x.l (k + 1) i)]
            rw [newP_succ, if_neg (fun hh => hc hh.1)]
          · (repeat' ((conv => whnf); (first | (with_reducible refine spl (fun hc => ?_) fun hc => ?_) <;> try (exfalso; omega) | with_reducible refine iJ fun hc => ?_ | refine vcq (k := ?_) | refine dr 2007 (k := ?_)))); all_goals ((try conv => whnf); try with_reducible exact trivial)
      · obtain rfl : k = x.l.length := by omega
        refine ⟨_, _, ⟨rfl, rfl⟩, some [some 2], ?_⟩
        (repeat' ((conv => whnf); (first | (with_reducible refine spl (fun hc => ?_) fun hc => ?_) <;> try (exfalso; omega) | with_reducible refine iJ fun hc => ?_ | refine vcq (k := ?_) | refine dr 2007 (k := ?_)))); all_goals ((try conv => whnf); try with_reducible exact trivial)
theorem Newest34 (x : Cache) (hl : x.l.length ≤ 1000000) : PureC Try.prog 34 false [x.v] (· = .tup (if x.chk = 0 then [.sl 1 x.n.toNat (fun b => [.int .i64 (newP x.l x.l.length b)]), .int .i64 0] else [.lit (.slice none 0 0), .int .i64 x.chk])) := by
  refine pureC_of_exec Try.E_ok Try.func34 rfl (by kernel_rfl) ?_
  (repeat' ((conv => whnf); (first | (with_reducible refine spl (fun hc => ?_) fun hc => ?_) <;> try (exfalso; omega) | with_reducible refine iJ fun hc => ?_ | refine vcq (k := ?_) | refine dr 2007 (k := ?_)))); all_goals ((try conv => whnf); try with_reducible exact trivial); (repeat' ((first | (refine callee_fo (check36 x hl) rfl ?_; rintro _ rfl) | (refine pcall_intro (check36 x hl) rfl ?_) | (refine pcall_soft (fun _ => check36 x hl) rfl ?_)); (repeat' ((conv => whnf); (first | (with_reducible refine spl (fun hc => ?_) fun hc => ?_) <;> try (exfalso; omega) | with_reducible refine iJ fun hc => ?_ | refine vcq (k := ?_) | refine dr 2007 (k := ?_)))); all_goals ((try conv => whnf); try with_reducible exact trivial))); (all_goals (try (refine ⟨_, rfl, ?_⟩; (repeat' ((conv => whnf); (first | (with_reducible refine spl (fun hc => ?_) fun hc => ?_) <;> try (exfalso; omega) | with_reducible refine iJ fun hc => ?_ | refine vcq (k := ?_) | refine dr 2007 (k := ?_)))); all_goals ((try conv => whnf); try with_reducible exact trivial))))
  · rw [if_neg hc]
    (repeat' ((conv => whnf); (first | (with_reducible refine spl (fun hc => ?_) fun hc => ?_) <;> try (exfalso; omega) | with_reducible refine iJ fun hc => ?_ | refine vcq (k := ?_) | refine dr 2007 (k := ?_)))); all_goals ((try conv => whnf); try with_reducible exact trivial)
  · have hx := Cache.chk_ok (Classical.not_not.1 hc)
    rw [if_pos (Classical.not_not.1 hc)]
    refine callee_new (newest63 x hx) rfl ?_
    rintro _ _ ⟨rfl, rfl⟩
    (repeat' ((conv => whnf); (first | (with_reducible refine spl (fun hc => ?_) fun hc => ?_) <;> try (exfalso; omega) | with_reducible refine iJ fun hc => ?_ | refine vcq (k := ?_) | refine dr 2007 (k := ?_)))); all_goals ((try conv => whnf); try with_reducible exact trivial)
    refine ⟨_, rfl, ?_⟩
    (repeat' ((conv => whnf); (first | (with_reducible refine spl (fun hc => ?_) fun hc => ?_) <;> try (exfalso; omega) | with_reducible refine iJ fun hc => ?_ | refine vcq (k := ?_) | refine dr 2007 (k := ?_)))); all_goals ((try conv => whnf); try with_reducible exact trivial)
end Go.Proofs


namespace Go.Proofs
open Go Go.Sx
set_option maxRecDepth 100000
set_option maxHeartbeats 40000000
theorem play_cases {x : Cache} (hk : x.chk = 0) (D : List (Int × Int)) (torn : Bool) : playV x D torn = [.lit (.slice none 0 0), .int .i64 1] ∨
    ∃ h, PosI x h ∧ ((∃ b, b < 6 ∧ h.get b = -2) ↔ torn = true) ∧ playV x D torn = [.sl 1 x.n.toNat (iF h.get), .int .i64 0] := by
  have hx := Cache.chk_ok hk
  unfold playV
  rw [if_pos hk]
  by_cases hb : badPl x D torn
  · rw [if_pos hb]; exact .inl rfl
  · rw [if_neg hb]
    split
    · exact .inl rfl
    · rename_i s k h
      exact .inr ⟨_, play_pos hx hb h, endP_torn hx hb h, rfl⟩
theorem newest_ok {x : Cache} (hk : x.chk = 0) (hl : x.l.length ≤ 1000000) : PureC Try.prog 34 false [x.v] (· = .tup [.sl 1 x.n.toNat (iF (newP x.l x.l.length)), .int .i64 0]) := by
  have h := Newest34 x hl
  rw [if_pos hk] at h
  exact h
end Go.Proofs


namespace Go.Proofs
open Go Go.Sx
set_option maxRecDepth 100000
set_option maxHeartbeats 40000000
def RS.run (n : Nat) (l : List (Int × Int)) : Nat → RS
  | 0 => RS.begin
  | k + 1 => (RS.run n l k).order n k (l.getD k (0, 0))
theorem Cache.Ok.blkn {x : Cache} (hx : x.Ok) {n : Nat} (hn : x.n = n) {k : Nat} (hk : k < x.l.length) : (x.l.getD k (0, 0)).1 = 1 ∨ (x.l.getD k (0, 0)).1 = 2 → 0 ≤ (x.l.getD k (0, 0)).2 ∧ (x.l.getD k (0, 0)).2 < n := by
  intro g
  have := hx.ord _ (show x.l.getD k (0, 0) ∈ x.l by
    rw [show x.l.getD k (0, 0) = x.l[k] by simp [List.getD_eq_getElem?_getD, hk]]
    exact List.getElem_mem hk)
  unfold Cache.OkO at this
  omega
theorem Sim.run {x : Cache} (hx : x.Ok) {n : Nat} (hn : x.n = n) : ∀ k, k ≤ x.l.length → Sim n (RS.run n x.l k) (runU x.l k)
  | 0, _ => Sim.begin (by have := hx.n; omega)
  | k + 1, hk => by
    have hl : 0 < (runU x.l k).E.length := by rw [((runU_rch x k (by omega)).inv hx).len]; omega
    exact (Sim.run hx hn k (by omega)).order (by have := hx.n; omega) hl (by omega) (hx.blkn hn (by omega))
theorem Sim.bnd {x : Cache} (hx : x.Ok) {n : Nat} (hn : x.n = n) {k : Nat} {r : RS} {u : PS} {D : List (Int × Int)} (hs : Sim n r u) (h2 : RchU x k u D) : 0 ≤ r.W ∧ r.W ≤ k ∧ 0 < r.E.length ∧ r.E.length ≤ k + 1 ∧ 0 ≤ r.entries n ∧ r.entries n ≤ k := by
  have hi := h2.inv hx
  have h3 := cntL_nonneg u.E
  have h1 := hi.tot
  have h4 := hi.len
  have h5 := nb_le x k
  have h6 := hi.D
  have h7 := hs.W
  have h8 := hs.len
  have h9 := hs.entries (by have := hx.n; omega)
  unfold PS.tot at h1
  omega
theorem run_bnd {x : Cache} (hx : x.Ok) {n : Nat} (hn : x.n = n) {k : Nat} (hk : k ≤ x.l.length) : 0 ≤ (RS.run n x.l k).W ∧ (RS.run n x.l k).W ≤ k ∧ 0 < (RS.run n x.l k).E.length ∧ (RS.run n x.l k).E.length ≤ k + 1 ∧ 0 ≤ (RS.run n x.l k).entries n ∧ (RS.run n x.l k).entries n ≤ k :=
  (Sim.run hx hn k hk).bnd hx hn (runU_rch x k hk)
theorem run_ent {x : Cache} (hx : x.Ok) {n : Nat} (hn : x.n = n) {k : Nat} (hk : k ≤ x.l.length) : (RS.run n x.l k).W = (PS.run x.l k).W ∧ (RS.run n x.l k).entries n = (PS.run x.l k).waits := by
  have h := Sim.run hx hn k hk
  have h2 := run_waits hx hk
  rw [h2.1, h2.2, h.entries (by have := hx.n; omega), h.W]
  exact ⟨rfl, rfl⟩
theorem Writes39 (x : Cache) (hk : x.chk = 0) : PureC Try.prog 39 false [x.v] (· = .tup [.int .i64 ((PS.run x.l x.l.length).W + (PS.run x.l x.l.length).waits), .int .i64 0]) := by
  have hx := Cache.chk_ok hk
  have hn6 := hx.n
  have h16 := hx.len
  obtain ⟨n, hn⟩ : ∃ n : Nat, x.n = n := ⟨x.n.toNat, by omega⟩
  refine pureC_of_exec Try.E_ok Try.func39 rfl (by kernel_rfl) ?_
  (repeat' ((conv => whnf); (first | (with_reducible refine spl (fun hc => ?_) fun hc => ?_) <;> try (exfalso; omega) | with_reducible refine iJ fun hc => ?_ | refine vcq (k := ?_) | refine dr 8 (k := ?_) | refine dr 7 (k := ?_)))); all_goals ((try conv => whnf); try with_reducible exact trivial); (repeat' ((first | (refine callee_fo (Check37 x (by omega)) rfl ?_; rintro _ rfl)); (repeat' ((conv => whnf); (first | (with_reducible refine spl (fun hc => ?_) fun hc => ?_) <;> try (exfalso; omega) | with_reducible refine iJ fun hc => ?_ | refine vcq (k := ?_) | refine dr 8 (k := ?_) | refine dr 7 (k := ?_)))); all_goals ((try conv => whnf); try with_reducible exact trivial)))
  refine callee_fo (begin16 x n hn (by omega)) rfl ?_
  rintro _ rfl
  (repeat' ((conv => whnf); (first | (with_reducible refine spl (fun hc => ?_) fun hc => ?_) <;> try (exfalso; omega) | with_reducible refine iJ fun hc => ?_ | refine vcq (k := ?_) | refine dr 8 (k := ?_) | refine dr 7 (k := ?_)))); all_goals ((try conv => whnf); try with_reducible exact trivial)
  refine ⟨Nat, fun i => i ≤ x.l.length, fun i => x.l.length - i, fun i => [(5, .int .i64 (i : Nat))], fun i => [(1, .cells 34 ((RS.run n x.l i).c n))], fun _ => [], 0, ⟨by omega, none, ?_⟩, ?_⟩
  · (repeat' ((conv => whnf); (first | (with_reducible refine spl (fun hc => ?_) fun hc => ?_) <;> try (exfalso; omega) | with_reducible refine iJ fun hc => ?_ | refine vcq (k := ?_) | refine dr 8 (k := ?_) | refine dr 7 (k := ?_)))); all_goals ((try conv => whnf); try with_reducible exact trivial)
    rfl
  · intro i hi
    have hi : i ≤ x.l.length := hi
    have hti : (i : Int).toNat = i := Int.toNat_natCast i
    have hb := run_bnd hx hn hi
    (repeat' ((conv => whnf); (first | (with_reducible refine spl (fun hc => ?_) fun hc => ?_) <;> try (exfalso; omega) | with_reducible refine iJ fun hc => ?_ | refine vcq (k := ?_) | refine dr 8 (k := ?_) | refine dr 7 (k := ?_)))); all_goals ((try conv => whnf); try with_reducible exact trivial)
    · have hi1 : i < x.l.length := by omega
      have ho := hx.blkn hn hi1
      rw [← hti] at ho
      refine pcall_intro (do18 n (by omega) (RS.run n x.l i) (by omega) (by omega) i (x.l.getD (i : Int).toNat (0, 0)) ho) rfl ?_
      (repeat' ((conv => whnf); (first | (with_reducible refine spl (fun hc => ?_) fun hc => ?_) <;> try (exfalso; omega) | with_reducible refine iJ fun hc => ?_ | refine vcq (k := ?_) | refine dr 8 (k := ?_) | refine dr 7 (k := ?_)))); all_goals ((try conv => whnf); try with_reducible exact trivial)
      refine ⟨i + 1, ⟨by omega, by dsimp only; omega⟩, none, ?_⟩
      (repeat' ((conv => whnf); (first | (with_reducible refine spl (fun hc => ?_) fun hc => ?_) <;> try (exfalso; omega) | with_reducible refine iJ fun hc => ?_ | refine vcq (k := ?_) | refine dr 8 (k := ?_) | refine dr 7 (k := ?_)))); all_goals ((try conv => whnf); try with_reducible exact trivial)
      rw [hti]
      rfl
    · have hil : i = x.l.length := by omega
      subst hil
      have he := run_ent hx hn hi
      rw [← he.1, ← he.2]
      refine pcall_intro (entries19 n (by omega) (RS.run n x.l x.l.length) (by omega)) rfl ?_
      (repeat' ((conv => whnf); (first | (with_reducible refine spl (fun hc => ?_) fun hc => ?_) <;> try (exfalso; omega) | with_reducible refine iJ fun hc => ?_ | refine vcq (k := ?_) | refine dr 8 (k := ?_) | refine dr 7 (k := ?_)))); all_goals ((try conv => whnf); try with_reducible exact trivial)
      refine ⟨_, rfl, ?_⟩
      (repeat' ((conv => whnf); (first | (with_reducible refine spl (fun hc => ?_) fun hc => ?_) <;> try (exfalso; omega) | with_reducible refine iJ fun hc => ?_ | refine vcq (k := ?_) | refine dr 8 (k := ?_) | refine dr 7 (k := ?_)))); all_goals ((try conv => whnf); try with_reducible exact trivial)
theorem Charge40 (x : Cache) (hk : x.chk = 0) : PureC Try.prog 40 false [x.v] (· = .tup [.int .i64 (PS.most x.l x.l.length), .int .i64 0]) := by
  have hx := Cache.chk_ok hk
  have hn6 := hx.n
  have h16 := hx.len
  obtain ⟨n, hn⟩ : ∃ n : Nat, x.n = n := ⟨x.n.toNat, by omega⟩
  refine pureC_of_exec Try.E_ok Try.func40 rfl (by kernel_rfl) ?_
  (repeat' ((conv => whnf); (first | (with_reducible refine spl (fun hc => ?_) fun hc => ?_) <;> try (exfalso; omega) | with_reducible refine iJ fun hc => ?_ | refine vcq (k := ?_) | refine dr 8 (k := ?_) | refine dr 7 (k := ?_)))); all_goals ((try conv => whnf); try with_reducible exact trivial); (repeat' ((first | (refine callee_fo (Check37 x (by omega)) rfl ?_; rintro _ rfl)); (repeat' ((conv => whnf); (first | (with_reducible refine spl (fun hc => ?_) fun hc => ?_) <;> try (exfalso; omega) | with_reducible refine iJ fun hc => ?_ | refine vcq (k := ?_) | refine dr 8 (k := ?_) | refine dr 7 (k := ?_)))); all_goals ((try conv => whnf); try with_reducible exact trivial)))
  refine callee_fo (begin16 x n hn (by omega)) rfl ?_
  rintro _ rfl
  (repeat' ((conv => whnf); (first | (with_reducible refine spl (fun hc => ?_) fun hc => ?_) <;> try (exfalso; omega) | with_reducible refine iJ fun hc => ?_ | refine vcq (k := ?_) | refine dr 8 (k := ?_) | refine dr 7 (k := ?_)))); all_goals ((try conv => whnf); try with_reducible exact trivial)
  refine ⟨Nat, fun i => i ≤ x.l.length, fun i => x.l.length - i, fun i => [(6, .int .i64 (i : Nat)), (5, .int .i64 (PS.most x.l i))], fun i => [(1, .cells 34 ((RS.run n x.l i).c n))], fun _ => [], 0, ⟨by omega, none, ?_⟩, ?_⟩
  · (repeat' ((conv => whnf); (first | (with_reducible refine spl (fun hc => ?_) fun hc => ?_) <;> try (exfalso; omega) | with_reducible refine iJ fun hc => ?_ | refine vcq (k := ?_) | refine dr 8 (k := ?_) | refine dr 7 (k := ?_)))); all_goals ((try conv => whnf); try with_reducible exact trivial)
    rfl
  · intro i hi
    have hi : i ≤ x.l.length := hi
    have hti : (i : Int).toNat = i := Int.toNat_natCast i
    have hb := run_bnd hx hn hi
    (repeat' ((conv => whnf); (first | (with_reducible refine spl (fun hc => ?_) fun hc => ?_) <;> try (exfalso; omega) | with_reducible refine iJ fun hc => ?_ | refine vcq (k := ?_) | refine dr 8 (k := ?_) | refine dr 7 (k := ?_)))); all_goals ((try conv => whnf); try with_reducible exact trivial)
    · have hi1 : i < x.l.length := by omega
      have ho := hx.blkn hn hi1
      rw [← hti] at ho
      have hb2 := run_bnd hx hn (show i + 1 ≤ x.l.length by omega)
      have hen := (run_ent hx hn (show i + 1 ≤ x.l.length by omega)).2
      have hmo := PS.most_le x.l i (by omega)
      have hms : PS.most x.l (i + 1) = max (PS.most x.l i) (PS.run x.l (i + 1)).waits := rfl
      have hst : (RS.run n x.l i).order n i (x.l.getD (i : Int).toNat (0, 0)) = RS.run n x.l (i + 1) := by rw [hti]; rfl
      refine pcall_intro (do18 n (by omega) (RS.run n x.l i) (by omega) (by omega) i (x.l.getD (i : Int).toNat (0, 0)) ho) rfl ?_
      (repeat' ((conv => whnf); (first | (with_reducible refine spl (fun hc => ?_) fun hc => ?_) <;> try (exfalso; omega) | with_reducible refine iJ fun hc => ?_ | refine vcq (k := ?_) | refine dr 8 (k := ?_) | refine dr 7 (k := ?_)))); all_goals ((try conv => whnf); try with_reducible exact trivial)
      rw [hst]
      refine callee_fo (entries19 n (by omega) (RS.run n x.l (i + 1)) (by omega)) rfl ?_
      rintro _ rfl
      rw [hen] at *
      (repeat' ((conv => whnf); (first | (with_reducible refine spl (fun hc => ?_) fun hc => ?_) <;> try (exfalso; omega) | with_reducible refine iJ fun hc => ?_ | refine vcq (k := ?_) | refine dr 8 (k := ?_) | refine dr 7 (k := ?_)))); all_goals ((try conv => whnf); try with_reducible exact trivial)
      refine ⟨i + 1, ⟨by omega, by dsimp only; omega⟩, none, ?_⟩
      (repeat' ((conv => whnf); (first | (with_reducible refine spl (fun hc => ?_) fun hc => ?_) <;> try (exfalso; omega) | with_reducible refine iJ fun hc => ?_ | refine vcq (k := ?_) | refine dr 8 (k := ?_) | refine dr 7 (k := ?_)))); all_goals ((try conv => whnf); try with_reducible exact trivial)
      rfl
    · have hil : i = x.l.length := by omega
      subst hil
      refine ⟨_, rfl, ?_⟩
      (repeat' ((conv => whnf); (first | (with_reducible refine spl (fun hc => ?_) fun hc => ?_) <;> try (exfalso; omega) | with_reducible refine iJ fun hc => ?_ | refine vcq (k := ?_) | refine dr 8 (k := ?_) | refine dr 7 (k := ?_)))); all_goals ((try conv => whnf); try with_reducible exact trivial)
theorem Newest38 (x : Cache) (hk : x.chk = 0) : PureC Try.prog 38 false [x.v] (· = .tup [.sl 1 x.n.toNat (fun b => [.int .i64 (newP x.l x.l.length b)]), .int .i64 0]) := by
  have hx := Cache.chk_ok hk
  have hn6 := hx.n
  have h16 := hx.len
  obtain ⟨n, hn⟩ : ∃ n : Nat, x.n = n := ⟨x.n.toNat, by omega⟩
  have hnt : x.n.toNat = n := by omega
  rw [hnt]
  refine pureC_of_exec Try.E_ok Try.func38 rfl (by kernel_rfl) ?_
  (repeat' ((conv => whnf); (first | (with_reducible refine spl (fun hc => ?_) fun hc => ?_) <;> try (exfalso; omega) | with_reducible refine iJ fun hc => ?_ | refine vcq (k := ?_) | refine dr 8 (k := ?_) | refine dr 7 (k := ?_)))); all_goals ((try conv => whnf); try with_reducible exact trivial); (repeat' ((first | (refine callee_fo (Check37 x (by omega)) rfl ?_; rintro _ rfl)); (repeat' ((conv => whnf); (first | (with_reducible refine spl (fun hc => ?_) fun hc => ?_) <;> try (exfalso; omega) | with_reducible refine iJ fun hc => ?_ | refine vcq (k := ?_) | refine dr 8 (k := ?_) | refine dr 7 (k := ?_)))); all_goals ((try conv => whnf); try with_reducible exact trivial)))
  refine callee_new (old45 x n hn (by omega)) rfl ?_
  rintro _ _ ⟨rfl, rfl⟩
  (repeat' ((conv => whnf); (first | (with_reducible refine spl (fun hc => ?_) fun hc => ?_) <;> try (exfalso; omega) | with_reducible refine iJ fun hc => ?_ | refine vcq (k := ?_) | refine dr 8 (k := ?_) | refine dr 7 (k := ?_)))); all_goals ((try conv => whnf); try with_reducible exact trivial)
  refine ⟨Nat, fun k => k ≤ x.l.length, fun k => x.l.length - k, fun k => [(5, .int .i64 k)], fun k => [(1, .row 3 1 n (fun b => [.int .i64 (newP x.l k b)]) true)], fun _ => [], 0, ⟨by omega, none, ?_⟩, ?_⟩
  · (repeat' ((conv => whnf); (first | (with_reducible refine spl (fun hc => ?_) fun hc => ?_) <;> try (exfalso; omega) | with_reducible refine iJ fun hc => ?_ | refine vcq (k := ?_) | refine dr 8 (k := ?_) | refine dr 7 (k := ?_)))); all_goals ((try conv => whnf); try with_reducible exact trivial)
    rfl
  · intro k hk
    have hk : k ≤ x.l.length := hk
    have htk : (k : Int).toNat = k := Int.toNat_natCast k
    have ho : k < x.l.length → (x.l.getD (k : Int).toNat (0, 0)).1 = 1 ∨ (x.l.getD (k : Int).toNat (0, 0)).1 = 2 → 0 ≤ (x.l.getD (k : Int).toNat (0, 0)).2 ∧ (x.l.getD (k : Int).toNat (0, 0)).2 < n := fun g => by rw [htk]; exact hx.blkn hn g
    (repeat' ((conv => whnf); (first | (with_reducible refine spl (fun hc => ?_) fun hc => ?_) <;> try (exfalso; omega) | with_reducible refine iJ fun hc => ?_ | refine vcq (k := ?_) | refine dr 8 (k := ?_) | refine dr 7 (k := ?_)))); all_goals ((try conv => whnf); try with_reducible exact trivial); (repeat' ((first | (refine callee_fo (puts35 _) rfl ?_; rintro _ rfl) | (refine pcall_intro (puts35 _) rfl ?_) | (refine pcall_soft (fun _ => puts35 _) rfl ?_)); (repeat' ((conv => whnf); (first | (with_reducible refine spl (fun hc => ?_) fun hc => ?_) <;> try (exfalso; omega) | with_reducible refine iJ fun hc => ?_ | refine vcq (k := ?_) | refine dr 8 (k := ?_) | refine dr 7 (k := ?_)))); all_goals ((try conv => whnf); try with_reducible exact trivial)))
    · have hb := ho (by omega) hc
      refine ⟨k + 1, ⟨by omega, by dsimp only; omega⟩, some [some 0, some 1], ?_⟩
      (repeat' ((conv => whnf); (first | (with_reducible refine spl (fun hc => ?_) fun hc => ?_) <;> try (exfalso; omega) | with_reducible refine iJ fun hc => ?_ | refine vcq (k := ?_) | refine dr 8 (k := ?_) | refine dr 7 (k := ?_)))); all_goals ((try conv => whnf); try with_reducible exact trivial)
      refine ⟨fun i hi => ?_, ?_⟩
      · show spliceP (i = (x.l.getD (k : Int).toNat (0, 0)).2.toNat) [.int .i64 (newP x.l k i)] 0 [.int .i64 k] = [.int .i64 (newP x.l (k + 1) i)]
        rw [htk] at *
        by_cases h : i = (x.l.getD k (0, 0)).2.toNat
        · rw [spliceP_pos h, newP_succ, if_pos ⟨hc, h.symm⟩]
          rfl
        · rw [spliceP_neg h, newP_succ, if_neg (fun hh => h hh.2.symm)]
      · (repeat' ((conv => whnf); (first | (with_reducible refine spl (fun hc => ?_) fun hc => ?_) <;> try (exfalso; omega) | with_reducible refine iJ fun hc => ?_ | refine vcq (k := ?_) | refine dr 8 (k := ?_) | refine dr 7 (k := ?_)))); all_goals ((try conv => whnf); try with_reducible exact trivial)
    · refine ⟨k + 1, ⟨by omega, by dsimp only; omega⟩, some [some 0, some 1], ?_⟩
      (repeat' ((conv => whnf); (first | (with_reducible refine spl (fun hc => ?_) fun hc => ?_) <;> try (exfalso; omega) | with_reducible refine iJ fun hc => ?_ | refine vcq (k := ?_) | refine dr 8 (k := ?_) | refine dr 7 (k := ?_)))); all_goals ((try conv => whnf); try with_reducible exact trivial)
      refine ⟨fun i hi => ?_, ?_⟩
      · show [V.int .i64 (newP x.l k i)] = [.int .i64 (newP x.l (k + 1) i)]
        rw [htk] at *
        rw [newP_succ, if_neg (fun hh => hc hh.1)]
      · (repeat' ((conv => whnf); (first | (with_reducible refine spl (fun hc => ?_) fun hc => ?_) <;> try (exfalso; omega) | with_reducible refine iJ fun hc => ?_ | refine vcq (k := ?_) | refine dr 8 (k := ?_) | refine dr 7 (k := ?_)))); all_goals ((try conv => whnf); try with_reducible exact trivial)
    · obtain rfl : k = x.l.length := by omega
      refine ⟨_, rfl, ?_⟩
      (repeat' ((conv => whnf); (first | (with_reducible refine spl (fun hc => ?_) fun hc => ?_) <;> try (exfalso; omega) | with_reducible refine iJ fun hc => ?_ | refine vcq (k := ?_) | refine dr 8 (k := ?_) | refine dr 7 (k := ?_)))); all_goals ((try conv => whnf); try with_reducible exact trivial)
end Go.Proofs


namespace Go.Proofs
open Go Go.Sx
set_option maxRecDepth 100000
set_option maxHeartbeats 40000000
def RS.vo (n k : Nat) (s : RS) : V := .agg [.osl k n, .sl 1 s.E.length (s.epF n), .int .i64 s.W]
theorem write48n (n : Nat) (hn : 1 ≤ n ∧ n ≤ 1000) (s : RS) (hE : s.E.length ≤ 1000) (hW : 0 ≤ s.W ∧ s.W ≤ 1000000) (e b : Nat) (he : e < s.E.length) (hb : b < n) (hc : s.ep e b ≠ -1) :
    NewC Try.prog 48 [s.v n, .int .i64 e, .int .i64 b] (fun r H => r = (s.wr e b).vo n 0 ∧ H = [.row 3 1 n (s.wr e b).medF false]) := by
  refine newC_ent Try.E_ok Try.func48 rfl (by kernel_rfl) ?_
  (repeat' ((conv => whnf); (first | (with_reducible refine spl (fun hc => ?_) fun hc => ?_) <;> try (exfalso; omega) | with_reducible refine iJ fun hc => ?_ | refine vcq (k := ?_) | refine dr 21 (k := ?_) | refine dr 2011 (k := ?_) | refine dr 8 (k := ?_)))); all_goals ((try conv => whnf); try with_reducible exact trivial)
  refine callee_new (copied49 n hn s hE) rfl ?_
  rintro _ _ ⟨β, rfl, rfl⟩
  (repeat' ((conv => whnf); (first | (with_reducible refine spl (fun hc => ?_) fun hc => ?_) <;> try (exfalso; omega) | with_reducible refine iJ fun hc => ?_ | refine vcq (k := ?_) | refine dr 21 (k := ?_) | refine dr 2011 (k := ?_) | refine dr 8 (k := ?_)))); all_goals ((try conv => whnf); try with_reducible exact trivial)
  (repeat' ((first | (refine And.intro ⟨by omega, rfl⟩ ?_) | (refine And.intro ⟨by omega, rfl, rfl, by dsimp only; omega⟩ ?_)); (repeat' ((conv => whnf); (first | (with_reducible refine spl (fun hc => ?_) fun hc => ?_) <;> try (exfalso; omega) | with_reducible refine iJ fun hc => ?_ | refine vcq (k := ?_) | refine dr 21 (k := ?_) | refine dr 2011 (k := ?_) | refine dr 8 (k := ?_)))); all_goals ((try conv => whnf); try with_reducible exact trivial)))
  · rw [Int.toNat_natCast, Int.toNat_natCast] at *
    have hep := RS.ep_wr (s := s) (e := e) (b := b) he
    rw [RS.wr_pos hc]
    refine ⟨_, _, ⟨rfl, rfl⟩, some [some 2], ?_⟩
    unfold RS.vo
    (repeat' ((conv => whnf); (first | (with_reducible refine spl (fun hc => ?_) fun hc => ?_) <;> try (exfalso; omega) | with_reducible refine iJ fun hc => ?_ | refine vcq (k := ?_) | refine dr 21 (k := ?_) | refine dr 2011 (k := ?_) | refine dr 8 (k := ?_)))); all_goals ((try conv => whnf); try with_reducible exact trivial)
    refine ⟨by simp, rfl, fun e' he' => ⟨_, rfl, fun j _ => ?_⟩, .inl rfl, ?_⟩
    · show spliceP (e' = e ∧ j = b) [V.int .i64 (s.ep e' j)] 0 [V.int .i64 (-1)] = [V.int .i64 (RS.ep _ e' j)]
      rw [hep]
      by_cases h : e' = e ∧ j = b
      · rw [spliceP_pos h, if_pos h]; rfl
      · rw [spliceP_neg h, if_neg h]
    (repeat' ((conv => whnf); (first | (with_reducible refine spl (fun hc => ?_) fun hc => ?_) <;> try (exfalso; omega) | with_reducible refine iJ fun hc => ?_ | refine vcq (k := ?_) | refine dr 21 (k := ?_) | refine dr 2011 (k := ?_) | refine dr 8 (k := ?_)))); all_goals ((try conv => whnf); try with_reducible exact trivial)
    refine ⟨fun i _ => ?_, ?_⟩
    · show spliceP (i = b) [V.int .i64 (s.M i)] 0 [V.int .i64 (s.ep e b)] = [V.int .i64 (if i = b then s.ep e b else s.M i)]
      by_cases h : i = b
      · rw [spliceP_pos h, if_pos h]; rfl
      · rw [spliceP_neg h, if_neg h]
    (repeat' ((conv => whnf); (first | (with_reducible refine spl (fun hc => ?_) fun hc => ?_) <;> try (exfalso; omega) | with_reducible refine iJ fun hc => ?_ | refine vcq (k := ?_) | refine dr 21 (k := ?_) | refine dr 2011 (k := ?_) | refine dr 8 (k := ?_)))); all_goals ((try conv => whnf); try with_reducible exact trivial)
  · rw [Int.toNat_natCast, Int.toNat_natCast] at hc
    exact absurd (by assumption) hc
theorem Drained17n (n : Nat) (hn : 1 ≤ n ∧ n ≤ 1000) (s : RS) (hE : s.E.length ≤ 100) (hW : 0 ≤ s.W ∧ s.W ≤ 1000000) (z : Int) (hcan : canR n s z) :
    NewC Try.prog 17 [s.v n, .int .i64 z] (fun r H => r = .tup [(drS n s z).vo n 0, .prop True inferInstance] ∧ H = [.row 3 1 n (drS n s z).medF false]) := by
  refine newC_ent Try.E_ok Try.func17 rfl (by kernel_rfl) ?_
  (repeat' ((conv => whnf); (first | (with_reducible refine spl (fun hc => ?_) fun hc => ?_) <;> try (exfalso; omega) | with_reducible refine iJ fun hc => ?_ | refine vcq (k := ?_) | refine dr 21 (k := ?_) | refine dr 2011 (k := ?_) | refine dr 8 (k := ?_)))); all_goals ((try conv => whnf); try with_reducible exact trivial)
  refine callee_fo (first46 n hn s hE) rfl ?_
  obtain ⟨hz0, hz1, e0, he0, hne0⟩ := id hcan
  obtain ⟨b, rfl⟩ : ∃ b : Nat, z = b := ⟨z.toNat, by omega⟩
  have htb : (b : Int).toNat = b := Int.toNat_natCast b
  rintro _ (⟨e, he, rfl⟩ | ⟨h, rfl⟩)
  · obtain rfl := IsFirst.uniq he he0
    have hel := he.1
    have hte : (e : Int).toNat = e := Int.toNat_natCast e
    (repeat' ((conv => whnf); (first | (with_reducible refine spl (fun hc => ?_) fun hc => ?_) <;> try (exfalso; omega) | with_reducible refine iJ fun hc => ?_ | refine vcq (k := ?_) | refine dr 21 (k := ?_) | refine dr 2011 (k := ?_) | refine dr 8 (k := ?_)))); all_goals ((try conv => whnf); try with_reducible exact trivial); (repeat' ((first | (refine callee_fo (within47 _ _ _) rfl ?_; rintro _ rfl) | (refine pcall_intro (within47 _ _ _) rfl ?_) | (refine pcall_soft (fun _ => within47 _ _ _) rfl ?_)); (repeat' ((conv => whnf); (first | (with_reducible refine spl (fun hc => ?_) fun hc => ?_) <;> try (exfalso; omega) | with_reducible refine iJ fun hc => ?_ | refine vcq (k := ?_) | refine dr 21 (k := ?_) | refine dr 2011 (k := ?_) | refine dr 8 (k := ?_)))); all_goals ((try conv => whnf); try with_reducible exact trivial)))
    · exfalso
      rw [hte] at hc
      rcases hc with hc | hc
      · omega
      · exact hne0 hc
    · rw [htb] at hne0
      have hy := drS_yes ⟨hz0, hz1⟩ he (by rw [htb]; exact hne0)
      rw [htb] at hy
      rw [hy.1]
      refine callee_new (write48n n hn s (by omega) hW e b hel (by omega) hne0) rfl ?_
      rintro _ _ ⟨rfl, rfl⟩
      unfold RS.vo
      (repeat' ((conv => whnf); (first | (with_reducible refine spl (fun hc => ?_) fun hc => ?_) <;> try (exfalso; omega) | with_reducible refine iJ fun hc => ?_ | refine vcq (k := ?_) | refine dr 21 (k := ?_) | refine dr 2011 (k := ?_) | refine dr 8 (k := ?_)))); all_goals ((try conv => whnf); try with_reducible exact trivial)
      refine ⟨_, _, ⟨rfl, rfl⟩, some [some 2], ?_⟩
      (repeat' ((conv => whnf); (first | (with_reducible refine spl (fun hc => ?_) fun hc => ?_) <;> try (exfalso; omega) | with_reducible refine iJ fun hc => ?_ | refine vcq (k := ?_) | refine dr 21 (k := ?_) | refine dr 2011 (k := ?_) | refine dr 8 (k := ?_)))); all_goals ((try conv => whnf); try with_reducible exact trivial)
  · exact absurd (h e0 he0.1) he0.2.1
end Go.Proofs


namespace Go.Proofs
open Go Go.Sx
set_option maxRecDepth 100000
set_option maxHeartbeats 40000000
structure Ply (x : Cache) (n : Nat) (D : List (Int × Int)) (i a : Nat) (s : RS) : Prop where
  ex : ∃ (s' : PS) (k' : Nat) (u : PS) (D' : List (Int × Int)), PS.playD x D a = some (s', k') ∧ k' ≤ min i x.l.length ∧ RchU x (min i x.l.length) u D' ∧ Sim n s u ∧ PS.from x.l s' k' (min i x.l.length - k') = u.tidy ∧
    (a < D.length → ∀ i' : Nat, k' ≤ i' → i' < i → (D.getD a (0, 0)).1 ≠ i')
namespace Ply
variable {x : Cache} {n : Nat} {D : List (Int × Int)} {i a : Nat} {s : RS}
theorem begin (hn : n ≤ 6) : Ply x n D 0 0 RS.begin :=
  ⟨_, _, _, [], rfl, by omega, by rw [Nat.zero_min]; exact .begin, Sim.begin hn, by rw [Nat.zero_min]; exact begin_tidy.symm, fun _ i' _ h => by omega⟩
theorem bnd (hx : x.Ok) (hn : x.n = n) (h : Ply x n D i a s) : 0 ≤ s.W ∧ s.W ≤ x.l.length ∧ 0 < s.E.length ∧ s.E.length ≤ x.l.length + 1 := by
  obtain ⟨_, _, u, _, _, _, h1, h2, _⟩ := h.ex
  have := h2.bnd hx hn h1
  omega
theorem drain (hx : x.Ok) (hn : x.n = n) (h : Ply x n D i a s) (hi : i ≤ x.l.length) (hd : (D.getD a (0, 0)).1 = i) (hc : canR n s (D.getD a (0, 0)).2) : Ply x n D i (a + 1) (drS n s (D.getD a (0, 0)).2) := by
  have hn6 := hx.n
  obtain ⟨s', k', u, D', h1, h2, h3, h4, h5, h6⟩ := h.ex
  rw [Nat.min_eq_left hi] at h2 h3 h5
  have hc2 := (h4.canR_iff (by omega)).1 hc
  have hl : 0 < u.E.length := by rw [(h3.inv hx).len]; omega
  have hct := (PS.can_tidy u hl _).2 hc2.2.2
  have hti : ((i : Nat) : Int).toNat = i := Int.toNat_natCast i
  refine ⟨u.tidy.drain (D.getD a (0, 0)).2.toNat, i, u.drainU (D.getD a (0, 0)).2.toNat, _, ?_, by rw [Nat.min_eq_left hi]; exact Nat.le_refl i, by rw [Nat.min_eq_left hi]; exact h3.drain (by omega) hc2.2.2, h4.drain' (by omega) hc, ?_, fun _ i' g1 g2 => by omega⟩
  · simp only [PS.playD]
    rw [h1]
    dsimp only
    rw [hd, hti, h5]
    rw [if_pos ⟨⟨by omega, by omega⟩, ⟨by omega, by omega⟩, hct⟩]
  · rw [Nat.min_eq_left hi, Nat.sub_self]
    exact (PS.drain_tidy u hl hc2.2.2).symm
theorem stop (hx : x.Ok) (hn : x.n = n) (h : Ply x n D i a s) (hi : i ≤ x.l.length) (ha : a < D.length) (hd : (D.getD a (0, 0)).1 = i) (hc : ¬ canR n s (D.getD a (0, 0)).2) : PS.playD x D D.length = none := by
  have hn6 := hx.n
  obtain ⟨s', k', u, D', h1, h2, h3, h4, h5, h6⟩ := h.ex
  rw [Nat.min_eq_left hi] at h2 h3 h5
  have hl : 0 < u.E.length := by rw [(h3.inv hx).len]; omega
  refine PS.playD_stop h1 ha fun g => hc ((h4.canR_iff (by omega)).2 ?_)
  obtain ⟨_, g2, g3⟩ := g
  rw [hd, Int.toNat_natCast, h5] at g3
  exact ⟨by omega, by omega, (PS.can_tidy u hl _).1 g3⟩
theorem order (hx : x.Ok) (hn : x.n = n) (h : Ply x n D i a s) (hi : i < x.l.length) (hd : a < D.length → (D.getD a (0, 0)).1 ≠ i) : Ply x n D (i + 1) a (s.order n i (x.l.getD i (0, 0))) := by
  obtain ⟨s', k', u, D', h1, h2, h3, h4, h5, h6⟩ := h.ex
  rw [Nat.min_eq_left (by omega)] at h2 h3 h5
  have hl : 0 < u.E.length := by rw [(h3.inv hx).len]; omega
  have e : min (i + 1) x.l.length = i + 1 := Nat.min_eq_left hi
  refine ⟨s', k', _, _, h1, by rw [e]; omega, by rw [e]; exact h3.order hi, h4.order (by have := hx.n; omega) hl (by omega) (hx.blkn hn hi), ?_, fun g i' g1 g2 => ?_⟩
  · rw [e, show i + 1 - k' = (i - k') + 1 by omega, from_from, h5, show k' + (i - k') = i by omega, PS.orderU_tidy u hl]
  · rcases Nat.lt_or_eq_of_le (show i' ≤ i by omega) with k | rfl
    · exact h6 g i' g1 k
    · exact hd g
theorem last (h : Ply x n D x.l.length a s) (hd : a < D.length → (D.getD a (0, 0)).1 ≠ x.l.length) : Ply x n D (x.l.length + 1) a s := by
  obtain ⟨s', k', u, D', h1, h2, h3, h4, h5, h6⟩ := h.ex
  have e : min (x.l.length + 1) x.l.length = min x.l.length x.l.length := by omega
  refine ⟨s', k', u, D', h1, by rw [e]; exact h2, by rw [e]; exact h3, h4, by rw [e]; exact h5, fun g i' g1 g2 => ?_⟩
  rcases Nat.lt_or_eq_of_le (show i' ≤ x.l.length by omega) with k | rfl
  · exact h6 g i' g1 k
  · exact hd g
theorem late (h : Ply x n D (x.l.length + 1) a s) (ha : a < D.length) : PS.playD x D D.length = none := by
  obtain ⟨s', k', u, D', h1, h2, h3, h4, h5, h6⟩ := h.ex
  refine PS.playD_stop h1 ha fun g => ?_
  obtain ⟨⟨g1, g2⟩, _⟩ := g
  exact h6 ha (D.getD a (0, 0)).1.toNat (by omega) (by omega) (by omega)
theorem fin (h : Ply x n D (x.l.length + 1) D.length s) : ∃ s' k', PS.playD x D D.length = some (s', k') ∧ ∀ b, b < n → (PS.from x.l s' k' (x.l.length - k')).M.get b = s.M b := by
  obtain ⟨s', k', u, D', h1, h2, h3, h4, h5, h6⟩ := h.ex
  have e : min (x.l.length + 1) x.l.length = x.l.length := by omega
  rw [e] at h5
  refine ⟨s', k', h1, fun b hb => ?_⟩
  rw [h5, h4.M b hb]
  rfl
end Ply
end Go.Proofs

