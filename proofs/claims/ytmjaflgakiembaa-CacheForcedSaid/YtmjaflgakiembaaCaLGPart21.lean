/- Own work: texts of the proof of a law (CaC10, CaC11, CaC22, CaC23, CaL1rest, CaL4, CaL6, CaU7, CaR6). No condition. -/
import Derived.Test.YtmjaflgakiembaaBase20
namespace Go.Proofs
open Go Go.Sx
set_option maxRecDepth 100000
set_option maxHeartbeats 4000000
theorem mul110 (n : Nat) (hn : n ≤ 6) : PureC Try.prog 110 false [.int .u64 1, .int .u64 n] (· = .tup [.int .u64 0, .int .u64 n]) := by
  have h : n = 0 ∨ n = 1 ∨ n = 2 ∨ n = 3 ∨ n = 4 ∨ n = 5 ∨ n = 6 := by omega
  rcases h with rfl | rfl | rfl | rfl | rfl | rfl | rfl
  all_goals
    refine pureC_of_exec Try.E_ok Try.func110 rfl (by kernel_rfl) ?_
    (repeat' ((conv => whnf); (first | (with_reducible first | refine spl (fun hc => ?_) fun hc => ?_ | refine spl' (fun hc => ?_) fun hc => ?_) <;> try (exfalso; omega) | with_reducible refine iJ fun hc => ?_ | refine vcq (k := ?_) | refine dr 2007 (k := ?_)))); all_goals ((try conv => whnf); try with_reducible exact trivial)
    repeat (refine And.intro (by first | decide +kernel | (constructor <;> decide +kernel)) ?_; ((repeat' ((conv => whnf); (first | (with_reducible first | refine spl (fun hc => ?_) fun hc => ?_ | refine spl' (fun hc => ?_) fun hc => ?_) <;> try (exfalso; omega) | with_reducible refine iJ fun hc => ?_ | refine vcq (k := ?_) | refine dr 2007 (k := ?_)))); all_goals ((try conv => whnf); try with_reducible exact trivial)))
    refine ⟨_, rfl, ?_⟩
    (repeat' ((conv => whnf); (first | (with_reducible first | refine spl (fun hc => ?_) fun hc => ?_ | refine spl' (fun hc => ?_) fun hc => ?_) <;> try (exfalso; omega) | with_reducible refine iJ fun hc => ?_ | refine vcq (k := ?_) | refine dr 2007 (k := ?_)))); all_goals ((try conv => whnf); try with_reducible exact trivial)
theorem mul96 (n : Nat) (hn : n ≤ 6) : PureC Try.prog 96 false [.int .u64 1, .int .u64 n] (· = .tup [.int .u64 0, .int .u64 n]) := by
  refine pureC_of_exec Try.E_ok Try.func96 rfl (by kernel_rfl) ?_
  (repeat' ((conv => whnf); (first | (with_reducible first | refine spl (fun hc => ?_) fun hc => ?_ | refine spl' (fun hc => ?_) fun hc => ?_) <;> try (exfalso; omega) | with_reducible refine iJ fun hc => ?_ | refine vcq (k := ?_) | refine dr 2007 (k := ?_)))); all_goals ((try conv => whnf); try with_reducible exact trivial); (repeat' ((first | (refine callee_fo (mul110 n hn) rfl ?_; rintro _ rfl) | (refine pcall_intro (mul110 n hn) rfl ?_) | (refine pcall_soft (fun _ => mul110 n hn) rfl ?_)); (repeat' ((conv => whnf); (first | (with_reducible first | refine spl (fun hc => ?_) fun hc => ?_ | refine spl' (fun hc => ?_) fun hc => ?_) <;> try (exfalso; omega) | with_reducible refine iJ fun hc => ?_ | refine vcq (k := ?_) | refine dr 2007 (k := ?_)))); all_goals ((try conv => whnf); try with_reducible exact trivial))); (all_goals (try (refine ⟨_, rfl, ?_⟩; (repeat' ((conv => whnf); (first | (with_reducible first | refine spl (fun hc => ?_) fun hc => ?_ | refine spl' (fun hc => ?_) fun hc => ?_) <;> try (exfalso; omega) | with_reducible refine iJ fun hc => ?_ | refine vcq (k := ?_) | refine dr 2007 (k := ?_)))); all_goals ((try conv => whnf); try with_reducible exact trivial))))
theorem repeat84 (n : Nat) (hn : 1 ≤ n ∧ n ≤ 6) : Sx.Callee Try.prog 84 [.osl 0 1, .int .i64 n] [.row 3 1 1 (fun _ => [.int .i64 (-1)]) false] (fun v H => v = .osl 1 n ∧ H = [.row 3 1 1 (fun _ => [.int .i64 (-1)]) false, .row 3 1 n (fun _ => [.int .i64 (-1)]) false]) := by
  refine callee_ent Try.E_ok Try.func84 rfl (by kernel_rfl) ?_
  (repeat' ((conv => whnf); (first | (with_reducible first | refine spl (fun hc => ?_) fun hc => ?_ | refine spl' (fun hc => ?_) fun hc => ?_) <;> try (exfalso; omega) | with_reducible refine iJ fun hc => ?_ | refine vcq (k := ?_) | refine dr 2007 (k := ?_)))); all_goals ((try conv => whnf); try with_reducible exact trivial)
  refine And.intro (by constructor <;> decide) ?_
  (repeat' ((conv => whnf); (first | (with_reducible first | refine spl (fun hc => ?_) fun hc => ?_ | refine spl' (fun hc => ?_) fun hc => ?_) <;> try (exfalso; omega) | with_reducible refine iJ fun hc => ?_ | refine vcq (k := ?_) | refine dr 2007 (k := ?_)))); all_goals ((try conv => whnf); try with_reducible exact trivial)
  refine And.intro ⟨show (0:Int) ≤ (n:Int) by omega, show (n:Int) ≤ 18446744073709551615 by omega⟩ ?_
  (repeat' ((conv => whnf); (first | (with_reducible first | refine spl (fun hc => ?_) fun hc => ?_ | refine spl' (fun hc => ?_) fun hc => ?_) <;> try (exfalso; omega) | with_reducible refine iJ fun hc => ?_ | refine vcq (k := ?_) | refine dr 2007 (k := ?_)))); all_goals ((try conv => whnf); try with_reducible exact trivial)
  refine callee_fo (mul96 n hn.2) rfl ?_
  rintro _ rfl
  (repeat' ((conv => whnf); (first | (with_reducible first | refine spl (fun hc => ?_) fun hc => ?_ | refine spl' (fun hc => ?_) fun hc => ?_) <;> try (exfalso; omega) | with_reducible refine iJ fun hc => ?_ | refine vcq (k := ?_) | refine dr 2007 (k := ?_)))); all_goals ((try conv => whnf); try with_reducible exact trivial)
  refine ⟨Nat, fun m => 1 ≤ m ∧ m ≤ n, fun m => n - m, fun m => [(8, .int .i64 m)], fun m => [(1, .row 3 1 n (fun j => if j < m then [.int .i64 (-1)] else [.int .i64 0]) false)], fun _ => [], 1, ⟨⟨by omega, by omega⟩, none, ?_⟩, ?_⟩
  · (repeat' ((conv => whnf); (first | (with_reducible first | refine spl (fun hc => ?_) fun hc => ?_ | refine spl' (fun hc => ?_) fun hc => ?_) <;> try (exfalso; omega) | with_reducible refine iJ fun hc => ?_ | refine vcq (k := ?_) | refine dr 2007 (k := ?_)))); all_goals ((try conv => whnf); try with_reducible exact trivial)
    refine congrArg (fun f => [O.row 3 1 1 (fun _ => [.int .i64 (-1)]) false, O.row 3 1 n f false]) (funext fun j => ?_)
    by_cases h : j < 1
    · exact (if_pos ⟨Nat.zero_le _, show j < 0 + min 1 n by omega⟩).trans (if_pos h).symm
    · exact (if_neg (fun hh => h (by have := show j < 0 + min 1 n from hh.2; omega))).trans (if_neg h).symm
  · intro m hm
    have hm : 1 ≤ m ∧ m ≤ n := hm
    (repeat' ((conv => whnf); (first | (with_reducible first | refine spl (fun hc => ?_) fun hc => ?_ | refine spl' (fun hc => ?_) fun hc => ?_) <;> try (exfalso; omega) | with_reducible refine iJ fun hc => ?_ | refine vcq (k := ?_) | refine dr 2007 (k := ?_)))); all_goals ((try conv => whnf); try with_reducible exact trivial)
    · refine ⟨m + min (n - m) m, ⟨⟨by omega, by omega⟩, by dsimp only; omega⟩, some [some 0, some 1], ?_⟩
      (repeat' ((conv => whnf); (first | (with_reducible first | refine spl (fun hc => ?_) fun hc => ?_ | refine spl' (fun hc => ?_) fun hc => ?_) <;> try (exfalso; omega) | with_reducible refine iJ fun hc => ?_ | refine vcq (k := ?_) | refine dr 2007 (k := ?_)))); all_goals ((try conv => whnf); try with_reducible exact trivial)
      refine ⟨fun i hi => ?_, ?_⟩
      · dsimp only
        repeat' split
        all_goals first | rfl | (exfalso; omega)
      · (repeat' ((conv => whnf); (first | (with_reducible first | refine spl (fun hc => ?_) fun hc => ?_ | refine spl' (fun hc => ?_) fun hc => ?_) <;> try (exfalso; omega) | with_reducible refine iJ fun hc => ?_ | refine vcq (k := ?_) | refine dr 2007 (k := ?_)))); all_goals ((try conv => whnf); try with_reducible exact trivial)
    · refine ⟨_, _, ⟨rfl, rfl⟩, some [some 0, some 1], ?_⟩
      (repeat' ((conv => whnf); (first | (with_reducible first | refine spl (fun hc => ?_) fun hc => ?_ | refine spl' (fun hc => ?_) fun hc => ?_) <;> try (exfalso; omega) | with_reducible refine iJ fun hc => ?_ | refine vcq (k := ?_) | refine dr 2007 (k := ?_)))); all_goals ((try conv => whnf); try with_reducible exact trivial)
      refine ⟨fun i hi => ?_, ?_⟩
      · dsimp only
        repeat' split
        all_goals first | rfl | (exfalso; omega)
      · (repeat' ((conv => whnf); (first | (with_reducible first | refine spl (fun hc => ?_) fun hc => ?_ | refine spl' (fun hc => ?_) fun hc => ?_) <;> try (exfalso; omega) | with_reducible refine iJ fun hc => ?_ | refine vcq (k := ?_) | refine dr 2007 (k := ?_)))); all_goals ((try conv => whnf); try with_reducible exact trivial)
end Go.Proofs


namespace Go.Proofs
open Go Go.Sx
set_option maxRecDepth 100000
set_option maxHeartbeats 4000000
def newP (l : List (Int × Int)) : Nat → Nat → Int
  | 0, _ => -1
  | k + 1, b => if ((l.getD k (0, 0)).1 = 1 ∨ (l.getD k (0, 0)).1 = 2) ∧ (l.getD k (0, 0)).2.toNat = b then k else newP l k b
theorem newP_succ (l : List (Int × Int)) (k b : Nat) : newP l (k + 1) b = if ((l.getD k (0, 0)).1 = 1 ∨ (l.getD k (0, 0)).1 = 2) ∧ (l.getD k (0, 0)).2.toNat = b then (k : Int) else newP l k b := rfl
theorem newest63 (x : Cache) (hx : x.Ok) : NewC Try.prog 63 [x.v] (fun r H => r = .osl 0 x.n.toNat ∧ H = [.row 3 1 x.n.toNat (fun b => [.int .i64 (newP x.l x.l.length b)]) false]) := by
  obtain ⟨n, hn⟩ : ∃ n : Nat, x.n = n := ⟨x.n.toNat, by have := hx.n; omega⟩
  have hn6 := hx.n
  have hl16 := hx.len
  have hr := repeat84 n (by omega)
  refine newC_ent Try.E_ok Try.func63 rfl (by kernel_rfl) ?_
  rw [show x.v = .agg [.int .i64 n, .sl 2 x.l.length (rowOf oC (0, 0) x.l)] from by unfold Cache.v; rw [hn]]
  rw [hn]
  (repeat' ((conv => whnf); (first | (with_reducible first | refine spl (fun hc => ?_) fun hc => ?_ | refine spl' (fun hc => ?_) fun hc => ?_) <;> try (exfalso; omega) | with_reducible refine iJ fun hc => ?_ | refine vcq (k := ?_) | refine dr 2007 (k := ?_)))); all_goals ((try conv => whnf); try with_reducible exact trivial)
  refine callee_frame [1] hr rfl ?_ ?_
  · (repeat' ((conv => whnf); (first | (with_reducible first | refine spl (fun hc => ?_) fun hc => ?_ | refine spl' (fun hc => ?_) fun hc => ?_) <;> try (exfalso; omega) | with_reducible refine iJ fun hc => ?_ | refine vcq (k := ?_) | refine dr 2007 (k := ?_)))); all_goals ((try conv => whnf); try with_reducible exact trivial)
  · rintro _ _ ⟨rfl, rfl⟩
    (repeat' ((conv => whnf); (first | (with_reducible first | refine spl (fun hc => ?_) fun hc => ?_ | refine spl' (fun hc => ?_) fun hc => ?_) <;> try (exfalso; omega) | with_reducible refine iJ fun hc => ?_ | refine vcq (k := ?_) | refine dr 2007 (k := ?_)))); all_goals ((try conv => whnf); try with_reducible exact trivial)
    refine ⟨Nat, fun k => k ≤ x.l.length, fun k => x.l.length - k, fun k => [(13, .int .i64 k)], fun k => [(2, .row 3 1 n (fun b => [.int .i64 (newP x.l k b)]) false)], fun _ => [], 0, ⟨by omega, none, ?_⟩, ?_⟩
    · (repeat' ((conv => whnf); (first | (with_reducible first | refine spl (fun hc => ?_) fun hc => ?_ | refine spl' (fun hc => ?_) fun hc => ?_) <;> try (exfalso; omega) | with_reducible refine iJ fun hc => ?_ | refine vcq (k := ?_) | refine dr 2007 (k := ?_)))); all_goals ((try conv => whnf); try with_reducible exact trivial)
      rfl
    · intro k hk
      have hk : k ≤ x.l.length := hk
      (repeat' ((conv => whnf); (first | (with_reducible first | refine spl (fun hc => ?_) fun hc => ?_ | refine spl' (fun hc => ?_) fun hc => ?_) <;> try (exfalso; omega) | with_reducible refine iJ fun hc => ?_ | refine vcq (k := ?_) | refine dr 2007 (k := ?_)))); all_goals ((try conv => whnf); try with_reducible exact trivial)
      · have hk1 : k < x.l.length := by omega
        have hq : (x.l.getD (k : Int).toNat (0, 0)).1 = 1 ∨ (x.l.getD (k : Int).toNat (0, 0)).1 = 2 → 0 ≤ (x.l.getD (k : Int).toNat (0, 0)).2 ∧ (x.l.getD (k : Int).toNat (0, 0)).2 < n := by
          have e : x.l.getD (k : Int).toNat (0, 0) = x.l[k] := by simp [List.getD_eq_getElem?_getD, hk1]
          rw [e]
          have h1 := hx.ord x.l[k] (List.getElem_mem hk1)
          unfold Cache.OkO at h1
          omega
        refine callee_fo (puts62 (x.l.getD (k : Int).toNat (0, 0))) rfl ?_
        rintro _ rfl
        (repeat' ((conv => whnf); (first | (with_reducible first | refine spl (fun hc => ?_) fun hc => ?_ | refine spl' (fun hc => ?_) fun hc => ?_) <;> try (exfalso; omega) | with_reducible refine iJ fun hc => ?_ | refine vcq (k := ?_) | refine dr 2007 (k := ?_)))); all_goals ((try conv => whnf); try with_reducible exact trivial)
        · refine ⟨k + 1, ⟨by omega, by dsimp only; omega⟩, some [some 0, some 1, some 2], ?_⟩
          (repeat' ((conv => whnf); (first | (with_reducible first | refine spl (fun hc => ?_) fun hc => ?_ | refine spl' (fun hc => ?_) fun hc => ?_) <;> try (exfalso; omega) | with_reducible refine iJ fun hc => ?_ | refine vcq (k := ?_) | refine dr 2007 (k := ?_)))); all_goals ((try conv => whnf); try with_reducible exact trivial)
          refine ⟨fun i hi => ?_, ?_⟩
          · show spliceP (i = (x.l.getD k (0, 0)).2.toNat) [.int .i64 (newP x.l k i)] 0 [.int .i64 k] = [.int .i64 (newP x.l (k + 1) i)]
            by_cases h : i = (x.l.getD k (0, 0)).2.toNat
            · rw [spliceP_pos h, newP_succ, if_pos ⟨hc, h.symm⟩]
              rfl
            · rw [spliceP_neg h, newP_succ, if_neg (fun hh => h hh.2.symm)]
          · (repeat' ((conv => whnf); (first | (with_reducible first | refine spl (fun hc => ?_) fun hc => ?_ | refine spl' (fun hc => ?_) fun hc => ?_) <;> try (exfalso; omega) | with_reducible refine iJ fun hc => ?_ | refine vcq (k := ?_) | refine dr 2007 (k := ?_)))); all_goals ((try conv => whnf); try with_reducible exact trivial)
        · refine ⟨k + 1, ⟨by omega, by dsimp only; omega⟩, some [some 0, some 1, some 2], ?_⟩
          (repeat' ((conv => whnf); (first | (with_reducible first | refine spl (fun hc => ?_) fun hc => ?_ | refine spl' (fun hc => ?_) fun hc => ?_) <;> try (exfalso; omega) | with_reducible refine iJ fun hc => ?_ | refine vcq (k := ?_) | refine dr 2007 (k := ?_)))); all_goals ((try conv => whnf); try with_reducible exact trivial)
          refine ⟨fun i hi => ?_, ?_⟩
          · show [V.int .i64 (newP x.l k i)] = [.int .i64 (newP x.l (k + 1) i)]
            rw [newP_succ, if_neg (fun hh => hc hh.1)]
          · (repeat' ((conv => whnf); (first | (with_reducible first | refine spl (fun hc => ?_) fun hc => ?_ | refine spl' (fun hc => ?_) fun hc => ?_) <;> try (exfalso; omega) | with_reducible refine iJ fun hc => ?_ | refine vcq (k := ?_) | refine dr 2007 (k := ?_)))); all_goals ((try conv => whnf); try with_reducible exact trivial)
      · obtain rfl : k = x.l.length := by omega
        refine ⟨_, _, ⟨rfl, rfl⟩, some [some 2], ?_⟩
        (repeat' ((conv => whnf); (first | (with_reducible first | refine spl (fun hc => ?_) fun hc => ?_ | refine spl' (fun hc => ?_) fun hc => ?_) <;> try (exfalso; omega) | with_reducible refine iJ fun hc => ?_ | refine vcq (k := ?_) | refine dr 2007 (k := ?_)))); all_goals ((try conv => whnf); try with_reducible exact trivial)
theorem Newest34 (x : Cache) (hl : x.l.length ≤ 1000000) : PureC Try.prog 34 false [x.v] (· = .tup (if x.chk = 0 then [.sl 1 x.n.toNat (fun b => [.int .i64 (newP x.l x.l.length b)]), .int .i64 0] else [.lit (.slice none 0 0), .int .i64 x.chk])) := by
  refine pureC_of_exec Try.E_ok Try.func34 rfl (by kernel_rfl) ?_
  (repeat' ((conv => whnf); (first | (with_reducible first | refine spl (fun hc => ?_) fun hc => ?_ | refine spl' (fun hc => ?_) fun hc => ?_) <;> try (exfalso; omega) | with_reducible refine iJ fun hc => ?_ | refine vcq (k := ?_) | refine dr 2007 (k := ?_)))); all_goals ((try conv => whnf); try with_reducible exact trivial); (repeat' ((first | (refine callee_fo (check36 x hl) rfl ?_; rintro _ rfl) | (refine pcall_intro (check36 x hl) rfl ?_) | (refine pcall_soft (fun _ => check36 x hl) rfl ?_)); (repeat' ((conv => whnf); (first | (with_reducible first | refine spl (fun hc => ?_) fun hc => ?_ | refine spl' (fun hc => ?_) fun hc => ?_) <;> try (exfalso; omega) | with_reducible refine iJ fun hc => ?_ | refine vcq (k := ?_) | refine dr 2007 (k := ?_)))); all_goals ((try conv => whnf); try with_reducible exact trivial))); (all_goals (try (refine ⟨_, rfl, ?_⟩; (repeat' ((conv => whnf); (first | (with_reducible first | refine spl (fun hc => ?_) fun hc => ?_ | refine spl' (fun hc => ?_) fun hc => ?_) <;> try (exfalso; omega) | with_reducible refine iJ fun hc => ?_ | refine vcq (k := ?_) | refine dr 2007 (k := ?_)))); all_goals ((try conv => whnf); try with_reducible exact trivial))))
  · rw [if_neg hc]
    (repeat' ((conv => whnf); (first | (with_reducible first | refine spl (fun hc => ?_) fun hc => ?_ | refine spl' (fun hc => ?_) fun hc => ?_) <;> try (exfalso; omega) | with_reducible refine iJ fun hc => ?_ | refine vcq (k := ?_) | refine dr 2007 (k := ?_)))); all_goals ((try conv => whnf); try with_reducible exact trivial)
  · have hx := Cache.chk_ok (Classical.not_not.1 hc)
    rw [if_pos (Classical.not_not.1 hc)]
    refine callee_new (newest63 x hx) rfl ?_
    rintro _ _ ⟨rfl, rfl⟩
    (repeat' ((conv => whnf); (first | (with_reducible first | refine spl (fun hc => ?_) fun hc => ?_ | refine spl' (fun hc => ?_) fun hc => ?_) <;> try (exfalso; omega) | with_reducible refine iJ fun hc => ?_ | refine vcq (k := ?_) | refine dr 2007 (k := ?_)))); all_goals ((try conv => whnf); try with_reducible exact trivial)
    refine ⟨_, rfl, ?_⟩
    (repeat' ((conv => whnf); (first | (with_reducible first | refine spl (fun hc => ?_) fun hc => ?_ | refine spl' (fun hc => ?_) fun hc => ?_) <;> try (exfalso; omega) | with_reducible refine iJ fun hc => ?_ | refine vcq (k := ?_) | refine dr 2007 (k := ?_)))); all_goals ((try conv => whnf); try with_reducible exact trivial)
end Go.Proofs


namespace Go.Proofs
open Go Go.Sx
set_option maxRecDepth 100000
set_option maxHeartbeats 40000000
def okAt (x : Cache) (b : Nat) (n : Int) : Prop := n = -1 ∨ n = -2 ∨ (0 ≤ n ∧ n ≤ x.l.length - 1) ∧ ((x.l.getD n.toNat (0, 0)).1 = 1 ∨ (x.l.getD n.toNat (0, 0)).1 = 2) ∧ (x.l.getD n.toNat (0, 0)).2 = b
def IsImg (x : Cache) (l : List Int) : Prop := (l.length : Int) = x.n ∧ ∀ b, b < l.length → okAt x b (l.getD b 0)
def Eqs (c : C6) (l : List Int) : Prop := ∀ b, b < l.length → c.get b = l.getD b 0
theorem equal73 (c : C6) (n : Nat) (hn : n ≤ 6) (l : List Int) (_hll : l.length ≤ 1000000) : PureC Try.prog 73 false [.sl 1 n (fun b => [.int .i64 (c.get b)]), .sl 1 l.length (rowOf intC 0 l)] (· = .prop (n = l.length ∧ Eqs c l) (Classical.propDecidable _)) := by
  refine pureC_of_exec Try.E_ok Try.func73 rfl (by kernel_rfl) ?_
  (repeat' ((conv => whnf); (first | (with_reducible first | refine spl (fun hc => ?_) fun hc => ?_ | refine spl' (fun hc => ?_) fun hc => ?_) <;> try (exfalso; omega) | with_reducible refine iJ fun hc => ?_ | refine vcq (k := ?_) | refine dr 9 (k := ?_)))); all_goals ((try conv => whnf); try with_reducible exact trivial)
  · refine ⟨_, rfl, ?_⟩
    (repeat' ((conv => whnf); (first | (with_reducible first | refine spl (fun hc => ?_) fun hc => ?_ | refine spl' (fun hc => ?_) fun hc => ?_) <;> try (exfalso; omega) | with_reducible refine iJ fun hc => ?_ | refine vcq (k := ?_) | refine dr 9 (k := ?_)))); all_goals ((try conv => whnf); try with_reducible exact trivial)
  · have hnl : n = l.length := by omega
    refine ⟨Nat, fun i => i ≤ n ∧ ∀ b, b < i → c.get b = l.getD b 0, fun i => n - i, fun i => [(13, .int .i64 (i : Nat))], fun _ => [], fun _ => [], 0, ⟨⟨by omega, fun b hb => by omega⟩, none, ?_⟩, ?_⟩
    · (repeat' ((conv => whnf); (first | (with_reducible first | refine spl (fun hc => ?_) fun hc => ?_ | refine spl' (fun hc => ?_) fun hc => ?_) <;> try (exfalso; omega) | with_reducible refine iJ fun hc => ?_ | refine vcq (k := ?_) | refine dr 9 (k := ?_)))); all_goals ((try conv => whnf); try with_reducible exact trivial)
    · rintro i ⟨h1, h2⟩
      have hti : (i : Int).toNat = i := Int.toNat_natCast i
      (repeat' ((conv => whnf); (first | (with_reducible first | refine spl (fun hc => ?_) fun hc => ?_ | refine spl' (fun hc => ?_) fun hc => ?_) <;> try (exfalso; omega) | with_reducible refine iJ fun hc => ?_ | refine vcq (k := ?_) | refine dr 9 (k := ?_)))); all_goals ((try conv => whnf); try with_reducible exact trivial)
      · refine ⟨_, rfl, ?_⟩
        (repeat' ((conv => whnf); (first | (with_reducible first | refine spl (fun hc => ?_) fun hc => ?_ | refine spl' (fun hc => ?_) fun hc => ?_) <;> try (exfalso; omega) | with_reducible refine iJ fun hc => ?_ | refine vcq (k := ?_) | refine dr 9 (k := ?_)))); all_goals ((try conv => whnf); try with_reducible exact trivial)
        refine ⟨fun h => ?_, trivial⟩
        rw [hti] at hc
        exact hc (h.2 i (by omega))
      · rw [hti] at hc
        refine ⟨i + 1, ⟨⟨by omega, fun b hb => ?_⟩, by dsimp only; omega⟩, none, ?_⟩
        · rcases Nat.lt_or_eq_of_le (show b ≤ i by omega) with h | rfl
          · exact h2 b h
          · exact Classical.not_not.1 hc
        · (repeat' ((conv => whnf); (first | (with_reducible first | refine spl (fun hc => ?_) fun hc => ?_ | refine spl' (fun hc => ?_) fun hc => ?_) <;> try (exfalso; omega) | with_reducible refine iJ fun hc => ?_ | refine vcq (k := ?_) | refine dr 9 (k := ?_)))); all_goals ((try conv => whnf); try with_reducible exact trivial)
      · refine ⟨_, rfl, ?_⟩
        (repeat' ((conv => whnf); (first | (with_reducible first | refine spl (fun hc => ?_) fun hc => ?_ | refine spl' (fun hc => ?_) fun hc => ?_) <;> try (exfalso; omega) | with_reducible refine iJ fun hc => ?_ | refine vcq (k := ?_) | refine dr 9 (k := ?_)))); all_goals ((try conv => whnf); try with_reducible exact trivial)
        exact ⟨⟨hnl, fun b hb => h2 b (by omega)⟩, trivial⟩
def zI : V := .agg [.lit (.pointer none), .lit (.slice none 0 0), .int .i64 0, .int .i64 0, .int .i64 0, .int .i64 0, .int .i64 0, .int .i64 0, .prop False inferInstance]
inductive Found (x : Cache) (l : List Int) : V → Prop
  | chk : x.chk ≠ 0 → Found x l (.tup [zI, .kb false, .int .i64 x.chk])
  | img : x.chk = 0 → ¬ IsImg x l → Found x l (.tup [zI, .kb false, .int .i64 81])
  | none : x.chk = 0 → IsImg x l → (¬ ∃ c, PosI x c ∧ Eqs c l) → Found x l (.tup [zI, .kb false, .int .i64 0])
  | some (im : Img) : x.chk = 0 → IsImg x l → ImgOk x im → Eqs im.h l → Found x l (.tup [.agg (imC im), .kb true, .int .i64 0])
theorem find55 (x : Cache) (hl : x.l.length ≤ 1000000) (hs : x.chk = 0 → x.Small) (l : List Int) (hll : l.length ≤ 1000000) : PureC Try.prog 55 true [x.v, .sl 1 l.length (rowOf intC 0 l)] (Found x l) := by
  refine pureC_of_exec Try.E_ok Try.func55 rfl (by kernel_rfl) ?_
  (repeat' ((conv => whnf); (first | (with_reducible first | refine spl (fun hc => ?_) fun hc => ?_ | refine spl' (fun hc => ?_) fun hc => ?_) <;> try (exfalso; omega) | with_reducible refine iJ fun hc => ?_ | refine vcq (k := ?_) | refine dr 9 (k := ?_)))); all_goals ((try conv => whnf); try with_reducible exact trivial); (repeat' ((first | (refine callee_fo (check36 x hl) rfl ?_; rintro _ rfl) | (refine pcall_intro (check36 x hl) rfl ?_) | (refine pcall_soft (fun _ => check36 x hl) rfl ?_)); (repeat' ((conv => whnf); (first | (with_reducible first | refine spl (fun hc => ?_) fun hc => ?_ | refine spl' (fun hc => ?_) fun hc => ?_) <;> try (exfalso; omega) | with_reducible refine iJ fun hc => ?_ | refine vcq (k := ?_) | refine dr 9 (k := ?_)))); all_goals ((try conv => whnf); try with_reducible exact trivial)))
  · exact ⟨_, .chk hc, by (repeat' ((conv => whnf); (first | (with_reducible first | refine spl (fun hc => ?_) fun hc => ?_ | refine spl' (fun hc => ?_) fun hc => ?_) <;> try (exfalso; omega) | with_reducible refine iJ fun hc => ?_ | refine vcq (k := ?_) | refine dr 9 (k := ?_)))); all_goals ((try conv => whnf); try with_reducible exact trivial)⟩
  · rename_i hk
    have hk := Classical.not_not.1 hk
    exact ⟨_, .img hk (fun h => hc h.1), by (repeat' ((conv => whnf); (first | (with_reducible first | refine spl (fun hc => ?_) fun hc => ?_ | refine spl' (fun hc => ?_) fun hc => ?_) <;> try (exfalso; omega) | with_reducible refine iJ fun hc => ?_ | refine vcq (k := ?_) | refine dr 9 (k := ?_)))); all_goals ((try conv => whnf); try with_reducible exact trivial)⟩
  · rename_i hk
    have hk : x.chk = 0 := Classical.not_not.1 hk
    have hln : (l.length : Int) = x.n := Classical.not_not.1 hc
    have hx := hs hk
    have hn := hx.ok.n
    have hx16 := hx.ok.len
    have hx3 := hx.n
    refine ⟨Nat, fun i => i ≤ l.length ∧ ∀ b, b < i → okAt x b (l.getD b 0), fun i => l.length - i, fun i => [(26, .int .i64 (i : Nat))], fun _ => [], fun _ => [], 0, ⟨⟨by omega, fun b hb => by omega⟩, none, ?_⟩, ?_⟩
    · (repeat' ((conv => whnf); (first | (with_reducible first | refine spl (fun hc => ?_) fun hc => ?_ | refine spl' (fun hc => ?_) fun hc => ?_) <;> try (exfalso; omega) | with_reducible refine iJ fun hc => ?_ | refine vcq (k := ?_) | refine dr 9 (k := ?_)))); all_goals ((try conv => whnf); try with_reducible exact trivial)
    · rintro i ⟨h1, h2⟩
      have hti : (i : Int).toNat = i := Int.toNat_natCast i
      (repeat' ((conv => whnf); (first | (with_reducible first | refine spl (fun hc => ?_) fun hc => ?_ | refine spl' (fun hc => ?_) fun hc => ?_) <;> try (exfalso; omega) | with_reducible refine iJ fun hc => ?_ | refine vcq (k := ?_) | refine dr 9 (k := ?_)))); all_goals ((try conv => whnf); try with_reducible exact trivial); (repeat' ((first | (refine callee_fo (within51 _ _ _) rfl ?_; rintro _ rfl) | (refine pcall_intro (within51 _ _ _) rfl ?_) | (refine pcall_soft (fun _ => within51 _ _ _) rfl ?_) | (refine callee_fo (puts62 _) rfl ?_; rintro _ rfl) | (refine pcall_intro (puts62 _) rfl ?_) | (refine pcall_soft (fun _ => puts62 _) rfl ?_)); (repeat' ((conv => whnf); (first | (with_reducible first | refine spl (fun hc => ?_) fun hc => ?_ | refine spl' (fun hc => ?_) fun hc => ?_) <;> try (exfalso; omega) | with_reducible refine iJ fun hc => ?_ | refine vcq (k := ?_) | refine dr 9 (k := ?_)))); all_goals ((try conv => whnf); try with_reducible exact trivial)))
      · have hi : i < l.length := by omega
        rw [hti] at *
        refine ⟨_, .img hk (fun h => ?_), by (repeat' ((conv => whnf); (first | (with_reducible first | refine spl (fun hc => ?_) fun hc => ?_ | refine spl' (fun hc => ?_) fun hc => ?_) <;> try (exfalso; omega) | with_reducible refine iJ fun hc => ?_ | refine vcq (k := ?_) | refine dr 9 (k := ?_)))); all_goals ((try conv => whnf); try with_reducible exact trivial)⟩
        have h3 := h.2 i hi
        unfold okAt at h3
        have q2 : l.getD i 0 ≠ -1 ∧ l.getD i 0 ≠ -2 := by assumption
        rcases h3 with h3 | h3 | ⟨_, h4, h5⟩
        · exact q2.1 h3
        · exact q2.2 h3
        · rcases hc with hc | hc
          · exact hc h4
          · exact hc h5
      · have hi : i < l.length := by omega
        refine ⟨i + 1, ⟨⟨by omega, fun b hb => ?_⟩, by dsimp only; omega⟩, none, ?_⟩
        · rcases Nat.lt_or_eq_of_le (show b ≤ i by omega) with g | rfl
          · exact h2 b g
          · rw [hti] at *
            have q1 : ¬¬(0 ≤ l.getD b 0 ∧ l.getD b 0 ≤ x.l.length - 1) := by assumption
            exact .inr (.inr ⟨Classical.not_not.1 q1, Classical.not_not.1 (fun g => hc (.inl g)), Classical.not_not.1 (fun g => hc (.inr g))⟩)
        · (repeat' ((conv => whnf); (first | (with_reducible first | refine spl (fun hc => ?_) fun hc => ?_ | refine spl' (fun hc => ?_) fun hc => ?_) <;> try (exfalso; omega) | with_reducible refine iJ fun hc => ?_ | refine vcq (k := ?_) | refine dr 9 (k := ?_)))); all_goals ((try conv => whnf); try with_reducible exact trivial)
      · have hi : i < l.length := by omega
        rw [hti] at *
        refine ⟨_, .img hk (fun h => ?_), by (repeat' ((conv => whnf); (first | (with_reducible first | refine spl (fun hc => ?_) fun hc => ?_ | refine spl' (fun hc => ?_) fun hc => ?_) <;> try (exfalso; omega) | with_reducible refine iJ fun hc => ?_ | refine vcq (k := ?_) | refine dr 9 (k := ?_)))); all_goals ((try conv => whnf); try with_reducible exact trivial)⟩
        have h3 := h.2 i hi
        unfold okAt at h3
        have q1 : l.getD i 0 ≠ -1 ∧ l.getD i 0 ≠ -2 := by assumption
        rcases h3 with h3 | h3 | ⟨h4, _⟩
        · exact q1.1 h3
        · exact q1.2 h3
        · exact hc h4
      · have hi : i < l.length := by omega
        refine ⟨i + 1, ⟨⟨by omega, fun b hb => ?_⟩, by dsimp only; omega⟩, none, ?_⟩
        · rcases Nat.lt_or_eq_of_le (show b ≤ i by omega) with g | rfl
          · exact h2 b g
          · rw [hti] at hc
            unfold okAt
            by_cases g : l.getD b 0 = -1
            · exact .inl g
            · exact .inr (.inl (Classical.byContradiction fun g2 => hc ⟨g, g2⟩))
        · (repeat' ((conv => whnf); (first | (with_reducible first | refine spl (fun hc => ?_) fun hc => ?_ | refine spl' (fun hc => ?_) fun hc => ?_) <;> try (exfalso; omega) | with_reducible refine iJ fun hc => ?_ | refine vcq (k := ?_) | refine dr 9 (k := ?_)))); all_goals ((try conv => whnf); try with_reducible exact trivial)
      · have hii : i = l.length := by omega
        subst hii
        have himg : IsImg x l := ⟨hln, h2⟩
        refine callee_fo (images56s x hx) rfl ?_
        rintro _ ⟨L, hL, rfl⟩
        have hLl := hL.len
        (repeat' ((conv => whnf); (first | (with_reducible first | refine spl (fun hc => ?_) fun hc => ?_ | refine spl' (fun hc => ?_) fun hc => ?_) <;> try (exfalso; omega) | with_reducible refine iJ fun hc => ?_ | refine vcq (k := ?_) | refine dr 9 (k := ?_)))); all_goals ((try conv => whnf); try with_reducible exact trivial)
        refine ⟨Nat, fun j => j ≤ L.length ∧ ∀ q, q < j → ¬ Eqs (L.getD q Img.none).h l, fun j => L.length - j, fun j => [(70, .int .i64 (j : Nat))], fun _ => [], fun _ => [], 0, ⟨⟨by omega, fun q hq => by omega⟩, none, ?_⟩, ?_⟩
        · (repeat' ((conv => whnf); (first | (with_reducible first | refine spl (fun hc => ?_) fun hc => ?_ | refine spl' (fun hc => ?_) fun hc => ?_) <;> try (exfalso; omega) | with_reducible refine iJ fun hc => ?_ | refine vcq (k := ?_) | refine dr 9 (k := ?_)))); all_goals ((try conv => whnf); try with_reducible exact trivial)
        · rintro j ⟨g1, g2⟩
          have htj : (j : Int).toNat = j := Int.toNat_natCast j
          (repeat' ((conv => whnf); (first | (with_reducible first | refine spl (fun hc => ?_) fun hc => ?_ | refine spl' (fun hc => ?_) fun hc => ?_) <;> try (exfalso; omega) | with_reducible refine iJ fun hc => ?_ | refine vcq (k := ?_) | refine dr 9 (k := ?_)))); all_goals ((try conv => whnf); try with_reducible exact trivial)
          · have hj : j < L.length := by omega
            have e : L.getD j Img.none = L[j] := by simp [List.getD_eq_getElem?_getD, hj]
            have hok : ImgOk x (L.getD j Img.none) := by rw [e]; exact hL.ok _ (List.getElem_mem hj)
            refine callee_view (equal73 (L.getD j Img.none).h x.n.toNat (by omega) l hll) ?_
            (repeat' ((conv => whnf); (first | (with_reducible first | refine spl (fun hc => ?_) fun hc => ?_ | refine spl' (fun hc => ?_) fun hc => ?_) <;> try (exfalso; omega) | with_reducible refine iJ fun hc => ?_ | refine vcq (k := ?_) | refine dr 9 (k := ?_)))); all_goals ((try conv => whnf); try with_reducible exact trivial)
            rw [htj]
            refine ⟨fun b hb => ?_, ?_⟩
            · have : b = 0 ∨ b = 1 ∨ b = 2 := by omega
              rcases this with rfl | rfl | rfl <;> exact ⟨rfl, rfl⟩
            (repeat' ((conv => whnf); (first | (with_reducible first | refine spl (fun hc => ?_) fun hc => ?_ | refine spl' (fun hc => ?_) fun hc => ?_) <;> try (exfalso; omega) | with_reducible refine iJ fun hc => ?_ | refine vcq (k := ?_) | refine dr 9 (k := ?_)))); all_goals ((try conv => whnf); try with_reducible exact trivial)
            rintro _ rfl
            (repeat' ((conv => whnf); (first | (with_reducible first | refine spl (fun hc => ?_) fun hc => ?_ | refine spl' (fun hc => ?_) fun hc => ?_) <;> try (exfalso; omega) | with_reducible refine iJ fun hc => ?_ | refine vcq (k := ?_) | refine dr 9 (k := ?_)))); all_goals ((try conv => whnf); try with_reducible exact trivial)
            · exact ⟨_, .some _ hk himg hok hc.2, by (repeat' ((conv => whnf); (first | (with_reducible first | refine spl (fun hc => ?_) fun hc => ?_ | refine spl' (fun hc => ?_) fun hc => ?_) <;> try (exfalso; omega) | with_reducible refine iJ fun hc => ?_ | refine vcq (k := ?_) | refine dr 9 (k := ?_)))); all_goals ((try conv => whnf); try with_reducible exact trivial)⟩
            · have hne : ¬ Eqs (L.getD j Img.none).h l := fun h => hc ⟨by omega, h⟩
              refine ⟨j + 1, ⟨⟨by omega, fun q hq => ?_⟩, by dsimp only; omega⟩, some [some 0, some 1], ?_⟩
              · rcases Nat.lt_or_eq_of_le (show q ≤ j by omega) with g | rfl
                · exact g2 q g
                · exact hne
              · (repeat' ((conv => whnf); (first | (with_reducible first | refine spl (fun hc => ?_) fun hc => ?_ | refine spl' (fun hc => ?_) fun hc => ?_) <;> try (exfalso; omega) | with_reducible refine iJ fun hc => ?_ | refine vcq (k := ?_) | refine dr 9 (k := ?_)))); all_goals ((try conv => whnf); try with_reducible exact trivial)
          · refine ⟨_, .none hk himg ?_, by (repeat' ((conv => whnf); (first | (with_reducible first | refine spl (fun hc => ?_) fun hc => ?_ | refine spl' (fun hc => ?_) fun hc => ?_) <;> try (exfalso; omega) | with_reducible refine iJ fun hc => ?_ | refine vcq (k := ?_) | refine dr 9 (k := ?_)))); all_goals ((try conv => whnf); try with_reducible exact trivial)⟩
            rintro ⟨c, h3, h4⟩
            obtain ⟨im, h5, rfl⟩ := (hL.pos hx.ok _).2 h3
            obtain ⟨q, hq, rfl⟩ := List.getElem_of_mem h5
            have e : L.getD q Img.none = L[q] := by simp [List.getD_eq_getElem?_getD, hq]
            exact g2 q (by omega) (e ▸ h4)
end Go.Proofs


namespace Go.Proofs
open Go Go.Sx
set_option maxRecDepth 100000
set_option maxHeartbeats 40000000
def IsPos (x : Cache) (l : List Int) : Prop := ∃ c, PosI x c ∧ Eqs c l
inductive PosR (x : Cache) (l : List Int) : V → Prop
  | chk : x.chk ≠ 0 → PosR x l (.tup [.prop False inferInstance, .int .i64 x.chk])
  | img : x.chk = 0 → ¬ IsImg x l → PosR x l (.tup [.prop False inferInstance, .int .i64 81])
  | pos : x.chk = 0 → IsImg x l → PosR x l (.tup [.prop (IsPos x l) (Classical.propDecidable _), .int .i64 0])
theorem ImgOk.pos {x : Cache} {im : Img} (h : ImgOk x im) : PosI x im.h := ⟨im, h, rfl⟩
theorem Possible21 (x : Cache) (hl : x.l.length ≤ 1000000) (hs : x.chk = 0 → x.Small) (l : List Int) (hll : l.length ≤ 1000000) : PureC Try.prog 21 false [x.v, .sl 1 l.length (rowOf intC 0 l)] (PosR x l) := by
  refine pureC_of_exec Try.E_ok Try.func21 rfl (by kernel_rfl) ?_
  (repeat' ((conv => whnf); (first | (with_reducible first | refine spl (fun hc => ?_) fun hc => ?_ | refine spl' (fun hc => ?_) fun hc => ?_) <;> try (exfalso; omega) | with_reducible refine iJ fun hc => ?_ | refine vcq (k := ?_) | refine dr 8 (k := ?_)))); all_goals ((try conv => whnf); try with_reducible exact trivial)
  refine callee_fo (find55 x hl hs l hll) rfl ?_
  intro r hr
  cases hr with
  | chk h1 =>
    (repeat' ((conv => whnf); (first | (with_reducible first | refine spl (fun hc => ?_) fun hc => ?_ | refine spl' (fun hc => ?_) fun hc => ?_) <;> try (exfalso; omega) | with_reducible refine iJ fun hc => ?_ | refine vcq (k := ?_) | refine dr 8 (k := ?_)))); all_goals ((try conv => whnf); try with_reducible exact trivial)
    exact ⟨_, .chk h1, by (repeat' ((conv => whnf); (first | (with_reducible first | refine spl (fun hc => ?_) fun hc => ?_ | refine spl' (fun hc => ?_) fun hc => ?_) <;> try (exfalso; omega) | with_reducible refine iJ fun hc => ?_ | refine vcq (k := ?_) | refine dr 8 (k := ?_)))); all_goals ((try conv => whnf); try with_reducible exact trivial)⟩
  | img h1 h2 =>
    (repeat' ((conv => whnf); (first | (with_reducible first | refine spl (fun hc => ?_) fun hc => ?_ | refine spl' (fun hc => ?_) fun hc => ?_) <;> try (exfalso; omega) | with_reducible refine iJ fun hc => ?_ | refine vcq (k := ?_) | refine dr 8 (k := ?_)))); all_goals ((try conv => whnf); try with_reducible exact trivial)
    exact ⟨_, .img h1 h2, by (repeat' ((conv => whnf); (first | (with_reducible first | refine spl (fun hc => ?_) fun hc => ?_ | refine spl' (fun hc => ?_) fun hc => ?_) <;> try (exfalso; omega) | with_reducible refine iJ fun hc => ?_ | refine vcq (k := ?_) | refine dr 8 (k := ?_)))); all_goals ((try conv => whnf); try with_reducible exact trivial)⟩
  | none h1 h2 h3 =>
    (repeat' ((conv => whnf); (first | (with_reducible first | refine spl (fun hc => ?_) fun hc => ?_ | refine spl' (fun hc => ?_) fun hc => ?_) <;> try (exfalso; omega) | with_reducible refine iJ fun hc => ?_ | refine vcq (k := ?_) | refine dr 8 (k := ?_)))); all_goals ((try conv => whnf); try with_reducible exact trivial)
    refine ⟨_, .pos h1 h2, ?_⟩
    (repeat' ((conv => whnf); (first | (with_reducible first | refine spl (fun hc => ?_) fun hc => ?_ | refine spl' (fun hc => ?_) fun hc => ?_) <;> try (exfalso; omega) | with_reducible refine iJ fun hc => ?_ | refine vcq (k := ?_) | refine dr 8 (k := ?_)))); all_goals ((try conv => whnf); try with_reducible exact trivial)
    refine ⟨h3, ?_⟩
    (repeat' ((conv => whnf); (first | (with_reducible first | refine spl (fun hc => ?_) fun hc => ?_ | refine spl' (fun hc => ?_) fun hc => ?_) <;> try (exfalso; omega) | with_reducible refine iJ fun hc => ?_ | refine vcq (k := ?_) | refine dr 8 (k := ?_)))); all_goals ((try conv => whnf); try with_reducible exact trivial)
  | some im h1 h2 h3 h4 =>
    (repeat' ((conv => whnf); (first | (with_reducible first | refine spl (fun hc => ?_) fun hc => ?_ | refine spl' (fun hc => ?_) fun hc => ?_) <;> try (exfalso; omega) | with_reducible refine iJ fun hc => ?_ | refine vcq (k := ?_) | refine dr 8 (k := ?_)))); all_goals ((try conv => whnf); try with_reducible exact trivial)
    refine ⟨_, .pos h1 h2, ?_⟩
    (repeat' ((conv => whnf); (first | (with_reducible first | refine spl (fun hc => ?_) fun hc => ?_ | refine spl' (fun hc => ?_) fun hc => ?_) <;> try (exfalso; omega) | with_reducible refine iJ fun hc => ?_ | refine vcq (k := ?_) | refine dr 8 (k := ?_)))); all_goals ((try conv => whnf); try with_reducible exact trivial)
    refine ⟨⟨_, h3.pos, h4⟩, ?_⟩
    (repeat' ((conv => whnf); (first | (with_reducible first | refine spl (fun hc => ?_) fun hc => ?_ | refine spl' (fun hc => ?_) fun hc => ?_) <;> try (exfalso; omega) | with_reducible refine iJ fun hc => ?_ | refine vcq (k := ?_) | refine dr 8 (k := ?_)))); all_goals ((try conv => whnf); try with_reducible exact trivial)
inductive ShowR (x : Cache) (l : List Int) : V → Prop
  | chk : x.chk ≠ 0 → ShowR x l (.tup [.lit (.slice none 0 0), .prop False inferInstance, .int .i64 x.chk])
  | img : x.chk = 0 → ¬ IsImg x l → ShowR x l (.tup [.lit (.slice none 0 0), .prop False inferInstance, .int .i64 81])
  | no : x.chk = 0 → IsImg x l → ¬ IsPos x l → ShowR x l (.tup [.lit (.slice none 0 0), .prop False inferInstance, .int .i64 3])
  | yes (im : Img) : x.chk = 0 → IsImg x l → ImgOk x im → Eqs im.h l → ShowR x l (.tup [drV im.t.D, .prop (im.torn = true) inferInstance, .int .i64 0])
end Go.Proofs


namespace Go.Proofs
open Go Go.Sx
set_option maxRecDepth 100000
set_option maxHeartbeats 40000000
theorem IsImage33 (x : Cache) (hx : x.l.length ≤ 1000000) (l : List Int) (hl : l.length ≤ 1000000) : PureC Try.prog 33 false [x.v, .sl 1 l.length (rowOf intC 0 l)] (· = .prop (IsImg x l) (Classical.propDecidable _)) := by
  refine pureC_of_exec Try.E_ok Try.func33 rfl (by kernel_rfl) ?_
  (repeat' ((conv => whnf); (first | (with_reducible first | refine spl (fun hc => ?_) fun hc => ?_ | refine spl' (fun hc => ?_) fun hc => ?_) <;> try (exfalso; omega) | with_reducible refine iJ fun hc => ?_ | refine vcq (k := ?_) | fail))); all_goals ((try conv => whnf); try with_reducible exact trivial)
  refine ⟨Nat, fun i => i ≤ l.length ∧ (i : Int) ≤ max x.n 0 ∧ ∀ b, b < i → okAt x b (l.getD b 0), fun i => l.length - i, fun i => [(5, .int .i64 (i : Nat))], fun _ => [], fun _ => [], 0, ⟨⟨by omega, by omega, fun b hb => by omega⟩, some [some 0], ?_⟩, ?_⟩
  · (repeat' ((conv => whnf); (first | (with_reducible first | refine spl (fun hc => ?_) fun hc => ?_ | refine spl' (fun hc => ?_) fun hc => ?_) <;> try (exfalso; omega) | with_reducible refine iJ fun hc => ?_ | refine vcq (k := ?_) | fail))); all_goals ((try conv => whnf); try with_reducible exact trivial)
  · rintro i ⟨h1, h1', h2⟩
    have hti : (i : Int).toNat = i := Int.toNat_natCast i
    have hbad : i < l.length → ¬ okAt x i (l.getD i 0) → ¬ IsImg x l := fun hi h g => h (g.2 i hi)
    (repeat' ((conv => whnf); (first | (with_reducible first | refine spl (fun hc => ?_) fun hc => ?_ | refine spl' (fun hc => ?_) fun hc => ?_) <;> try (exfalso; omega) | with_reducible refine iJ fun hc => ?_ | refine vcq (k := ?_) | fail))); all_goals ((try conv => whnf); try with_reducible exact trivial); (repeat' ((first | (refine callee_fo (within47 _ _ _) rfl ?_; rintro _ rfl) | (refine pcall_intro (within47 _ _ _) rfl ?_) | (refine pcall_soft (fun _ => within47 _ _ _) rfl ?_) | (refine callee_fo (puts35 _) rfl ?_; rintro _ rfl) | (refine pcall_intro (puts35 _) rfl ?_) | (refine pcall_soft (fun _ => puts35 _) rfl ?_)); (repeat' ((conv => whnf); (first | (with_reducible first | refine spl (fun hc => ?_) fun hc => ?_ | refine spl' (fun hc => ?_) fun hc => ?_) <;> try (exfalso; omega) | with_reducible refine iJ fun hc => ?_ | refine vcq (k := ?_) | fail))); all_goals ((try conv => whnf); try with_reducible exact trivial)))
    · have hi : i < l.length := by omega
      rw [hti] at *
      refine ⟨_, rfl, ?_⟩
      (repeat' ((conv => whnf); (first | (with_reducible first | refine spl (fun hc => ?_) fun hc => ?_ | refine spl' (fun hc => ?_) fun hc => ?_) <;> try (exfalso; omega) | with_reducible refine iJ fun hc => ?_ | refine vcq (k := ?_) | fail))); all_goals ((try conv => whnf); try with_reducible exact trivial)
      refine ⟨hbad hi (fun g => ?_), trivial⟩
      unfold okAt at g
      omega
    · have hi : i < l.length := by omega
      rw [hti] at *
      refine ⟨i + 1, ⟨⟨by omega, by omega, fun b hb => ?_⟩, by dsimp only; omega⟩, some [some 0], ?_⟩
      · rcases Nat.lt_or_eq_of_le (show b ≤ i by omega) with g | rfl
        · exact h2 b g
        · unfold okAt
          omega
      · (repeat' ((conv => whnf); (first | (with_reducible first | refine spl (fun hc => ?_) fun hc => ?_ | refine spl' (fun hc => ?_) fun hc => ?_) <;> try (exfalso; omega) | with_reducible refine iJ fun hc => ?_ | refine vcq (k := ?_) | fail))); all_goals ((try conv => whnf); try with_reducible exact trivial)
    · have hi : i < l.length := by omega
      rw [hti] at *
      refine ⟨_, rfl, ?_⟩
      (repeat' ((conv => whnf); (first | (with_reducible first | refine spl (fun hc => ?_) fun hc => ?_ | refine spl' (fun hc => ?_) fun hc => ?_) <;> try (exfalso; omega) | with_reducible refine iJ fun hc => ?_ | refine vcq (k := ?_) | fail))); all_goals ((try conv => whnf); try with_reducible exact trivial)
      refine ⟨hbad hi (fun g => ?_), trivial⟩
      unfold okAt at g
      omega
    · have hi : i < l.length := by omega
      rw [hti] at *
      refine ⟨i + 1, ⟨⟨by omega, by omega, fun b hb => ?_⟩, by dsimp only; omega⟩, some [some 0], ?_⟩
      · rcases Nat.lt_or_eq_of_le (show b ≤ i by omega) with g | rfl
        · exact h2 b g
        · unfold okAt
          omega
      · (repeat' ((conv => whnf); (first | (with_reducible first | refine spl (fun hc => ?_) fun hc => ?_ | refine spl' (fun hc => ?_) fun hc => ?_) <;> try (exfalso; omega) | with_reducible refine iJ fun hc => ?_ | refine vcq (k := ?_) | fail))); all_goals ((try conv => whnf); try with_reducible exact trivial)
    · refine ⟨_, rfl, ?_⟩
      (repeat' ((conv => whnf); (first | (with_reducible first | refine spl (fun hc => ?_) fun hc => ?_ | refine spl' (fun hc => ?_) fun hc => ?_) <;> try (exfalso; omega) | with_reducible refine iJ fun hc => ?_ | refine vcq (k := ?_) | fail))); all_goals ((try conv => whnf); try with_reducible exact trivial)
      refine ⟨⟨fun g => ⟨g, fun b hb => h2 b (by omega)⟩, fun g => g.1⟩, trivial⟩
end Go.Proofs


namespace Go.Proofs
open Go Go.Sx
set_option maxRecDepth 100000
set_option maxHeartbeats 40000000
theorem newest_ok {x : Cache} (hk : x.chk = 0) (hl : x.l.length ≤ 1000000) : PureC Try.prog 34 false [x.v] (· = .tup [.sl 1 x.n.toNat (iF (newP x.l x.l.length)), .int .i64 0]) := by
  have h := Newest34 x hl
  rw [if_pos hk] at h
  exact h
theorem newP_ge {x : Cache} {q b : Nat} : ∀ {k}, q < k → putQ x q b → (q : Int) ≤ newP x.l k b
  | k + 1, hq, hp => by
    rw [newP_succ]
    split
    · omega
    · rename_i h
      rcases Nat.lt_or_eq_of_le (show q ≤ k by omega) with g | rfl
      · exact newP_ge g hp
      · exact absurd ⟨hp.1, by have := hp.2; omega⟩ h
theorem newP_put {x : Cache} (hx : x.Ok) {b : Nat} : ∀ {k}, k ≤ x.l.length → newP x.l k b = -1 ∨ ∃ q, q < k ∧ newP x.l k b = (q : Nat) ∧ putQ x q b
  | 0, _ => .inl rfl
  | k + 1, hk => by
    rw [newP_succ]
    split
    · rename_i h
      have := hx.blk (show k < x.l.length by omega) h.1
      exact .inr ⟨k, by omega, rfl, h.1, by omega⟩
    · rcases newP_put hx (show k ≤ x.l.length by omega) (b := b) with g | ⟨q, g1, g2, g3⟩
      · exact .inl g
      · exact .inr ⟨q, by omega, g2, g3⟩
theorem PosI.newest {x : Cache} (hx : x.Ok) {h : C6} (hp : PosI x h) {b : Nat} (hb : b < 6) : h.get b ≤ newP x.l x.l.length b := by
  have h1 : -1 ≤ newP x.l x.l.length b := by rcases newP_put hx (Nat.le_refl _) (b := b) with g | ⟨q, _, g, _⟩ <;> omega
  rcases hp.holds hx hb with g | g | ⟨q, g1, g2, g3⟩
  · omega
  · omega
  · have := newP_ge g1 g3
    omega
/-- an image -/
theorem PosI.img {x : Cache} (hx : x.Ok) {h : C6} (hp : PosI x h) {l : List Int} (hl : l.length = x.n.toNat) (he : ∀ b, b < l.length → l.getD b 0 = h.get b) : IsImg x l := by
  have hn := hx.n
  refine ⟨by omega, fun b hb => ?_⟩
  rw [he b hb]
  unfold okAt
  rcases hp.holds hx (show b < 6 by omega) with g | g | ⟨q, g1, g2, g3, g4⟩
  · exact .inr (.inl g)
  · exact .inl g
  · right; right
    rw [g2, Int.toNat_natCast]
    exact ⟨by omega, g3, g4⟩
end Go.Proofs


namespace Go.Proofs
open Go Go.Sx
set_option maxRecDepth 100000
set_option maxHeartbeats 40000000
theorem show_play {x : Cache} (hk : x.chk = 0) {im : Img} (h : ImgOk x im) : playV x im.t.D im.torn = [.sl 1 x.n.toNat (iF im.h.get), .int .i64 0] ∧ im.t.D.length ≤ 16 := by
  obtain ⟨h1, s, k, h2, h3⟩ := img_play (Cache.chk_ok hk) h
  refine ⟨?_, Classical.byContradiction fun g => h1 (.inl (by omega))⟩
  unfold playV
  rw [if_pos hk, if_neg h1, h2]
  dsimp only
  rw [h3]
  rfl
end Go.Proofs


namespace Go.Proofs
open Go Go.Sx
set_option maxRecDepth 100000
set_option maxHeartbeats 1000000
def Cache.force (x : Cache) (j : Nat) : Cache := ⟨x.n, x.l.set j (2, (x.l.getD j (0, 0)).2)⟩
theorem Cache.force_len (x : Cache) (j : Nat) : (x.force j).l.length = x.l.length := by simp [Cache.force]
theorem Cache.force_get (x : Cache) {j k : Nat} (hj : j < x.l.length) : (x.force j).l.getD k (0, 0) = if k = j then (2, (x.l.getD j (0, 0)).2) else x.l.getD k (0, 0) := by
  unfold Cache.force
  simp only [List.getD_eq_getElem?_getD, List.getElem?_set]
  by_cases h : j = k
  · subst h; simp [hj]
  · rw [if_neg h, if_neg (fun g => h g.symm)]
theorem Cache.force_ok {x : Cache} (h : x.Ok) {j : Nat} (hj : j < x.l.length) (h1 : (x.l.getD j (0, 0)).1 = 1) : (x.force j).Ok := by
  refine ⟨h.n, by rw [Cache.force_len]; exact h.len, fun o ho => ?_⟩
  obtain ⟨k, hk, rfl⟩ := List.getElem_of_mem ho
  have e : (x.force j).l[k] = (x.force j).l.getD k (0, 0) := by simp [List.getD_eq_getElem?_getD, hk]
  rw [e, Cache.force_get x hj]
  rw [Cache.force_len] at hk
  have hjo := h.ord _ (Cache.at hj)
  split
  · unfold Cache.OkO at hjo ⊢
    dsimp only
    have hn : (x.force j).n = x.n := rfl
    rw [hn]
    omega
  · exact h.ord _ (Cache.at hk)
theorem Cache.force_put (x : Cache) {j : Nat} (hj : j < x.l.length) (h1 : (x.l.getD j (0, 0)).1 = 1) (k : Nat) : (((x.force j).l.getD k (0, 0)).1 = 1 ∨ ((x.force j).l.getD k (0, 0)).1 = 2 ↔ (x.l.getD k (0, 0)).1 = 1 ∨ (x.l.getD k (0, 0)).1 = 2) ∧ ((x.force j).l.getD k (0, 0)).2 = (x.l.getD k (0, 0)).2 := by
  rw [Cache.force_get x hj]
  split
  · rename_i h
    subst h
    dsimp only
    exact ⟨⟨fun _ => .inl h1, fun _ => .inr rfl⟩, rfl⟩
  · exact ⟨Iff.rfl, rfl⟩
theorem force_img {x : Cache} {j : Nat} (hj : j < x.l.length) (h1 : (x.l.getD j (0, 0)).1 = 1) {l : List Int} (h : IsImg x l) : IsImg (x.force j) l := by
  refine ⟨h.1, fun b hb => ?_⟩
  have h2 := h.2 b hb
  unfold okAt at h2 ⊢
  rw [Cache.force_len]
  have h3 := Cache.force_put x hj h1 (l.getD b 0).toNat
  rw [h3.1, h3.2]
  exact h2
theorem Dr.rch {x : Cache} (hx : x.Ok) {k : Nat} {u v : PS} (h : Dr u v) : ∀ {D : List (Int × Int)}, RchU x k u D → ∃ D', RchU x k v D' := by
  induction h with
  | refl => exact fun h => ⟨_, h⟩
  | @step v b _ hb hc ih =>
    intro D hr
    obtain ⟨D', h2⟩ := ih hr
    have hbn : (b : Int) < x.n := by
      rcases (h2.inv hx).inv.cell _ b hb with g | ⟨q, g1, _, ⟨g2, g3⟩, _⟩
      · exact absurd g hc.2
      · have hq : q < x.l.length := by have := h2.le; omega
        have := hx.ord _ (Cache.at hq)
        unfold Cache.OkO at this
        omega
    exact ⟨_, h2.drain hbn hc⟩
theorem force_rch {x : Cache} (hx : x.Ok) {j : Nat} (hj : j < x.l.length) (h1 : (x.l.getD j (0, 0)).1 = 1) {k : Nat} {u : PS} {D : List (Int × Int)} (h : RchU (x.force j) k u D) : ∃ D', RchU x k u D' := by
  induction h with
  | begin => exact ⟨_, .begin⟩
  | @drain k u D b hr hb hcan ih =>
    obtain ⟨D', h2⟩ := ih
    exact ⟨_, h2.drain hb hcan⟩
  | @order k u D hr hk ih =>
    obtain ⟨D', h2⟩ := ih
    rw [Cache.force_len] at hk
    have h3 := h2.order hk
    rw [Cache.force_get x hj]
    split
    · rename_i hkj
      subst hkj
      have hl : 0 < u.E.length := by rw [(h2.inv hx).len]; omega
      have hblk := hx.blk hk (.inl h1)
      have h4 := Dr.order u hl k ((2, (x.l.getD k (0, 0)).2) : Int × Int) (fun _ => by dsimp only; omega)
      have e : u.base k ((2, (x.l.getD k (0, 0)).2) : Int × Int) = u.orderU k (x.l.getD k (0, 0)) := by
        unfold PS.base PS.orderU
        rw [if_pos (.inr rfl), if_pos h1]
      rw [e] at h4
      exact h4.rch hx h3
    · exact ⟨_, h3⟩
theorem RchU.pos {x : Cache} (hx : x.Ok) {u : PS} {D : List (Int × Int)} (h : RchU x x.l.length u D) : PosI x u.M ∧ ∀ b : Nat, (b : Int) < x.n → u.can b → PosI x (u.M.set b (-2)) := by
  have h1 := u_rch hx h
  have hl : 0 < u.E.length := by rw [(h.inv hx).len]; omega
  refine ⟨⟨⟨⟨u.tidy, D⟩, u.M, false⟩, .inl ⟨rfl, h1, rfl⟩, rfl⟩, fun b hb hc => ?_⟩
  exact ⟨⟨⟨u.tidy.drain b, D ++ [((x.l.length : Int), (b : Int))]⟩, u.M.set b (-2), true⟩, .inr ⟨rfl, u.tidy, D, b, h1, hb, (PS.can_tidy u hl b).2 hc, rfl, rfl⟩, rfl⟩
theorem force_pos {x : Cache} (hx : x.Ok) {j : Nat} (hj : j < x.l.length) (h1 : (x.l.getD j (0, 0)).1 = 1) {l : List Int} (h : IsPos (x.force j) l) : IsPos x l := by
  obtain ⟨c, hp, he⟩ := h
  refine ⟨c, ?_, he⟩
  obtain ⟨u, D, h2, h3⟩ := hp.u (Cache.force_ok hx hj h1)
  rw [Cache.force_len] at h2
  obtain ⟨D', h4⟩ := force_rch hx hj h1 h2
  obtain ⟨h5, h6⟩ := h4.pos hx
  rcases h3 with rfl | ⟨b, g1, g2, rfl⟩
  · exact h5
  · exact h6 b g1 g2
theorem empty_newest {x : Cache} (hx : x.Ok) {u : PS} {D : List (Int × Int)} (h : RchU x x.l.length u D) (hn : ∀ e, u.ep e = NO) {b : Nat} (hb : b < 6) : u.M.get b = newP x.l x.l.length b := by
  have h1 := (h.pos hx).1.newest hx hb
  rcases newP_put hx (Nat.le_refl _) (b := b) with g | ⟨q, g1, g2, g3⟩
  · have := ((h.inv hx).inv.med b hb).ge
    omega
  · rcases (h.invB hx).kept q g1 b hb g3 with k | k
    · omega
    · rw [hn, C6.get_all hb] at k
      omega
theorem no_of_cnt {u : PS} (h : cntL u.E = 0) (e : Nat) : u.ep e = NO := by
  refine C6.ext' fun b hb => Classical.byContradiction fun hne => ?_
  rw [C6.get_all hb] at hne
  have hl := PS.ep_lt hb hne
  have key : ∀ (E : List C6) (i : Nat), i < E.length → cntC (E.getD i NO) 6 ≤ cntL E := by
    intro E
    induction E with
    | nil => intro i hi; simp at hi
    | cons c E ih =>
      intro i hi
      have h0 := cntL_nonneg E
      have h1 := cntC_le c 6
      cases i with
      | zero => show cntC c 6 ≤ _; simp only [cntL]; omega
      | succ i =>
        have := ih i (by simpa using hi)
        show cntC (E.getD i NO) 6 ≤ _
        simp only [cntL]
        omega
  have h1 := key u.E e hl
  have h2 : ∀ j, b < j → j ≤ 6 → 1 ≤ cntC (u.ep e) j := by
    intro j
    induction j with
    | zero => intro h; omega
    | succ j ih =>
      intro h3 h4
      rw [cntC_succ]
      have := one_le ((u.ep e).get j)
      by_cases g : j = b
      · subst g
        rw [one_pos hne]
        have := cntC_le (u.ep e) j
        omega
      · have := ih (by omega) (by omega)
        omega
  have h3 : 1 ≤ cntC (u.E.getD e NO) 6 := h2 6 hb (by omega)
  omega
theorem some_can {x : Cache} (hx : x.Ok) {k : Nat} {u : PS} {D : List (Int × Int)} (h : RchU x k u D) (hc : 0 < cntL u.E) : ∃ b : Nat, (b : Int) < x.n ∧ u.can b := by
  have hne : ∃ e, u.ep e ≠ NO := Classical.byContradiction fun hn => by
    have hall : ∀ e, u.ep e = NO := fun e => Classical.byContradiction fun g => hn ⟨e, g⟩
    have : ∀ E : List C6, (∀ c ∈ E, c = NO) → cntL E = 0 := by
      intro E
      induction E with
      | nil => intro _; rfl
      | cons c E ih =>
        intro h
        simp only [cntL]
        rw [h c (by simp), cntC_no 6 (by omega), ih (fun d hd => h d (by simp [hd]))]
        rfl
    have := this u.E (fun c hc => by
      obtain ⟨i, hi, rfl⟩ := List.getElem_of_mem hc
      have := hall i
      unfold PS.ep at this
      rw [show u.E.getD i (C6.all (-3)) = u.E[i] by simp [List.getD_eq_getElem?_getD, hi]] at this
      exact this)
    omega
  have hi : 0 ≤ idxC isS u.E := by
    rcases idxC_spec isS u.E with ⟨_, g⟩ | ⟨i, g, _⟩
    · obtain ⟨e, he⟩ := hne
      exfalso
      by_cases hl : e < u.E.length
      · have g2 := g e hl
        have g3 : isS (u.E.getD e (C6.all (-3))) = true := isS_iff.2 he
        rw [g2] at g3
        cases g3
      · refine he ?_
        unfold PS.ep
        rw [List.getD_eq_getElem?_getD, List.getElem?_eq_none (by omega)]
        rfl
    · omega
  obtain ⟨pre, c, post, e, g1, g2, g3⟩ := PS.first_at hi
  obtain ⟨b, hb, hbe⟩ := C6.ne_no.1 g2
  have hep : u.ep (idxC isS u.E).toNat = c := by
    rw [g3]
    unfold PS.ep
    rw [e]
    simp [List.getD_eq_getElem?_getD]
  have hcan : u.can b := ⟨hi, by rw [hep]; exact hbe⟩
  refine ⟨b, ?_, hcan⟩
  rcases (h.inv hx).inv.cell (idxC isS u.E).toNat b hb with k1 | ⟨q, k1, _, ⟨k2, k3⟩, _⟩
  · exact absurd k1 hcan.2
  · have hq : q < x.l.length := by have := h.le; omega
    have := hx.ord _ (Cache.at hq)
    unfold Cache.OkO at this
    omega
theorem drain_cnt {u : PS} {b : Nat} (hb : b < 6) (h : u.can b) : cntL (u.drainU b).E + 1 = cntL u.E := by
  have h1 := PS.tot_wr u (idxC isS u.E).toNat b hb
  have hW : (u.drainU b).W = u.W + 1 := by unfold PS.drainU; rw [PS.wr_pos h.2]
  unfold PS.tot at h1
  have e : u.drainU b = u.wr (idxC isS u.E).toNat b := rfl
  rw [← e, hW] at h1
  omega
theorem rchU_play {x : Cache} (hk : x.chk = 0) {u : PS} {D : List (Int × Int)} (h : RchU x x.l.length u D) : playV x D false = [.sl 1 x.n.toNat (iF u.M.get), .int .i64 0] := by
  have hx := Cache.chk_ok hk
  have h1 := u_rch hx h
  exact (show_play hk (im := ⟨⟨u.tidy, D⟩, u.M, false⟩) (.inl ⟨rfl, h1, rfl⟩)).1
end Go.Proofs


namespace Go.Proofs
open Go Go.Sx
set_option maxRecDepth 100000
set_option maxHeartbeats 40000000
/-- all orders, without a drain, as the reference has it -/
def RS.run (n : Nat) (l : List (Int × Int)) : Nat → RS
  | 0 => RS.begin
  | k + 1 => (RS.run n l k).order n k (l.getD k (0, 0))
theorem Cache.Ok.blkn {x : Cache} (hx : x.Ok) {n : Nat} (hn : x.n = n) {k : Nat} (hk : k < x.l.length) : (x.l.getD k (0, 0)).1 = 1 ∨ (x.l.getD k (0, 0)).1 = 2 → 0 ≤ (x.l.getD k (0, 0)).2 ∧ (x.l.getD k (0, 0)).2 < n := by
  intro g
  have := hx.ord _ (show x.l.getD k (0, 0) ∈ x.l by
    rw [show x.l.getD k (0, 0) = x.l[k] by simp [List.getD_eq_getElem?_getD, hk]]
    exact List.getElem_mem hk)
  unfold Cache.OkO at this
  omega
theorem Sim.run {x : Cache} (hx : x.Ok) {n : Nat} (hn : x.n = n) : ∀ k, k ≤ x.l.length → Sim n (RS.run n x.l k) (runU x.l k)
  | 0, _ => Sim.begin (by have := hx.n; omega)
  | k + 1, hk => by
    have hl : 0 < (runU x.l k).E.length := by rw [((runU_rch x k (by omega)).inv hx).len]; omega
    exact (Sim.run hx hn k (by omega)).order (by have := hx.n; omega) hl (by omega) (hx.blkn hn (by omega))
theorem Sim.bnd {x : Cache} (hx : x.Ok) {n : Nat} (hn : x.n = n) {k : Nat} {r : RS} {u : PS} {D : List (Int × Int)} (hs : Sim n r u) (h2 : RchU x k u D) : 0 ≤ r.W ∧ r.W ≤ k ∧ 0 < r.E.length ∧ r.E.length ≤ k + 1 ∧ 0 ≤ r.entries n ∧ r.entries n ≤ k := by
  have hi := h2.inv hx
  have h3 := cntL_nonneg u.E
  have h1 := hi.tot
  have h4 := hi.len
  have h5 := nb_le x k
  have h6 := hi.D
  have h7 := hs.W
  have h8 := hs.len
  have h9 := hs.entries (by have := hx.n; omega)
  unfold PS.tot at h1
  omega
theorem run_bnd {x : Cache} (hx : x.Ok) {n : Nat} (hn : x.n = n) {k : Nat} (hk : k ≤ x.l.length) : 0 ≤ (RS.run n x.l k).W ∧ (RS.run n x.l k).W ≤ k ∧ 0 < (RS.run n x.l k).E.length ∧ (RS.run n x.l k).E.length ≤ k + 1 ∧ 0 ≤ (RS.run n x.l k).entries n ∧ (RS.run n x.l k).entries n ≤ k :=
  (Sim.run hx hn k hk).bnd hx hn (runU_rch x k hk)
end Go.Proofs

