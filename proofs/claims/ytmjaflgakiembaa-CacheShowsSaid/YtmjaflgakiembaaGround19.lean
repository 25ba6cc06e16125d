/- Own work: texts of the proof of a law (CaL4, CaL5, CaU7, CaL11). No condition. -/
import Derived.Test.YtmjaflgakiembaaGround18
namespace Go.Proofs
open Go Go.Sx
set_option maxRecDepth 100000
set_option maxHeartbeats 40000000
theorem PosI.img {x : Cache} (hx : x.Ok) {h : C6} (hp : PosI x h) {l : List Int} (hl : l.length = x.n.toNat) (he : ∀ b, b < l.length → l.getD b 0 = h.get b) : IsImg x l := by
  have hn := hx.n
  refine ⟨by omega, fun b hb => ?_⟩
  rw [he b hb]
  unfold okAt
  rcases hp.holds hx (show b < 6 by omega) with g | g | ⟨q, g1, g2, g3, g4⟩
  · exact .inr (.inl g)
  · exact .inl g
  · right; right
    rw [g2, Int.toNat_natCast]
    exact ⟨by omega, g3, g4⟩
def Beh (x : Cache) (h : C6) (i j : Nat) : Prop := (x.l.getD i (0, 0)).1 = 4 ∨ ∃ b, b < j ∧ (i : Int) < h.get b
theorem Beh.succ {x : Cache} {h : C6} {i j : Nat} : Beh x h i (j + 1) ↔ Beh x h i j ∨ (i : Int) < h.get j := by
  unfold Beh
  constructor
  · rintro (g | ⟨b, g1, g2⟩)
    · exact .inl (.inl g)
    · rcases Nat.lt_or_eq_of_le (show b ≤ j by omega) with k | rfl
      · exact .inl (.inr ⟨b, k, g2⟩)
      · exact .inr g2
  · rintro ((g | ⟨b, g1, g2⟩) | g)
    · exact .inl g
    · exact .inr ⟨b, by omega, g2⟩
    · exact .inr ⟨j, by omega, g⟩
end Go.Proofs


namespace Go.Proofs
open Go Go.Sx
set_option maxRecDepth 100000
set_option maxHeartbeats 40000000
end Go.Proofs


namespace Go.Proofs
open Go Go.Sx
set_option maxRecDepth 100000
set_option maxHeartbeats 1000000
def Cache.force (x : Cache) (j : Nat) : Cache := ⟨x.n, x.l.set j (2, (x.l.getD j (0, 0)).2)⟩
theorem RchU.pos {x : Cache} (hx : x.Ok) {u : PS} {D : List (Int × Int)} (h : RchU x x.l.length u D) : PosI x u.M ∧ ∀ b : Nat, (b : Int) < x.n → u.can b → PosI x (u.M.set b (-2)) := by
  have h1 := u_rch hx h
  have hl : 0 < u.E.length := by rw [(h.inv hx).len]; omega
  refine ⟨⟨⟨⟨u.tidy, D⟩, u.M, false⟩, .inl ⟨rfl, h1, rfl⟩, rfl⟩, fun b hb hc => ?_⟩
  exact ⟨⟨⟨u.tidy.drain b, D ++ [((x.l.length : Int), (b : Int))]⟩, u.M.set b (-2), true⟩, .inr ⟨rfl, u.tidy, D, b, h1, hb, (PS.can_tidy u hl b).2 hc, rfl, rfl⟩, rfl⟩
end Go.Proofs


namespace Go.Proofs
open Go Go.Sx
set_option maxRecDepth 100000
set_option maxHeartbeats 40000000
theorem chk80 {x : Cache} (h : x.chk ≠ 0) : x.chk = 80 := by unfold Cache.chk at h ⊢; split <;> simp_all
theorem Copy24p (x : Cache) (hl : x.l.length ≤ 1000000) : PureC Try.prog 24 false [x.v] (· = x.v) := by
  refine pureC_of_exec Try.E_ok Try.func24 rfl (by kernel_rfl) ?_
  (repeat' ((conv => whnf); (first | (with_reducible first | apply spl | apply spl') <;> intro hc <;> try (exfalso; omega) | with_reducible refine iJ fun hc => ?_ | refine vcq (k := ?_) | refine dr 5072006 (k := ?_) | refine dr 5 (k := ?_) | refine dr 10 (k := ?_) | refine dr 2005 (k := ?_)))); all_goals ((try conv => whnf); try with_reducible exact trivial)
  refine ⟨_, rfl, ?_⟩
  (repeat' ((conv => whnf); (first | (with_reducible first | apply spl | apply spl') <;> intro hc <;> try (exfalso; omega) | with_reducible refine iJ fun hc => ?_ | refine vcq (k := ?_) | refine dr 5072006 (k := ?_) | refine dr 5 (k := ?_) | refine dr 10 (k := ?_) | refine dr 2005 (k := ?_)))); all_goals ((try conv => whnf); try with_reducible exact trivial)
end Go.Proofs

