/- Own work: a text of the proof of a law (SxMapD). -/
import Derived.Test.YtghddmaihcjmlaaSxMapC
import Derived.Test.YtghddmaihcjmlaaSxOps3
namespace Go.Sx
open Go
variable {P : Program} {E : Env}

theorem den_ofC_list (I : Nat → Prop) (η : Eta) (w : World) : ∀ (l : List Value), DenL I η w (l.map ofZ) l
  | [] => rfl
  | v :: l => ⟨v, l, rfl, den_ofZ I η w v, den_ofC_list I η w l⟩

theorem zeroOf_agg {ag : Bool} {i : TypeInfo} {zs : List V} (h : zeroOf ag i = some zs) : ∃ z, i.zero = some z ∧ zs = z.cells.toList.map ofZ ∧ (∀ u ∈ z.cells.toList, u.oneCell' = true) ∧ z.cells.size = i.size ∧ ag = isAggV z := by
  unfold zeroOf at h
  split at h
  · rename_i z hz
    simp only [cond_eq_ite] at h
    split at h
    · rename_i hc
      simp only [Bool.and_eq_true] at hc
      cases h
      exact ⟨z, hz, rfl, fun u hu => List.all_eq_true.1 hc.1.1 u hu, beq_true hc.1.2, by have := hc.2; revert this; cases ag <;> cases isAggV z <;> simp [bEq]⟩
    · cases h
  · cases h

theorem zeroOf_spec {ag : Bool} {i : TypeInfo} {zs : List V} (h : zeroOf ag i = some zs) : ∃ z, i.zero = some z ∧ zs = z.cells.toList.map ofZ ∧ (∀ u ∈ z.cells.toList, u.oneCell' = true) ∧ z.cells.size = i.size := by
  obtain ⟨z, h1, h2, h3, h4, _⟩ := zeroOf_agg h
  exact ⟨z, h1, h2, h3, h4⟩
end Go.Sx
namespace Go.Sx
open Go
variable {P : Program} {E : Env}

theorem keyInts_den {I : Nat → Prop} {η : Eta} {w : World} : ∀ {ks : List IntKind} {cs : List V} {k : List Int} {vs : List Value}, keyInts ks cs = some k → DenL I η w cs vs → vs = keyVals ks k ∧ k.length = ks.length
  | [], [], k, vs, h, hd => by simp [keyInts] at h; subst h; exact ⟨hd, rfl⟩
  | q :: ks, .int q' n :: l, k, vs, h, hd => by
    simp only [keyInts, cond_eq_ite] at h
    split at h
    · rename_i hq
      have hq : q = q' := by simpa using hq
      subst hq
      split at h
      · rename_i r hr
        cases h
        obtain ⟨v, rest, rfl, h1, h2⟩ := hd
        obtain ⟨e1, e2⟩ := keyInts_den hr h2
        have h1 : v = .int q n := h1
        subst h1 e1
        exact ⟨rfl, by simp [e2]⟩
      · cases h
    · cases h
  | [], _ :: _, _, _, h, _ => by simp [keyInts] at h
  | q :: ks, [], _, _, h, _ => by simp [keyInts] at h
  | q :: ks, c :: l, k, vs, h, hd => by
    cases c <;> simp only [keyInts] at h <;> first | (cases h; done) | skip
    rename_i q' n
    simp only [cond_eq_ite] at h
    split at h
    · rename_i hq
      have hq : q = q' := by simpa using hq
      subst hq
      split at h
      · rename_i r hr
        cases h
        obtain ⟨v, rest, rfl, h1, h2⟩ := hd
        obtain ⟨e1, e2⟩ := keyInts_den hr h2
        have h1 : v = .int q n := h1
        subst h1 e1
        exact ⟨rfl, by simp [e2]⟩
      · cases h
    · cases h

theorem keyV_den {I : Nat → Prop} {η : Eta} {w : World} {ks : List IntKind} {ka : Bool} {x : V} {k : List Int} {v : Value} (h : keyV ks ka x = some k) (hd : Den I η w x v) : v = encK ks ka k ∧ k.length = ks.length := by
  unfold keyV at h
  split at h
  · obtain ⟨vs, rfl, _, hdl⟩ := hd
    obtain ⟨rfl, h2⟩ := keyInts_den h hdl
    exact ⟨rfl, h2⟩
  · obtain ⟨e1, h2⟩ := keyInts_den h (show DenL I η w [x] [v] from ⟨v, [], rfl, hd, rfl⟩)
    refine ⟨?_, h2⟩
    simp only [encK, cond_false, ← e1, List.headD_cons]
  · cases h
end Go.Sx
