/- Own work: a text of the proof of a law (SxOps). -/
import Derived.Test.YtghddmaihcjmlaaSxSound
namespace Go.Sx
open Go

theorem wrap_in (k : IntKind) (n : Int) (h : inR k n) : k.wrap n = n := by
  obtain ⟨h1, h2⟩ := h
  cases k <;> simp [IntKind.wrap, IntKind.bits, IntKind.signed, IntKind.min, IntKind.max] at * <;> omega

variable {P : Program} {E : Env}

/-- what a pure operation does -/
def Runs (P : Program) (I : Nat → Prop) (η : Eta) (w : World) (s : Sem Value) (v : V) : Prop := ∃ x, s.run P w = .ok x w ∧ Den I η w v x

def PR.sound (P : Program) (I : Nat → Prop) (η : Eta) (w : World) (s : Sem Value) : PR → Prop
  | .bad => True
  | .ok v => Runs P I η w s v
  | .need c v => c → Runs P I η w s v

theorem binInt_sound (I : Nat → Prop) (η : Eta) (w : World) (op : BinOp) (t : TypeId) (k : IntKind) (a b : Int) :
    (binInt op k a b).sound P I η w (binOp op t (.int k a) (.int k b)) := by
  cases op <;> simp only [binInt, PR.sound, Runs]
  case add => intro h; exact ⟨.int k (a + b), by simp [binOp, Op.intArith, wrap_in k _ h], rfl⟩
  case sub => intro h; exact ⟨.int k (a - b), by simp [binOp, Op.intArith, wrap_in k _ h], rfl⟩
  case mul => intro h; exact ⟨.int k (a * b), by simp [binOp, Op.intArith, wrap_in k _ h], rfl⟩
  case eql => exact ⟨.bool (a == b), by simp [binOp, Op.intCmp], congrArg Value.bool (by rw [Bool.eq_iff_iff]; simp)⟩
  case neq => exact ⟨.bool (a != b), by simp [binOp, Op.intCmp], congrArg Value.bool (by rw [Bool.eq_iff_iff]; simp)⟩
  case lss => exact ⟨.bool (decide (a < b)), by simp [binOp, Op.intCmp], rfl⟩
  case leq => exact ⟨.bool (decide (a ≤ b)), by simp [binOp, Op.intCmp], rfl⟩
  case gtr => exact ⟨.bool (decide (a > b)), by simp [binOp, Op.intCmp], rfl⟩
  case geq => exact ⟨.bool (decide (a ≥ b)), by simp [binOp, Op.intCmp], rfl⟩

theorem asProp_den {I : Nat → Prop} {η : Eta} {w : World} {v : V} {x : Value} {p : Prop} {d : Decidable p} (h : v.asProp = some ⟨p, d⟩) (hd : Den I η w v x) : x = .bool (@decide p d) := by
  cases v <;> simp only [V.asProp] at h <;> try cases h
  · exact hd
  · rename_i b
    cases b <;> cases h <;> exact hd

/-- '==' of booleans -/
theorem equalIn_bool {t : TypeId} (ht : P.underlying t = some .bool) (w : World) (d : Nat) (a b : Bool) : (Op.equalIn (d + 1) t (.bool a) (.bool b)).run P w = .ok (a == b) w := by
  simp [Op.equalIn, run_underlying ht]
theorem equal_bool {t : TypeId} (ht : P.underlying t = some .bool) (w : World) (a b : Bool) : (Op.equal t (.bool a) (.bool b)).run P w = .ok (a == b) w :=
  equalIn_bool ht w 9999 a b

theorem DenL.length {I : Nat → Prop} {η : Eta} {w : World} : ∀ {cs : List V} {vs : List Value}, DenL I η w cs vs → vs.length = cs.length
  | [], _, h => by rw [show _ = [] from h]; rfl
  | _ :: cs, _, h => by obtain ⟨v, r, rfl, _, h3⟩ := h; simp [DenL.length h3]

theorem DenL.getElem? {I : Nat → Prop} {η : Eta} {w : World} : ∀ {cs : List V} {vs : List Value}, DenL I η w cs vs → ∀ (i : Nat) (c : V), cs[i]? = some c → ∃ v, vs[i]? = some v ∧ Den I η w c v
  | [], _, _, i, c, h => by simp at h
  | _ :: cs, _, h, 0, c, hc => by obtain ⟨v, r, rfl, h2, h3⟩ := h; simp at hc; subst hc; exact ⟨v, rfl, h2⟩
  | _ :: cs, _, h, i + 1, c, hc => by
    obtain ⟨v, r, rfl, h2, h3⟩ := h
    simp only [List.getElem?_cons_succ] at hc ⊢
    exact DenL.getElem? h3 i c hc

theorem DenL.drop {I : Nat → Prop} {η : Eta} {w : World} : ∀ (n : Nat) {cs : List V} {vs : List Value}, DenL I η w cs vs → DenL I η w (cs.drop n) (vs.drop n)
  | 0, _, _, h => by simpa using h
  | n + 1, [], _, h => by rw [show _ = [] from h]; simp [DenL]
  | n + 1, _ :: cs, _, h => by obtain ⟨v, r, rfl, _, h3⟩ := h; simpa using DenL.drop n h3

theorem DenL.take {I : Nat → Prop} {η : Eta} {w : World} : ∀ (n : Nat) {cs : List V} {vs : List Value}, DenL I η w cs vs → DenL I η w (cs.take n) (vs.take n)
  | 0, _, _, h => by simp [DenL]
  | n + 1, [], _, h => by rw [show _ = [] from h]; simp [DenL]
  | n + 1, _ :: cs, _, h => by obtain ⟨v, r, rfl, h2, h3⟩ := h; exact ⟨v, r.take n, by simp, h2, DenL.take n h3⟩

theorem DenL.append {I : Nat → Prop} {η : Eta} {w : World} : ∀ {cs ds : List V} {vs us : List Value}, DenL I η w cs vs → DenL I η w ds us → DenL I η w (cs ++ ds) (vs ++ us)
  | [], _, _, _, h, k => by rw [show _ = [] from h]; exact k
  | _ :: cs, _, _, _, h, k => by obtain ⟨v, r, rfl, h2, h3⟩ := h; exact ⟨v, _, rfl, h2, DenL.append h3 k⟩

theorem DenL.set {I : Nat → Prop} {η : Eta} {w : World} : ∀ {cs : List V} {vs : List Value} (i : Nat) {c : V} {v : Value}, DenL I η w cs vs → Den I η w c v → DenL I η w (cs.set i c) (vs.set i v)
  | [], _, _, _, _, h, _ => by rw [show _ = [] from h]; simp [DenL]
  | _ :: cs, _, 0, _, _, h, hc => by obtain ⟨v, r, rfl, h2, h3⟩ := h; exact ⟨_, r, rfl, hc, h3⟩
  | _ :: cs, _, i + 1, _, _, h, hc => by obtain ⟨v, r, rfl, h2, h3⟩ := h; exact ⟨v, _, rfl, h2, DenL.set i h3 hc⟩

def aggD : TypeDesc → Bool
  | .struct _ | .array _ _ => true
  | _ => false

theorem run_isAgg {t : TypeId} {d : TypeDesc} (h : P.underlying t = some d) (w : World) : (isAgg t).run P w = .ok (aggD d) w := by
  simp only [isAgg, Sem.run_bind, run_underlying h, Result.andThen_ok]
  cases d <;> rfl

theorem agg_kind (P : Program) (d : TypeDesc) (i : TI) (h : i.kind = kindOf P d) : i.agg = aggD d := by
  unfold TI.agg
  rw [h]
  cases d <;> rfl

theorem Addr.add_none (b o n : Nat) : (⟨b, o, none⟩ : Addr).add n = ⟨b, o + n, none⟩ := by
  unfold Addr.add; split <;> simp_all

/-- a load of cells that are known -/
theorem load_cells (hE : EnvOk E P) {I : Nat → Prop} {η : Eta} {w : World} (t : TypeId) (b o : Nat) (cs : List V) (vs : List Value)
    (hc : ∀ j u, vs[j]? = some u → w.cell? ⟨b, o + j, none⟩ = some u) (h1 : ∀ u ∈ vs, u.oneCell' = true) (hd : DenL I η w cs vs) :
    (mkLoad E t cs).sound P I η w (Instr.loadAt t (.pointer (some ⟨b, o, none⟩))) := by
  unfold mkLoad
  split
  · rename_i hk ha
    obtain ⟨i, d, hi, hu, hs, _, hkind, _, _⟩ := hE.info hk
    have hagg := run_isAgg hu w
    rw [← agg_kind P d _ hkind, ha] at hagg
    simp only [cond_eq_ite]
    split
    · rename_i hle
      have hle' : (E.ti t).size ≤ cs.length := by rw [len_eq] at hle; exact Nat.le_of_ble_eq_true hle
      simp only [PR.sound, Runs]
      have hl := hd.length
      refine ⟨.agg (vs.take (E.ti t).size).toArray, ?_, ?_⟩
      · have hlc := run_loadCells_list (P := P) w ⟨b, o, none⟩ (vs.take (E.ti t).size) (fun j u hj => by
          rw [Addr.add_none]
          refine hc j u ?_
          rw [List.getElem?_take] at hj
          split at hj
          · exact hj
          · cases hj)
        have e1 : (vs.take (E.ti t).size).length = i.size := by simp [hs] at *; omega
        rw [e1] at hlc
        simp [Instr.loadAt, Instr.sureAddr, loadVar, hagg, sizeOf, typeInfo, hi, hlc]
      · refine ⟨_, rfl, fun u hu => h1 u (List.mem_of_mem_take hu), ?_⟩
        rw [take_eq]
        exact hd.take _
    · exact trivial
  · rename_i hk ha
    obtain ⟨i, d, hi, hu, hs, _, hkind, _, _⟩ := hE.info hk
    have hagg := run_isAgg hu w
    rw [← agg_kind P d _ hkind, ha] at hagg
    split
    · rename_i c cs' 
      obtain ⟨v, r, rfl, h2, h3⟩ := hd
      have := hc 0 v rfl
      simp only [Nat.add_zero] at this
      exact ⟨v, by simp [Instr.loadAt, Instr.sureAddr, loadVar, hagg, this], h2⟩
    · exact trivial
  · exact trivial

end Go.Sx
