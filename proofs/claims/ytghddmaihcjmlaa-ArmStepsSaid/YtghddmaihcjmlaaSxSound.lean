/- Own work: a text of the proof of a law (SxSound). -/
import Derived.Test.YtghddmaihcjmlaaSxDen
import Derived.ChangeKeysEq
namespace Go.Sx
open Go

/-! ### the strict forms are the plain ones -/
mutual
theorem force_eq : ∀ (v : V) (K : V → Prop), force v K = K v
  | .int _ _, _ => rfl
  | .prop _ _, _ => rfl
  | .kb true, _ => rfl
  | .kb false, _ => rfl
  | .ptr _ _, _ => rfl
  | .eptr _ _ _ _, _ => rfl
  | .iptr cs, K => by simp only [force]; exact forceL_eq cs _
  | .sl _ _ _, _ => rfl
  | .osl _ _, _ => rfl
  | .map _, _ => rfl
  | .fn _ a b, K => by simp only [force]; rw [forceL_eq a, forceL_eq b]
  | .agg cs, K => by simp only [force]; exact forceL_eq cs _
  | .tup cs, K => by simp only [force]; exact forceL_eq cs _
  | .lit _, _ => rfl
  | .ite _ v, K => by simp only [force]; exact force_eq v _
  | .sem _, _ => rfl
  | .imap _ _ _ _ _ _, _ => rfl
  | .yld _, _ => rfl
  | .any, _ => rfl
theorem forceL_eq : ∀ (l : List V) (K : List V → Prop), forceL l K = K l
  | [], _ => rfl
  | v :: l, K => by simp only [forceL]; rw [force_eq v, forceL_eq l]
end

theorem setK_eq {α : Type} : ∀ (l : List α) (n : Nat) (y : α) (K : List α → Prop), setK l n y K = K (set l n y)
  | [], _, _, _ => rfl
  | _ :: _, 0, _, _ => rfl
  | x :: l, n + 1, y, K => by simp only [setK, set]; exact setK_eq l n y _

theorem pushK_eq {α : Type} : ∀ (l : List α) (y : α) (K : List α → Prop), pushK l y K = K (l ++ [y])
  | [], _, _ => rfl
  | x :: l, y, K => by simp only [pushK, List.cons_append]; exact pushK_eq l y _

theorem lenK_eq {α : Type} : ∀ (l : List α) (K : Nat → Prop), lenK l K = K l.length
  | [], _ => rfl
  | _ :: l, K => by simp only [lenK, List.length_cons]; exact lenK_eq l _

theorem len_eq {α : Type} : ∀ (l : List α), len l = l.length
  | [] => rfl
  | _ :: l => by simp [len, len_eq l]

theorem app_eq {α : Type} : ∀ (k l : List α), app k l = k ++ l
  | [], _ => rfl
  | x :: k, l => by simp [app, app_eq k l]

theorem get_eq {α : Type} (d : α) : ∀ (l : List α) (n : Nat), get d l n = (l[n]?).getD d
  | [], _ => rfl
  | _ :: _, 0 => rfl
  | _ :: l, n + 1 => by simp [get, get_eq d l n]

theorem set_eq {α : Type} : ∀ (l : List α) (n : Nat) (y : α), set l n y = l.set n y
  | [], _, _ => rfl
  | _ :: _, 0, _ => rfl
  | x :: l, n + 1, y => by simp [set, set_eq l n y]

theorem drop_eq {α : Type} : ∀ (n : Nat) (l : List α), drop n l = l.drop n
  | 0, _ => rfl
  | _ + 1, [] => rfl
  | n + 1, _ :: l => by simp [drop, drop_eq n l]

theorem take_eq {α : Type} : ∀ (n : Nat) (l : List α), take n l = l.take n
  | 0, _ => rfl
  | _ + 1, [] => rfl
  | n + 1, _ :: l => by simp [take, take_eq n l]

theorem putK_eq (T : List V) (dst : Option Tmp) (v : V) (K : List V → Prop) : putK T dst v K = K (match dst with | some d => set T d v | none => T) := by
  cases dst with
  | none => rfl
  | some d => simp only [putK]; rw [force_eq, setK_eq]

/-- the table of types is the program's -/
def kindOf (P : Program) : TypeDesc → TK
  | .bool => .bool
  | .int k => .int k
  | .struct fs => .struct (fs.toList.map fun f => (f.offset, P.cellsOf f.type, f.type))
  | .array n e => .array n e
  | .slice e => .slice e
  | .map k e => .map k e
  | _ => .other

/-- may structs of this type be compared as their cells are? -/
def eqOk (P : Program) (t : TypeId) : TypeDesc → Bool
  | .struct fs => fs.all (fun f => f.name != "_") && !P.stoodInHeld t && !P.eqGuardType P.depth t
  | _ => false

/-- the cells of a type's zero value -/
def isAggV : Value → Bool
  | .agg _ => true
  | _ => false

def zeroOf (ag : Bool) (i : TypeInfo) : Option (List V) :=
  match i.zero with
  | some z => bif z.cells.toList.all (·.oneCell') && Nat.beq z.cells.size i.size && bEq ag (isAggV z) then some (z.cells.toList.map ofZ) else none
  | none => none

def tiOf (P : Program) (t : TypeId) : TI :=
  match P.info? t, P.underlying t with
  | some i, some d => ⟨true, i.size, i.bytes, kindOf P d, zeroOf (TI.agg { kind := kindOf P d }) i, eqOk P t d⟩
  | _, _ => {}

def EnvOk (E : Env) (P : Program) : Prop := ∀ t, (E.ti t).known = true → E.ti t = tiOf P t

theorem EnvOk.info {E : Env} {P : Program} (h : EnvOk E P) {t : TypeId} (hk : (E.ti t).known = true) :
    ∃ i d, P.info? t = some i ∧ P.underlying t = some d ∧ (E.ti t).size = i.size ∧ (E.ti t).bytes = i.bytes ∧ (E.ti t).kind = kindOf P d ∧ (E.ti t).zero = zeroOf (E.ti t).agg i ∧
      (E.ti t).eq = eqOk P t d := by
  have e := h t hk
  unfold tiOf at e
  split at e
  · rename_i i d hi hd
    refine ⟨i, d, hi, hd, ?_⟩
    rw [e]
    exact ⟨rfl, rfl, rfl, rfl, rfl⟩
  · rw [e] at hk; cases hk

/-- temporaries -/
def SatT (I : Nat → Prop) (η : Eta) (w : World) (T : List V) (tmps : Array Value) : Prop :=
  T.length = tmps.size ∧ ∀ i, Den I η w (get .any T i) (tmps.getD i undef)

theorem SatT.mono {I I' : Nat → Prop} {η η' : Eta} {w w' : World} {T : List V} {tmps : Array Value} (m : Mono I η w I' η' w') (h : SatT I η w T tmps) : SatT I' η' w' T tmps :=
  ⟨h.1, fun i => Den.mono m _ _ (h.2 i)⟩

theorem SatT.put {I : Nat → Prop} {η : Eta} {w : World} {T : List V} {a : Act} {dst : Option Tmp} {v : V} {x : Value} (h : SatT I η w T a.tmps) (hv : Den I η w v x) :
    SatT I η w (match dst with | some d => set T d v | none => T) (a.put dst x).tmps := by
  cases dst with
  | none => exact h
  | some d =>
    refine ⟨by simp [Act.put, set_eq, h.1], fun i => ?_⟩
    have h2 := h.2 i
    have h1 := h.1
    simp only [Act.put, set_eq, get_eq, List.getElem?_set] at h2 ⊢
    by_cases hd : d = i
    · subst hd
      by_cases hlt : d < T.length
      · simp only [hlt, if_true, Option.getD_some]
        have : (a.tmps.setIfInBounds d x).getD d undef = x := by simp [Array.getD, ← h1, hlt]
        rw [this]; exact hv
      · simp [hlt, Den]
    · simp only [hd, if_false]
      have : (a.tmps.setIfInBounds d x).getD i undef = a.tmps.getD i undef := by
        simp only [Array.getD_eq_getD_getElem?, Array.getElem?_setIfInBounds]
        simp [hd]
      rw [this]; exact h2

theorem Act.put_defers' (a : Act) (dst : Option Tmp) (v : Value) : (a.put dst v).defers = a.defers := by cases dst <;> rfl

/-! ### operands -/
theorem den_ofZ (I : Nat → Prop) (η : Eta) (w : World) (v : Value) : Den I η w (ofZ v) v := by
  unfold ofZ
  split <;> first | rfl | simp [Den]

theorem norm_den {I : Nat → Prop} {η : Eta} {w : World} {v : V} {x : Value} (h : Den I η w v x) : Den I η w (normV v) x := by
  unfold normV
  split
  · simpa [Den] using h
  · simpa [Den] using h
  · exact h

theorem normL_den {I : Nat → Prop} {η : Eta} {w : World} : ∀ {l : List V} {xs : List Value}, DenL I η w l xs → DenL I η w (normL l) xs
  | [], _, h => h
  | _ :: _, _, h => by
    obtain ⟨x, r, h1, h2, h3⟩ := h
    exact ⟨x, r, h1, norm_den h2, normL_den h3⟩

theorem den_ofC (I : Nat → Prop) (η : Eta) (w : World) (v : Value) : Den I η w (ofC v) v := by
  cases v <;> simp [ofC, Den]

theorem ev0_den {I : Nat → Prop} {η : Eta} {w : World} {T : List V} {a : Act} (h : SatT I η w T a.tmps) (x : Operand) : Den I η w (ev0 T x) (a.eval x) := by
  cases x with
  | tmp t => exact h.2 t
  | const v => exact den_ofC I η w v
  | global g => exact trivial
  | func f => exact ⟨[], [], rfl, rfl, rfl⟩

/-- the operand is there -/
def There (T : List V) (x : Operand) : Prop := ∀ p, (ev0 T x).isIte = some p → p

theorem ev_den {I : Nat → Prop} {η : Eta} {w : World} {T : List V} {a : Act} (h : SatT I η w T a.tmps) {x : Operand} (ht : There T x) : Den I η w (ev T x) (a.eval x) := by
  have h0 := ev0_den h x
  unfold ev
  unfold There at ht
  cases hv : ev0 T x with
  | ite p u =>
    rw [hv] at h0 ht
    exact h0.1 (ht p rfl)
  | _ => rw [hv] at h0; exact h0

theorem conds_true {T : List V} {e : Prop} (he : e) : ∀ {l : List Operand} {K : Prop}, conds T e l K → (∀ x ∈ l, There T x) ∧ K
  | [], _, h => ⟨fun _ hx => (by cases hx), h⟩
  | x :: l, K, h => by
    unfold conds at h
    cases hi : (ev0 T x).isIte with
    | none =>
      rw [hi] at h
      obtain ⟨h1, h2⟩ := conds_true he h
      refine ⟨fun y hy => ?_, h2⟩
      rcases List.mem_cons.1 hy with rfl | hy
      · intro p hp; rw [hi] at hp; cases hp
      · exact h1 y hy
    | some q =>
      rw [hi] at h
      obtain ⟨h1, h2⟩ := conds_true he h.2
      refine ⟨fun y hy => ?_, h2⟩
      rcases List.mem_cons.1 hy with rfl | hy
      · intro p hp; rw [hi] at hp; cases hp; exact h.1 he
      · exact h1 y hy

theorem conds_k {T : List V} {e : Prop} : ∀ {l : List Operand} {K : Prop}, conds T e l K → K
  | [], _, h => h
  | x :: l, K, h => by
    unfold conds at h
    cases hi : (ev0 T x).isIte with
    | none => rw [hi] at h; exact conds_k h
    | some q => rw [hi] at h; exact conds_k h.2

end Go.Sx
