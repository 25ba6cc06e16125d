/- Own work: a text of the proof of a law (SxPure). -/
import Derived.Test.YtghddmaihcjmlaaSxSlice
namespace Go.Sx
open Go
variable {P : Program} {E : Env}

theorem scal_any {I : Nat → Prop} {η : Eta} {w : World} {J : Nat → Prop} {w' : World} : (∀ (c : V) (v : Value), c.scal = true → Den I η w c v → Den J [] w' c v) ∧ (∀ (cs : List V) (vs : List Value), scalL cs = true → DenL I η w cs vs → DenL J [] w' cs vs) := by
  have key : ∀ k, (∀ (c : V) (v : Value), SizeOf.sizeOf c ≤ k → c.scal = true → Den I η w c v → Den J [] w' c v) ∧ (∀ (cs : List V) (vs : List Value), SizeOf.sizeOf cs ≤ k → scalL cs = true → DenL I η w cs vs → DenL J [] w' cs vs) := by
    intro k
    induction k with
    | zero =>
      refine ⟨fun c v hk => ?_, fun cs vs hk => ?_⟩
      · cases c <;> simp at hk
      · cases cs <;> simp at hk
    | succ k ih =>
      refine ⟨fun c v hk hs hd => ?_, fun cs vs hk hs hd => ?_⟩
      · cases c <;> simp only [V.scal, Bool.false_eq_true] at hs
        case int => exact hd
        case prop => exact hd
        case kb => exact hd
        case agg cs =>
          obtain ⟨vs, h1, h2, h3⟩ := hd
          exact ⟨vs, h1, h2, ih.2 cs vs (by simp at hk; omega) hs h3⟩
        case tup cs =>
          obtain ⟨vs, h1, h2⟩ := hd
          exact ⟨vs, h1, ih.2 cs vs (by simp at hk; omega) hs h2⟩
        case lit => exact hd
      · cases cs with
        | nil => exact hd
        | cons c cs =>
          simp only [scalL, Bool.and_eq_true] at hs
          obtain ⟨v, r, h1, h2, h3⟩ := hd
          exact ⟨v, r, h1, ih.1 c v (by simp at hk; omega) hs.1 h2, ih.2 cs r (by simp at hk; omega) hs.2 h3⟩
  exact ⟨fun c v => (key _).1 c v (Nat.le_refl _), fun cs vs => (key _).2 cs vs (Nat.le_refl _)⟩

section
variable {I : Nat → Prop} {η : Eta} {w : World} {H : List O} {keep : Bool} {J : Nat → Prop}

mutual
theorem rEnt_sound (hS : Objs I η w H) (hJ : ∀ b, own η H b → J b) (hI : keep = true → ∀ b, I b → J b) : ∀ (x y : V) (K : Prop) (v : Value), rEnt keep H x y K → Den I η w x v → Den J [] w y v ∧ K
  | .int k n, y, K, v, h, hd => by
    cases y <;> simp only [rEnt] at h
    case int =>
      split at h
      · rename_i hk; subst hk; obtain ⟨rfl, h⟩ := h; exact ⟨hd, h⟩
      · exact h.elim
    case any => exact ⟨trivial, h⟩
  | .prop p d, y, K, v, h, hd => by
    cases y <;> simp only [rEnt] at h
    case prop q e =>
      refine ⟨?_, h.2⟩
      rw [show v = _ from hd]
      simp only [Den]
      congr 1
      rw [Bool.eq_iff_iff]
      simp [h.1]
    case any => exact ⟨trivial, h⟩
  | .kb b, y, K, v, h, hd => by
    cases y <;> simp only [rEnt] at h
    case kb b' =>
      cases b <;> cases b' <;> first | exact ⟨hd, h⟩ | exact h.elim
    case prop q e =>
      cases b
      · refine ⟨?_, h.2⟩
        rw [show v = _ from hd]
        simp [Den, h.1]
      · refine ⟨?_, h.2⟩
        rw [show v = _ from hd]
        simp [Den, h.1]
    case any => exact ⟨trivial, h⟩
  | .osl id n, y, K, v, h, hd => by
    cases y <;> simp only [rEnt] at h
    case sl sz' n' f' =>
      split at h
      · rename_i ty sz m f nz hgt
        simp only [cond_eq_ite] at h
        split at h
        · rename_i hsz
          obtain rfl := beq_true hsz
          obtain ⟨h1, h2, hf, hk, h⟩ := h
          subst h1 h2
          refine ⟨?_, h⟩
          obtain ⟨⟨bb, c⟩, hη, hz, rfl⟩ := hd
          have hH := get_live hgt trivial
          obtain ⟨xs, hown, h1, hnil, hden⟩ := hS id _ _ hη hH
          cases bb with
          | none =>
            obtain rfl := (hz rfl).1
            exact .inl ⟨rfl, none, 0, rfl⟩
          | some b =>
            have hob : own η H b := ⟨id, c, _, hη, hH, trivial⟩
            have hsv : slVal (some b, c) n = .slice (some ⟨b, 0, none⟩) n c := rfl
            rw [hsv] at hown
            refine .inr ⟨b, 0, c, rfl, hJ b hob, fun i hi => ?_⟩
            have hrow := hden i hi
            have hle : (i + 1) * sz ≤ n * sz := Nat.mul_le_mul_right _ hi
            rw [Nat.add_mul] at hle
            refine ⟨(xs.drop (i * sz)).take sz, by simp [hown.1]; omega, fun j u hj => ?_, fun u hu => h1 u (List.mem_of_mem_drop (List.mem_of_mem_take hu)), ?_⟩
            · rw [List.getElem?_take] at hj
              split at hj
              · rw [List.getElem?_drop] at hj
                rw [Nat.zero_add]
                exact ownsRow_cell hown _ u hj
              · cases hj
            · rw [← hf i hi]
              rcases hk with hk | hk
              · exact DenL.mono ⟨fun _ _ he _ => by simp at he, hI hk, fun _ _ => rfl⟩ _ _ hrow
              · exact scal_any.2 _ _ (by rw [hf i hi]; exact hk i hi) hrow
        · exact h.elim
      · exact h.elim
    case any => exact ⟨trivial, h⟩
  | .sl sz n f, y, K, v, h, hd => by
    cases y <;> simp only [rEnt] at h
    case sl sz' n' f' =>
      obtain ⟨hk, rfl, rfl, hf, h⟩ := h
      refine ⟨?_, h⟩
      have hd' : Den J [] w (.sl sz n f) v := Den.mono (I := I) (η := []) (w := w) ⟨fun _ _ he _ => he, hI hk, fun _ _ => rfl⟩ _ _ (fo_nil _ _ rfl hd)
      rcases hd' with hd' | ⟨b, o, cap, h1, h2, h3⟩
      · exact .inl hd'
      · refine .inr ⟨b, o, cap, h1, h2, fun i hi => ?_⟩
        rw [← hf i hi]
        exact h3 i hi
    case any => exact ⟨trivial, h⟩
  | .lit x, y, K, v, h, hd => by
    cases y <;> simp only [rEnt] at h
    case any => exact ⟨trivial, h⟩
    case lit x' =>
      obtain ⟨hx, hk⟩ := h
      subst hx
      exact ⟨hd, hk⟩
    case sl sz' n' f' =>
      split at h
      · obtain ⟨h0, hk⟩ := h
        subst h0
        exact ⟨.inl ⟨rfl, none, 0, hd⟩, hk⟩
      · exact h.elim
  | .agg cs, y, K, v, h, hd => by
    cases y <;> simp only [rEnt] at h
    case agg cs' =>
      obtain ⟨vs, h1, h2, h3⟩ := hd
      obtain ⟨g1, g2⟩ := rEntL_sound hS hJ hI cs cs' _ vs h h3
      exact ⟨⟨vs, h1, h2, g1⟩, g2⟩
    case any => exact ⟨trivial, h⟩
  | .tup cs, y, K, v, h, hd => by
    cases y <;> simp only [rEnt] at h
    case tup cs' =>
      obtain ⟨vs, h1, h3⟩ := hd
      obtain ⟨g1, g2⟩ := rEntL_sound hS hJ hI cs cs' _ vs h h3
      exact ⟨⟨vs, h1, g1⟩, g2⟩
    case any => exact ⟨trivial, h⟩
  | .ptr id off, y, K, v, h, hd => by
    cases y <;> simp only [rEnt] at h
    case iptr cs' =>
      split at h
      · rename_i ty vs hgt
        obtain ⟨b, c, hη, rfl⟩ := hd
        have hH := get_live hgt trivial
        obtain ⟨b', c', he, xs, h1, h2, h3⟩ := hS id _ _ hη hH
        cases he
        rw [drop_eq] at h
        obtain ⟨g1, g2⟩ := rEntL_sound hS hJ hI _ cs' _ _ h (h3.drop off)
        refine ⟨⟨b, off, xs.drop off, rfl, hJ b ⟨id, c, _, hη, hH, trivial⟩, fun j u hj => ?_, fun u hu => h2 u (List.mem_of_mem_drop hu), g1⟩, g2⟩
        rw [List.getElem?_drop] at hj
        simp [World.cell?, h1, hj]
      · exact h.elim
    case any => exact ⟨trivial, h⟩
  | .yld _, y, K, v, h, hd => by
    cases y <;> simp only [rEnt] at h
    case any => exact ⟨trivial, h⟩
  | .eptr _ _ _ _, y, K, v, h, hd => by
    cases y <;> simp only [rEnt] at h
    case any => exact ⟨trivial, h⟩
  | .iptr cs, y, K, v, h, hd => by
    cases y <;> simp only [rEnt] at h
    case iptr cs' =>
      obtain ⟨hk, rfl, h⟩ := h
      refine ⟨Den.mono ⟨fun _ _ he _ => by simp at he, hI hk, fun _ _ => rfl⟩ (.iptr cs) v (fo_nil (.iptr cs) v rfl hd), h⟩
    case any => exact ⟨trivial, h⟩
  | .map id, y, K, v, h, hd => by
    cases y <;> simp only [rEnt] at h
    case imap ks' ka' va' dom' val' n' =>
      split at h
      · rename_i ks ka va dom val n g hgt
        obtain ⟨hk, rfl, rfl, rfl, hcnt, hall, h⟩ := h
        refine ⟨?_, h⟩
        obtain ⟨b, c, hη, rfl⟩ := hd
        have hH := get_live hgt trivial
        obtain ⟨b', c', he, es, h1, h2⟩ := hS id _ _ hη hH
        cases he
        obtain rfl := hcnt h2.counted
        refine ⟨b, es, g, rfl, hJ b ⟨id, c, _, hη, hH, trivial⟩, h1, h2.turn (fun k hk => (allInts_spec hall k hk).1) (fun k vs hkl hkd hD => ?_)⟩
        have hv := (allInts_spec hall k hkl).2 hkd
        rw [← hv]
        rcases hk with hk | hk
        · exact DenL.mono ⟨fun _ _ he _ => by simp at he, hI hk, fun _ _ => rfl⟩ _ _ hD
        · exact scal_any.2 _ _ (by rw [hv]; exact hk k) hD
      · exact h.elim
    case any => exact ⟨trivial, h⟩
  | .fn f a b, y, K, v, h, hd => by
    cases y <;> simp only [rEnt] at h
    case sem D => exact ⟨h.1 I J η w v hS hJ hI hd, h.2⟩
    case fn f' a' b' =>
      obtain ⟨rfl, h⟩ := h
      obtain ⟨as, bs, rfl, h1, h2⟩ := hd
      obtain ⟨g1, g2⟩ := rEntL_sound hS hJ hI a a' _ as h h1
      obtain ⟨g3, g4⟩ := rEntL_sound hS hJ hI b b' _ bs g2 h2
      exact ⟨⟨as, bs, rfl, g1, g3⟩, g4⟩
    case any => exact ⟨trivial, h⟩
  | .sem D, y, K, v, h, hd => by
    cases y <;> simp only [rEnt] at h
    case sem D' =>
      obtain ⟨hk, rfl, h⟩ := h
      exact ⟨Den.mono (I := I) (η := []) (w := w) ⟨fun _ _ he _ => he, hI hk, fun _ _ => rfl⟩ _ _ (fo_nil _ _ rfl hd), h⟩
    case any => exact ⟨trivial, h⟩
  | .imap ks ka va dom val n, y, K, v, h, hd => by
    cases y <;> simp only [rEnt] at h
    case imap ks' ka' va' dom' val' n' =>
      obtain ⟨hk, rfl, rfl, rfl, rfl, hall, h⟩ := h
      refine ⟨?_, h⟩
      obtain ⟨b, es, g, rfl, hb, h1, h2⟩ := hd
      refine ⟨b, es, g, rfl, hI hk b hb, h1, h2.turn (fun k hk => (allInts_spec hall k hk).1) (fun k vs hkl hkd hD => ?_)⟩
      rw [← (allInts_spec hall k hkl).2 hkd]
      exact DenL.mono ⟨fun _ _ he _ => by simp at he, hI hk, fun _ _ => rfl⟩ _ _ hD
    case any => exact ⟨trivial, h⟩
  | .ite _ _, y, K, v, h, hd => by
    cases y <;> simp only [rEnt] at h
    case any => exact ⟨trivial, h⟩
  | .any, y, K, v, h, hd => by
    cases y <;> simp only [rEnt] at h
    case any => exact ⟨trivial, h⟩
termination_by _ y => SizeOf.sizeOf y
theorem rEntL_sound (hS : Objs I η w H) (hJ : ∀ b, own η H b → J b) (hI : keep = true → ∀ b, I b → J b) : ∀ (l m : List V) (K : Prop) (vs : List Value), rEntL keep H l m K → DenL I η w l vs → DenL J [] w m vs ∧ K
  | [], m, K, vs, h, hd => by
    cases m <;> simp only [rEntL] at h
    exact ⟨hd, h⟩
  | x :: l, m, K, vs, h, hd => by
    cases m with
    | nil => simp only [rEntL] at h
    | cons y m =>
      simp only [rEntL] at h
      obtain ⟨v, r, rfl, h1, h2⟩ := hd
      obtain ⟨g1, g2⟩ := rEnt_sound hS hJ hI x y _ v h h1
      obtain ⟨g3, g4⟩ := rEntL_sound hS hJ hI l m _ r g2 h2
      exact ⟨⟨v, r, rfl, g1, g3⟩, g4⟩
termination_by _ m => SizeOf.sizeOf m
end

end

/-- nothing that was there has turned -/
structure Pres (w w' : World) : Prop where
  os : w'.os = w.os
  tape : w'.tape = w.tape
  output : w'.output = w.output
  size : w.heap.size ≤ w'.heap.size
  block : ∀ b, b < w.heap.size → w'.heap[b]? = w.heap[b]?

/-- a function that writes to nothing that was there: its arguments, what is known of its result; with 'keep' the result may share memory with the arguments -/
def PureC (P : Program) (g : FuncId) (keep : Bool) (args : List V) (R : V → Prop) : Prop :=
  Plain P g ∧ ∀ (I : Nat → Prop) (w : World) (vals : List Value), (∀ b, I b → b < w.heap.size) → DenL I [] w args vals → Calls P g vals.toArray w fun e w' =>
    ∃ ret v, e = .returned v ∧ R ret ∧ Den (fun b => (keep = true ∧ I b) ∨ (w.heap.size ≤ b ∧ b < w'.heap.size)) [] w' ret v ∧ Pres w w'

/-- new memory, and nothing else, has become immutable -/
def grow (I : Nat → Prop) (w w' : World) (b : Nat) : Prop := I b ∨ (w.heap.size ≤ b ∧ b < w'.heap.size)

theorem Sat.pres {I : Nat → Prop} {η : Eta} {w w' : World} {H : List O} (h : Sat I η w H) (hp : Pres w w') : Sat (grow I w w') η w' H ∧ Mono I η w (grow I w w') η w' ∧ Step I (own η H) w (grow I w w') (own η H) w' := by
  have m : Mono I η w (grow I w w') η w' := ⟨fun _ _ he _ => he, fun _ hb => .inl hb, fun b hb => hp.block b (h.ilt b hb)⟩
  refine ⟨⟨h.len, ?_, h.apart, ?_, fun b hb => Nat.lt_of_lt_of_le (h.lt b hb) hp.size, ?_⟩, m, ⟨hp.os, hp.tape, hp.output, hp.size, fun b hb _ => hp.block b hb, fun _ hb => .inl hb, ?_, fun _ hb => .inl hb, m.eta⟩⟩
  · intro id e o he ho
    refine (h.obj id e o he ho).mono m ?_
    rintro hl b c rfl
    exact hp.block b (h.lt b ⟨id, c, o, he, ho, hl⟩)
  · intro b hb hg
    rcases hg with hg | hg
    · exact h.notI b hb hg
    · have := h.lt b hb; omega
  · intro b hb
    rcases hb with hb | hb
    · exact Nat.lt_of_lt_of_le (h.ilt b hb) hp.size
    · exact hb.2
  · intro b hb
    rcases hb with hb | hb
    · exact .inl hb
    · exact .inr (.inr hb.1)

/-- a call that only makes new memory, and hands back just this -/
@[irreducible] def PCall (P : Program) (g : FuncId) (args : List V) (H : List O) (v : V) : Prop :=
  ∃ keep cargs, PureC P g keep cargs (· = v) ∧ ((args = cargs ∧ foL args = true) ∨ (keep = false ∧ rEntL true H args cargs True))

/-- a function that writes to nothing that was there: what it hands back, and the objects that it has made -/
def NewC (P : Program) (g : FuncId) (args : List V) (R : V → List O → Prop) : Prop :=
  Plain P g ∧ ∀ (I : Nat → Prop) (w : World) (vals : List Value), (∀ b, I b → b < w.heap.size) → DenL I [] w args vals → Calls P g vals.toArray w fun e w' =>
    ∃ I' η' H' ret v, e = .returned v ∧ R ret H' ∧ Sat I' η' w' H' ∧ Den I' η' w' ret v ∧ Step I (own [] []) w I' (own η' H') w'

/-- a call that only makes new memory, and hands over one object -/
@[irreducible] def NCall (P : Program) (g : FuncId) (args : List V) (v : V) (ob : O) : Prop :=
  foL args = true ∧ NewC P g args fun r H => r = v ∧ H = [ob]

/-- how calls are met -/
def sys (P : Program) : Sys := ⟨Callee P, PCall P, NCall P, YCall P, SCall P⟩

end Go.Sx
