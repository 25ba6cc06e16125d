/- Own work: a text of the proof of a law (SxShift). -/
import Derived.Test.YtghddmaihcjmlaaSxPure
namespace Go.Sx
open Go
variable {P : Program} {E : Env}

theorem shH_eq (n : Nat) : ∀ l, shH n l = l.map (shO n)
  | [] => rfl
  | o :: l => by simp [shH, shH_eq n l]

section
variable {I : Nat → Prop} {w : World} {η η' : Eta} {n : Nat}
mutual
theorem Den.shift (hη : ∀ (j : Nat) (e : Option Nat × Nat), η'[j]? = some e → η[n + j]? = some e) : ∀ (c : V) (v : Value), Den I η' w c v → Den I η w (shV n c) v
  | .int _ _, _, h => h
  | .prop _ _, _, h => h
  | .kb _, _, h => h
  | .ptr _ _, _, h => by obtain ⟨b, c, h1, h2⟩ := h; exact ⟨b, c, hη _ _ h1, h2⟩
  | .eptr _ _ _ _, _, h => by obtain ⟨b, c, h1, h2⟩ := h; exact ⟨b, c, hη _ _ h1, h2⟩
  | .iptr _, _, h => h
  | .sl _ _ _, _, h => h
  | .osl _ _, _, h => by obtain ⟨e, h1, h2⟩ := h; exact ⟨e, hη _ _ h1, h2⟩
  | .map _, _, h => by obtain ⟨b, c, h1, h2⟩ := h; exact ⟨b, c, hη _ _ h1, h2⟩
  | .fn _ a b, _, h => by obtain ⟨as, bs, h1, h2, h3⟩ := h; exact ⟨as, bs, h1, DenL.shift hη a as h2, DenL.shift hη b bs h3⟩
  | .agg cs, _, h => by obtain ⟨vs, h1, h2, h3⟩ := h; exact ⟨vs, h1, h2, DenL.shift hη cs vs h3⟩
  | .tup cs, _, h => by obtain ⟨vs, h1, h2⟩ := h; exact ⟨vs, h1, DenL.shift hη cs vs h2⟩
  | .lit _, _, h => h
  | .ite _ u, v, h => ⟨fun hp => Den.shift hη u v (h.1 hp), h.2⟩
  | .sem _, _, h => h
  | .imap _ _ _ _ _ _, _, h => h
  | .yld _, _, h => by obtain ⟨b, c, h1, h2⟩ := h; exact ⟨b, c, hη _ _ h1, h2⟩
  | .any, _, _ => trivial
theorem DenL.shift (hη : ∀ (j : Nat) (e : Option Nat × Nat), η'[j]? = some e → η[n + j]? = some e) : ∀ (cs : List V) (vs : List Value), DenL I η' w cs vs → DenL I η w (shL n cs) vs
  | [], _, h => h
  | c :: cs, _, h => by
    obtain ⟨v, r, h1, h2, h3⟩ := h
    exact ⟨v, r, h1, Den.shift hη c v h2, DenL.shift hη cs r h3⟩
end

theorem SatO.shift (hη : ∀ (j : Nat) (e : Option Nat × Nat), η'[j]? = some e → η[n + j]? = some e) {e : Option Nat × Nat} : ∀ {o : O}, SatO I η' w e o → SatO I η w e (shO n o)
  | .cells ty vs, h => by obtain ⟨b, c, h1, xs, h2, h3, h4⟩ := h; exact ⟨b, c, h1, xs, h2, h3, DenL.shift hη _ _ h4⟩
  | .row _ _ _ _ _, h => h
  | .map _ _ _ _ _ _ _, h => h
  | .iter mid g dom done, h => by
    obtain ⟨b, c, mb, c', h1, h2, h3⟩ := h
    exact ⟨b, c, mb, c', h1, hη _ _ h2, h3⟩
  | .loop T ps a b st, h => by obtain ⟨b, c, fn, tmps, D, h1, h2, h3⟩ := h; exact ⟨b, c, fn, tmps, D, h1, h2, DenL.shift hη _ _ h3⟩
  | .gone, h => h
  | .mapx _ _ _ _ _, h => h

theorem shO_live {n : Nat} {o : O} : (shO n o).live ↔ o.live := by cases o <;> exact Iff.rfl

end


theorem own_nil' (b : Nat) : ¬ own [] [] b := fun ⟨id, c, o, h, _⟩ => by simp at h

/-- an object that a call has made comes to the place that was kept for it -/
theorem Sat.fillNew {I I' : Nat → Prop} {η : Eta} {w w' : World} {H : List O} (h : Sat I η w H) {id : Nat} (hη : η[id]? = some (none, 1)) (hH : H[id]? = some .gone) {e : Option Nat × Nat} {ob : O} (h' : Sat I' [e] w' [ob]) (hst : Step I (own [] []) w I' (own [e] [ob]) w') :
    (∀ (j : Nat) (e' : Option Nat × Nat), [e][j]? = some e' → (η.set id e)[id + j]? = some e') ∧ Sat I' (η.set id e) w' (H.set id (shO id ob)) ∧ Mono I η w I' (η.set id e) w' ∧ Step I (own η H) w I' (own (η.set id e) (H.set id (shO id ob))) w' := by
  have hidη := (List.getElem?_eq_some_iff.1 hη).1
  have hidH := (List.getElem?_eq_some_iff.1 hH).1
  have hblk : ∀ b, b < w.heap.size → w'.heap[b]? = w.heap[b]? := fun b hb => hst.block b hb (own_nil' b)
  have hnew : ∀ (j : Nat) (e' : Option Nat × Nat), [e][j]? = some e' → (η.set id e)[id + j]? = some e' := by
    intro j e' hj
    cases j with
    | zero => simp at hj; subst hj; simp [hidη]
    | succ j => simp at hj
  have hoth : ∀ j, j ≠ id → (η.set id e)[j]? = η[j]? := fun j hj => by rw [List.getElem?_set, if_neg (fun e => hj e.symm)]
  have m : Mono I η w I' (η.set id e) w' := ⟨fun j e' he hn => by
    by_cases hj : j = id
    · subst hj; rw [hη] at he; cases he; exact (hn rfl).elim
    · rw [hoth j hj]; exact he, hst.imono, fun b hb => hblk b (h.ilt b hb)⟩
  have hown : ∀ b, own [e] [ob] b → w.heap.size ≤ b := fun b hb => (hst.wnew b hb).resolve_left (own_nil' b)
  have cs : ∀ (j : Nat) (e' : Option Nat × Nat) (o : O), (η.set id e)[j]? = some e' → (H.set id (shO id ob))[j]? = some o → (j ≠ id ∧ η[j]? = some e' ∧ H[j]? = some o) ∨ (j = id ∧ e' = e ∧ o = shO id ob) := by
    intro j e' o he ho
    by_cases hj : j = id
    · subst hj
      right
      simp [hidη] at he
      simp [hidH] at ho
      exact ⟨rfl, he.symm, ho.symm⟩
    · left
      rw [hoth j hj] at he
      rw [List.getElem?_set, if_neg (fun e => hj e.symm)] at ho
      exact ⟨hj, he, ho⟩
  have oc : ∀ b, own (η.set id e) (H.set id (shO id ob)) b → own η H b ∨ own [e] [ob] b := by
    rintro b ⟨j, c, o, h1, h2, h3⟩
    rcases cs j _ _ h1 h2 with ⟨_, g1, g2⟩ | ⟨rfl, g1, rfl⟩
    · exact .inl ⟨j, c, o, g1, g2, h3⟩
    · exact .inr ⟨0, c, ob, by simp [g1], by simp, shO_live.1 h3⟩
  refine ⟨hnew, ⟨by simp [h.len], ?_, ?_, ?_, ?_, h'.ilt⟩, m, ⟨hst.os, hst.tape, hst.output, hst.size, fun b hb _ => hblk b hb, hst.imono, ?_, ?_, m.eta⟩⟩
  · intro j e' o he ho
    rcases cs j e' o he ho with ⟨_, g1, g2⟩ | ⟨rfl, rfl, rfl⟩
    · refine (h.obj j e' o g1 g2).mono m ?_
      rintro hl b c rfl
      exact hblk b (h.lt b ⟨j, c, o, g1, g2, hl⟩)
    · exact SatO.shift hnew (h'.obj 0 e' ob (by simp) (by simp))
  · intro j j' b c c' o o' h1 h2 h3 h4 l1 l2
    rcases cs j _ o h1 h3 with ⟨_, g1, g2⟩ | ⟨q1, g1, rfl⟩ <;> rcases cs j' _ o' h2 h4 with ⟨_, g3, g4⟩ | ⟨q2, g3, rfl⟩
    · exact h.apart j j' b c c' o o' g1 g3 g2 g4 l1 l2
    · have := h.lt b ⟨j, c, o, g1, g2, l1⟩
      have := hown b ⟨0, c', ob, by simp [g3], by simp, shO_live.1 l2⟩
      omega
    · have := h.lt b ⟨j', c', o', g3, g4, l2⟩
      have := hown b ⟨0, c, ob, by simp [g1], by simp, shO_live.1 l1⟩
      omega
    · rw [q1, q2]
  · intro b hb hI
    rcases oc b hb with hb | hb
    · rcases hst.inew b hI with h1 | h1 | h1
      · exact h.notI b hb h1
      · exact own_nil' b h1
      · have := h.lt b hb; omega
    · exact h'.notI b hb hI
  · intro b hb
    rcases oc b hb with hb | hb
    · exact Nat.lt_of_lt_of_le (h.lt b hb) hst.size
    · exact h'.lt b hb
  · intro b hb
    rcases hst.inew b hb with h1 | h1 | h1
    · exact .inl h1
    · exact (own_nil' b h1).elim
    · exact .inr (.inr h1)
  · intro b hb
    rcases oc b hb with hb | hb
    · exact .inl hb
    · exact .inr (hown b hb)

/-- maps are opened -/
theorem openK_objs {I : Nat → Prop} {η : Eta} {w : World} : ∀ (H : List O) (es : Eta) (K : List O → Prop), (∀ (i : Nat) (e : Option Nat × Nat) (o : O), es[i]? = some e → H[i]? = some o → SatO I η w e o) → es.length = H.length → openK H K →
    ∃ H', K H' ∧ H'.length = H.length ∧ ∀ (i : Nat) (e : Option Nat × Nat) (o' : O), es[i]? = some e → H'[i]? = some o' → SatO I η w e o' ∧ ∃ o, H[i]? = some o ∧ (o.live ↔ o'.live)
  | [], es, K, _, _, h => ⟨[], h, rfl, fun i e o' _ hi => by simp at hi⟩
  | o :: l, [], K, _, hl, _ => by simp at hl
  | o :: l, e :: es, K, hS, hl, h => by
    have hS' : ∀ (i : Nat) (e' : Option Nat × Nat) (o' : O), es[i]? = some e' → l[i]? = some o' → SatO I η w e' o' := fun i e' o' he ho => hS (i + 1) e' o' (by simpa using he) (by simpa using ho)
    have key : ∀ (o1 : O), SatO I η w e o1 → (o.live ↔ o1.live) → (openK l fun l => K (o1 :: l)) → ∃ H', K H' ∧ H'.length = (o :: l).length ∧ ∀ (i : Nat) (e' : Option Nat × Nat) (o' : O), (e :: es)[i]? = some e' → H'[i]? = some o' → SatO I η w e' o' ∧ ∃ o2, (o :: l)[i]? = some o2 ∧ (o2.live ↔ o'.live) := by
      intro o1 h1 h2 h3
      obtain ⟨H', g1, g2, g3⟩ := openK_objs l es _ hS' (by simpa using hl) h3
      refine ⟨o1 :: H', g1, by simp [g2], fun i e' o' he ho => ?_⟩
      cases i with
      | zero => simp at he ho; subst he ho; exact ⟨h1, o, by simp, h2⟩
      | succ i => simpa using g3 i e' o' (by simpa using he) (by simpa using ho)
    have h0 := hS 0 e o (by simp) (by simp)
    cases o with
    | mapx ks ka va dom val =>
      obtain ⟨n, g, b, c, h1, es', h2, h3⟩ := h0
      exact key (.map ks ka va dom val n g) ⟨b, c, h1, es', h2, h3⟩ Iff.rfl (h n g)
    | _ => exact key _ h0 Iff.rfl h

theorem openK_sound {I : Nat → Prop} {η : Eta} {w : World} {H : List O} {K : List O → Prop} (hS : Sat I η w H) (h : openK H K) : ∃ H', K H' ∧ Sat I η w H' ∧ ∀ b, own η H' b ↔ own η H b := by
  obtain ⟨H', h1, h2, h3⟩ := openK_objs (I := I) (η := η) (w := w) H η K hS.obj hS.len h
  have lv : ∀ (i : Nat) (e : Option Nat × Nat) (o' : O), η[i]? = some e → H'[i]? = some o' → o'.live → ∃ o, H[i]? = some o ∧ o.live := fun i e o' he ho hl => by
    obtain ⟨_, o, g1, g2⟩ := h3 i e o' he ho
    exact ⟨o, g1, g2.2 hl⟩
  have how : ∀ b, own η H' b ↔ own η H b := by
    intro b
    constructor
    · rintro ⟨i, c, o', g1, g2, g3⟩
      obtain ⟨o, g4, g5⟩ := lv i _ o' g1 g2 g3
      exact ⟨i, c, o, g1, g4, g5⟩
    · rintro ⟨i, c, o, g1, g2, g3⟩
      have hi : i < H'.length := by rw [h2]; exact (List.getElem?_eq_some_iff.1 g2).1
      obtain ⟨_, o2, g4, g5⟩ := h3 i _ H'[i] g1 (by simp [hi])
      rw [g2] at g4
      cases g4
      exact ⟨i, c, H'[i], g1, by simp [hi], g5.1 g3⟩
  refine ⟨H', h1, ⟨hS.len.trans h2.symm, fun i e o he ho => (h3 i e o he ho).1, ?_, fun b hb => hS.notI b ((how b).1 hb), fun b hb => hS.lt b ((how b).1 hb), hS.ilt⟩, how⟩
  intro i j b c c' o o' g1 g2 g3 g4 l1 l2
  obtain ⟨o1, q1, q2⟩ := lv i _ o g1 g3 l1
  obtain ⟨o2, q3, q4⟩ := lv j _ o' g2 g4 l2
  exact hS.apart i j b c c' o1 o2 g1 g2 q1 q3 q2 q4
end Go.Sx
