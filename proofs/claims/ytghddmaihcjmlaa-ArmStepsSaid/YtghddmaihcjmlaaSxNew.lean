/- Own work: a text of the proof of a law (SxNew). -/
import Derived.Test.YtghddmaihcjmlaaSxFn
namespace Go.Sx
open Go
variable {P : Program} {E : Env}

theorem newC_of_exec (hE : ProgOk E P) {g : FuncId} {fn : Func} {code : Code} (hf : P.funcs[g]? = some fn) (hb : fn.body = some code) (hn : (fn.name == "runtime.NumGoroutine") = false) {args : List V} {R : V → List O → Prop}
    (hx : exec (sys P) E 0 code (retQ E fn R) (padT args fn.ntmps) []) : NewC P g args R := by
  refine ⟨⟨fn, hf, hn, by rw [hb]; rfl⟩, fun I w vals hI hd => ?_⟩
  refine (calls_of_exec (H := []) hE hf hb hx (sat_nil hI) hd).mono ?_
  rintro e w' ⟨I', η', H', v, x, rfl, hret, hS, hden, _, hst⟩
  exact ⟨I', η', H', v, x, rfl, hret, hS, hden, hst⟩

theorem NewC.mono {g : FuncId} {args : List V} {R R' : V → List O → Prop} (h : NewC P g args R) (hr : ∀ v H, R v H → R' v H) : NewC P g args R' :=
  ⟨h.1, fun I w vals hI hd => (h.2 I w vals hI hd).mono fun _ _ ⟨I', η', H', ret, v, h1, h2, h3⟩ => ⟨I', η', H', ret, v, h1, hr _ _ h2, h3⟩⟩

/-- what is made is frozen -/
theorem NewC.pure {g : FuncId} {keep : Bool} {args : List V} {R : V → List O → Prop} {R' : V → Prop} (h : NewC P g args R) (hr : ∀ v H, R v H → ∃ ret, R' ret ∧ rEnt keep H v ret True) : PureC P g keep args R' := by
  refine ⟨h.1, fun I w vals hI hd => (h.2 I w vals hI hd).mono ?_⟩
  rintro e w' ⟨I', η', H', v, x, rfl, hret, hS, hden, hst⟩
  obtain ⟨ret, hret, hent⟩ := hr _ _ hret
  have hown : ∀ b, own η' H' b → w.heap.size ≤ b := fun b hb => (hst.wnew b hb).resolve_left (own_nil b)
  obtain ⟨h1, _⟩ := rEnt_sound (J := fun b => (keep = true ∧ I b) ∨ (w.heap.size ≤ b ∧ b < w'.heap.size)) (keep := keep) hS.obj (fun b hb => .inr ⟨hown b hb, hS.lt b hb⟩)
    (fun hk b hb => by
      rcases hst.inew b hb with h | h | h
      · exact .inl ⟨hk, h⟩
      · exact (own_nil b h).elim
      · exact .inr ⟨h, hS.ilt b hb⟩) v ret True x hent hden
  exact ⟨ret, x, rfl, hret, h1, ⟨hst.os, hst.tape, hst.output, hst.size, fun b hb => hst.block b hb (own_nil b)⟩⟩

theorem Sat.join {I I' : Nat → Prop} {η η' : Eta} {w w' : World} {H H' : List O} (h : Sat I η w H) (h' : Sat I' η' w' H') (hst : Step I (own [] []) w I' (own η' H') w') :
    Sat I' (η ++ η') w' (H ++ shH H.length H') ∧ Mono I η w I' (η ++ η') w' ∧ Step I (own η H) w I' (own (η ++ η') (H ++ shH H.length H')) w' := by
  have hblk : ∀ b, b < w.heap.size → w'.heap[b]? = w.heap[b]? := fun b hb => hst.block b hb (own_nil b)
  have m : Mono I η w I' (η ++ η') w' := ⟨fun id e he _ => by rw [List.getElem?_append_left (List.getElem?_eq_some_iff.1 he).1]; exact he, hst.imono, fun b hb => hblk b (h.ilt b hb)⟩
  have hown : ∀ b, own η' H' b → w.heap.size ≤ b := fun b hb => (hst.wnew b hb).resolve_left (own_nil b)
  have cs : ∀ (id : Nat) (e : Option Nat × Nat) (o : O), (η ++ η')[id]? = some e → (H ++ shH H.length H')[id]? = some o → (η[id]? = some e ∧ H[id]? = some o) ∨ (∃ o', o = shO H.length o' ∧ H.length ≤ id ∧ η'[id - H.length]? = some e ∧ H'[id - H.length]? = some o') := by
    intro id e o he ho
    by_cases hid : id < H.length
    · left
      rw [List.getElem?_append_left (by rw [h.len]; exact hid)] at he
      rw [List.getElem?_append_left hid] at ho
      exact ⟨he, ho⟩
    · right
      rw [List.getElem?_append_right (by rw [h.len]; omega), h.len] at he
      rw [List.getElem?_append_right (by omega), shH_eq, List.getElem?_map] at ho
      cases ho' : H'[id - H.length]? with
      | none => rw [ho'] at ho; cases ho
      | some o' => rw [ho'] at ho; cases ho; exact ⟨o', rfl, by omega, he, rfl⟩
  have oc : ∀ b, own (η ++ η') (H ++ shH H.length H') b → own η H b ∨ own η' H' b := by
    rintro b ⟨id, c, o, h1, h2, h3⟩
    rcases cs id _ _ h1 h2 with ⟨g1, g2⟩ | ⟨o', rfl, _, g1, g2⟩
    · exact .inl ⟨id, c, o, g1, g2, h3⟩
    · exact .inr ⟨_, c, o', g1, g2, shO_live.1 h3⟩
  refine ⟨⟨by simp [h.len, h'.len, shH_eq], ?_, ?_, ?_, ?_, h'.ilt⟩, m, ⟨hst.os, hst.tape, hst.output, hst.size, fun b hb _ => hblk b hb, hst.imono, ?_, ?_, m.eta⟩⟩
  · intro id e o he ho
    rcases cs id e o he ho with ⟨g1, g2⟩ | ⟨o', rfl, _, g1, g2⟩
    · refine (h.obj id e o g1 g2).mono m ?_
      rintro hl b c rfl
      exact hblk b (h.lt b ⟨id, c, o, g1, g2, hl⟩)
    · exact SatO.shift (fun j e he => by rw [List.getElem?_append_right (by rw [h.len]; omega), h.len]; simpa using he) (h'.obj _ e o' g1 g2)
  · intro id id' b c c' o o' h1 h2 h3 h4 l1 l2
    rcases cs id _ o h1 h3 with ⟨g1, g2⟩ | ⟨o1, rfl, q1, g1, g2⟩ <;> rcases cs id' _ o' h2 h4 with ⟨g3, g4⟩ | ⟨o2, rfl, q2, g3, g4⟩
    · exact h.apart id id' b c c' o o' g1 g3 g2 g4 l1 l2
    · have := h.lt b ⟨id, c, o, g1, g2, l1⟩
      have := hown b ⟨_, c', o2, g3, g4, shO_live.1 l2⟩
      omega
    · have := h.lt b ⟨id', c', o', g3, g4, l2⟩
      have := hown b ⟨_, c, o1, g1, g2, shO_live.1 l1⟩
      omega
    · have := h'.apart _ _ b c c' o1 o2 g1 g3 g2 g4 (shO_live.1 l1) (shO_live.1 l2)
      omega
  · intro b hb hI
    rcases oc b hb with hb | hb
    · rcases hst.inew b hI with h1 | h1 | h1
      · exact h.notI b hb h1
      · exact own_nil b h1
      · have := h.lt b hb; omega
    · exact h'.notI b hb hI
  · intro b hb
    rcases oc b hb with hb | hb
    · exact Nat.lt_of_lt_of_le (h.lt b hb) hst.size
    · exact h'.lt b hb
  · intro b hb
    rcases hst.inew b hb with h1 | h1 | h1
    · exact .inl h1
    · exact (own_nil b h1).elim
    · exact .inr (.inr h1)
  · intro b hb
    rcases oc b hb with hb | hb
    · exact .inl hb
    · exact .inr (hown b hb)

/-- a call of a function that hands over new objects -/
theorem callee_new {g : FuncId} {args : List V} {R : V → List O → Prop} {H : List O} {K : V → List O → Prop} (h : NewC P g args R) (hfo : foL args = true) (hk : ∀ ret H', R ret H' → lenK H fun n => force (shV n ret) fun r => appK H (shH n H') fun H2 => K r H2) :
    Callee P g args H K := by
  unfold Callee
  refine ⟨h.1, fun I η w vals hS hd => ?_⟩
  refine (h.2 I w vals hS.ilt (fo_nil_list _ _ hfo hd)).mono ?_
  rintro e w' ⟨I', η', H', ret, v, rfl, hr, hS', hden, hst⟩
  obtain ⟨s1, s2, s3⟩ := hS.join hS' hst
  have := hk ret H' hr
  rw [lenK_eq, force_eq, appK_eq] at this
  exact ⟨I', η ++ η', H ++ shH H.length H', shV H.length ret, v, rfl, this, s1, Den.shift (fun j e he => by rw [List.getElem?_append_right (by rw [hS.len]; omega), hS.len]; simpa using he) _ _ hden, s2, s3⟩
end Go.Sx
