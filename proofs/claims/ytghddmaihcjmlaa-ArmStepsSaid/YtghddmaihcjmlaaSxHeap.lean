/- Own work: a text of the proof of a law (SxHeap). -/
import Derived.Test.YtghddmaihcjmlaaSxOps4
namespace Go.Sx
open Go
variable {P : Program} {E : Env}

/-- a state of the machine fits a state of the executor -/
structure Good (I : Nat → Prop) (η : Eta) (w : World) (T : List V) (H : List O) (a : Act) : Prop where
  sat : Sat I η w H
  tmp : SatT I η w T a.tmps

theorem World.alloc_heap (w : World) (o : Obj) : (w.alloc o).heap = w.heap.push o := rfl

theorem SatO.mono {I I' : Nat → Prop} {η η' : Eta} {w w' : World} (m : Mono I η w I' η' w') {e : Option Nat × Nat} {o : O} (h : SatO I η w e o)
    (hb : o.live → ∀ b c, e = (some b, c) → w'.heap[b]? = w.heap[b]?) : SatO I' η' w' e o := by
  cases o with
  | cells ty vs =>
    obtain ⟨b, c, rfl, xs, h1, h2, h3⟩ := h
    exact ⟨b, c, rfl, xs, by rw [hb trivial b c rfl]; exact h1, h2, DenL.mono m _ _ h3⟩
  | row ty sz n f nz =>
    obtain ⟨xs, h1, h2, h3, h4⟩ := h
    refine ⟨xs, ?_, h2, h3, fun i hi => DenL.mono m.nil _ _ (h4 i hi)⟩
    obtain ⟨g1, g2⟩ := h1
    refine ⟨g1, ?_⟩
    rcases g2 with g2 | ⟨g, cap, cur, e1, e2, e3, e4⟩
    · exact .inl g2
    · refine .inr ⟨g, cap, cur, e1, e2, ?_, e4⟩
      obtain ⟨bb, c⟩ := e
      cases bb with
      | none => simp [slVal] at e1
      | some b =>
        simp [slVal] at e1
        obtain ⟨rfl, rfl⟩ := e1
        rw [hb trivial b c rfl]; exact e3
  | map ks ka va dom val n g =>
    obtain ⟨b, c, rfl, es, h1, h2⟩ := h
    exact ⟨b, c, rfl, es, by rw [hb trivial b c rfl]; exact h1, h2.imp (fun k vs hk => DenL.mono m.nil _ _ hk)⟩
  | iter mid g dom done =>
    obtain ⟨b, c, mb, c', rfl, h1, h2, h3⟩ := h
    exact ⟨b, c, mb, c', rfl, m.eta _ _ h1 (by simp), by rw [hb trivial b c rfl]; exact h2, h3⟩
  | mapx ks ka va dom val =>
    obtain ⟨n, g, b, c, rfl, es, h1, h2⟩ := h
    exact ⟨n, g, b, c, rfl, es, by rw [hb trivial b c rfl]; exact h1, h2.imp (fun k vs hk => DenL.mono m.nil _ _ hk)⟩
  | loop T ps assign body st =>
    obtain ⟨b, c, fn, tmps, D, rfl, h1, h2⟩ := h
    exact ⟨b, c, fn, tmps, D, rfl, by rw [hb trivial b c rfl]; exact h1, DenL.mono m _ _ h2⟩
  | gone => trivial

/-- a new object in a new block -/
theorem Sat.push {I : Nat → Prop} {η : Eta} {w : World} {H : List O} (h : Sat I η w H) (ob : Obj) (o : O) (c : Nat)
    (ho : SatO I (η ++ [(some w.heap.size, c)]) (w.alloc ob) (some w.heap.size, c) o) :
    Sat I (η ++ [(some w.heap.size, c)]) (w.alloc ob) (H ++ [o]) ∧ Mono I η w I (η ++ [(some w.heap.size, c)]) (w.alloc ob) ∧
      Step I (own η H) w I (own (η ++ [(some w.heap.size, c)]) (H ++ [o])) (w.alloc ob) := by
  have hblk : ∀ b, b < w.heap.size → (w.alloc ob).heap[b]? = w.heap[b]? := by
    intro b hb
    rw [World.alloc_heap, Array.getElem?_push]
    have : b ≠ w.heap.size := by omega
    simp [this]
  have m : Mono I η w I (η ++ [(some w.heap.size, c)]) (w.alloc ob) :=
    ⟨fun id e he _ => by rw [List.getElem?_append_left (List.getElem?_eq_some_iff.1 he).1]; exact he, fun _ hb => hb, fun b hb => hblk b (h.ilt b hb)⟩
  have hown : ∀ b, own (η ++ [(some w.heap.size, c)]) (H ++ [o]) b → own η H b ∨ b = w.heap.size := by
    rintro b ⟨id, c', o', h1, h2, h3⟩
    by_cases hid : id < η.length
    · rw [List.getElem?_append_left hid] at h1
      rw [List.getElem?_append_left (by rw [← h.len]; exact hid)] at h2
      exact .inl ⟨id, c', o', h1, h2, h3⟩
    · rw [List.getElem?_append_right (by omega)] at h1
      have : id - η.length = 0 := by
        rcases Nat.eq_zero_or_pos (id - η.length) with h0 | h0
        · exact h0
        · rw [List.getElem?_eq_none (by simp; omega)] at h1; cases h1
      rw [this] at h1
      simp at h1
      exact .inr h1.1.symm
  refine ⟨⟨by simp [h.len], ?_, ?_, ?_, ?_, ?_⟩, m, ⟨rfl, rfl, rfl, by simp, fun b hb _ => hblk b hb, fun _ hb => hb, fun _ hb => .inl hb, ?_, m.eta⟩⟩
  · intro id e o' he ho'
    by_cases hid : id < η.length
    · rw [List.getElem?_append_left hid] at he
      rw [List.getElem?_append_left (by rw [← h.len]; exact hid)] at ho'
      refine (h.obj id e o' he ho').mono m ?_
      rintro hl b c' rfl
      exact hblk b (h.lt b ⟨id, c', o', he, ho', hl⟩)
    · rw [List.getElem?_append_right (by omega)] at he
      rw [List.getElem?_append_right (by rw [← h.len]; omega)] at ho'
      have : id - η.length = 0 := by
        rcases Nat.eq_zero_or_pos (id - η.length) with h0 | h0
        · exact h0
        · rw [List.getElem?_eq_none (by simp; omega)] at he; cases he
      rw [this] at he
      rw [h.len] at this
      rw [this] at ho'
      simp at he ho'
      subst he ho'
      exact ho
  · intro id id' b c1 c2 o1 o2 h1 h2 h3 h4 l1 l2
    have key : ∀ (j : Nat) (cc : Nat) (oo : O), (η ++ [(some w.heap.size, c)])[j]? = some (some b, cc) → (H ++ [o])[j]? = some oo → (j < η.length ∧ η[j]? = some (some b, cc) ∧ H[j]? = some oo) ∨ (j = η.length ∧ b = w.heap.size) := by
      intro j cc oo hj1 hj2
      by_cases hj : j < η.length
      · rw [List.getElem?_append_left hj] at hj1
        rw [List.getElem?_append_left (by rw [← h.len]; exact hj)] at hj2
        exact .inl ⟨hj, hj1, hj2⟩
      · have hlt := (List.getElem?_eq_some_iff.1 hj1).1
        simp at hlt
        have hj' : j = η.length := by omega
        subst hj'
        simp at hj1
        exact .inr ⟨rfl, hj1.1.symm⟩
    rcases key id c1 o1 h1 h3 with ⟨g1, g2, g3⟩ | ⟨g1, g2⟩ <;> rcases key id' c2 o2 h2 h4 with ⟨k1, k2, k3⟩ | ⟨k1, k2⟩
    · exact h.apart id id' b c1 c2 o1 o2 g2 k2 g3 k3 l1 l2
    · have := h.lt b ⟨id, c1, o1, g2, g3, l1⟩; omega
    · have := h.lt b ⟨id', c2, o2, k2, k3, l2⟩; omega
    · omega
  · intro b hb
    rcases hown b hb with h1 | rfl
    · exact h.notI b h1
    · intro hI; have := h.ilt _ hI; omega
  · intro b hb
    simp only [World.size_alloc]
    rcases hown b hb with h1 | rfl
    · have := h.lt b h1; omega
    · omega
  · intro b hb
    simp only [World.size_alloc]
    have := h.ilt b hb; omega
  · intro b hb
    rcases hown b hb with h1 | rfl
    · exact .inl h1
    · exact .inr (Nat.le_refl _)

/-- a live object is written -/
theorem Sat.write {I : Nat → Prop} {η : Eta} {w : World} {H : List O} (h : Sat I η w H) {id b c : Nat} {o o' : O} (hη : η[id]? = some (some b, c)) (hH : H[id]? = some o) (hl : o.live) (hl' : o'.live) (cur : Array Value)
    (ho : ∀ w', w' = w.setRow b cur → Mono I η w I η w' → SatO I η w' (some b, c) o') :
    Sat I η (w.setRow b cur) (H.set id o') ∧ Mono I η w I η (w.setRow b cur) ∧ Step I (own η H) w I (own η (H.set id o')) (w.setRow b cur) := by
  have hob : own η H b := ⟨id, c, o, hη, hH, hl⟩
  have hblk : ∀ k, k ≠ b → (w.setRow b cur).heap[k]? = w.heap[k]? := fun k hk => setRow_other w b k _ (fun e => hk e)
  have m : Mono I η w I η (w.setRow b cur) := ⟨fun _ _ he _ => he, fun _ hb => hb, fun k hk => hblk k (fun e => h.notI b hob (e ▸ hk))⟩
  have hidH := (List.getElem?_eq_some_iff.1 hH).1
  have hown : ∀ k, own η (H.set id o') k ↔ own η H k := by
    intro k
    constructor
    · rintro ⟨j, c', o1, h1, h2, h3⟩
      rw [List.getElem?_set] at h2
      by_cases hj : id = j
      · subst hj; exact ⟨id, c', o, h1, hH, hl⟩
      · rw [if_neg hj] at h2; exact ⟨j, c', o1, h1, h2, h3⟩
    · rintro ⟨j, c', o1, h1, h2, h3⟩
      by_cases hj : id = j
      · subst hj; exact ⟨id, c', o', h1, by simp [hidH], hl'⟩
      · exact ⟨j, c', o1, h1, by rw [List.getElem?_set, if_neg hj]; exact h2, h3⟩
  have hsz : (w.setRow b cur).heap.size = w.heap.size := by simp
  refine ⟨⟨by simp [h.len], ?_, ?_, fun k hk => h.notI k ((hown k).1 hk), fun k hk => by rw [hsz]; exact h.lt k ((hown k).1 hk), fun k hk => by rw [hsz]; exact h.ilt k hk⟩, m,
    ⟨rfl, rfl, rfl, by rw [hsz]; exact Nat.le_refl _, fun k _ hk => hblk k (fun e => hk (e ▸ hob)), fun _ hb => hb, fun _ hb => .inl hb, fun k hk => .inl ((hown k).1 hk), m.eta⟩⟩
  · intro j e o1 h1 h2
    rw [List.getElem?_set] at h2
    by_cases hj : id = j
    · subst hj
      rw [if_pos rfl, if_pos hidH] at h2
      cases h2
      rw [hη] at h1
      cases h1
      exact ho _ rfl m
    · rw [if_neg hj] at h2
      refine (h.obj j e o1 h1 h2).mono m ?_
      rintro hl1 k c' rfl
      refine hblk k (fun e => hj ?_)
      subst e
      exact h.apart id j k c c' o o1 hη h1 hH h2 hl hl1
  · intro j j' k c1 c2 o1 o2 h1 h2 h3 h4 l1 l2
    have key : ∀ (j : Nat) (oo : O), (H.set id o')[j]? = some oo → oo.live → ∃ o'', H[j]? = some o'' ∧ o''.live := by
      intro j oo hj hl1
      rw [List.getElem?_set] at hj
      by_cases hjj : id = j
      · subst hjj; exact ⟨o, hH, hl⟩
      · rw [if_neg hjj] at hj; exact ⟨oo, hj, hl1⟩
    obtain ⟨o3, g1, g2⟩ := key j o1 h3 l1
    obtain ⟨o4, g3, g4⟩ := key j' o2 h4 l2
    exact h.apart j j' k c1 c2 o3 o4 h1 h2 g1 g3 g2 g4
end Go.Sx
