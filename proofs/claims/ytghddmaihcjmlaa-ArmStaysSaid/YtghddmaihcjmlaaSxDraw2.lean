/- Own work: a text of the proof of a law (SxDraw2). -/
import Derived.Test.YtghddmaihcjmlaaSxDraw
import Derived.OrdersIn
namespace Go.Sx
open Go
variable {P : Program} {E : Env}

theorem appK_eq {α : Type} : ∀ (l H : List α) (K : List α → Prop), appK H l K = K (H ++ l)
  | [], H, K => by simp [appK]
  | o :: l, H, K => by simp only [appK]; rw [pushK_eq, appK_eq l]; simp

/-- the run of the first phase in the order of the text -/
theorem drawOps_tr {R : Rel} (hR : RelOk R) (hE : EnvOk E P) {ops : Array Oper} {H : List O} {K : List V → List O → Prop} : ∀ (rest : List Oper) (id : Nat) (T : List V) (L : List O), drawOps (sys P) E ops.toList H K rest id T L → id = H.length + L.length →
    ∃ (Ts : Nat → List V) (Ls : Nat → List O) (val : Nat → V) (ob : Nat → Option O), Ts 0 = T ∧ Ls 0 = L ∧ K (Ts rest.length) (Ls rest.length) ∧
      ∀ i o, rest[i]? = some o → ∃ d, o.dst = some d ∧ OpFact P R ops H o (Ts i) (H.length + (Ls i).length) (val i) (ob i) ∧ Ts (i + 1) = set (Ts i) d (val i) ∧ Ls (i + 1) = Ls i ++ (ob i).toList
  | [], id, T, L, h, _ => ⟨fun _ => T, fun _ => L, fun _ => .any, fun _ => none, rfl, rfl, h, fun i o hi => by simp at hi⟩
  | o :: rest, id, T, L, h, hid => by
    unfold drawOps at h
    obtain ⟨v, ob, h1, h2⟩ := drawOp_ex h
    have hf := drawOp_fact hR hE h2
    cases hd : o.dst with
    | none => rw [hd] at h1; exact h1.elim
    | some d =>
      rw [hd] at h1
      simp only [setK_eq] at h1
      have fin : ∀ (id' : Nat) (L' : List O), drawOps (sys P) E ops.toList H K rest id' (set T d v) L' → id' = H.length + L'.length → L' = L ++ ob.toList → ∃ (Ts : Nat → List V) (Ls : Nat → List O) (val : Nat → V) (ob : Nat → Option O), Ts 0 = T ∧ Ls 0 = L ∧ K (Ts (o :: rest).length) (Ls (o :: rest).length) ∧
          ∀ i o', (o :: rest)[i]? = some o' → ∃ d, o'.dst = some d ∧ OpFact P R ops H o' (Ts i) (H.length + (Ls i).length) (val i) (ob i) ∧ Ts (i + 1) = set (Ts i) d (val i) ∧ Ls (i + 1) = Ls i ++ (ob i).toList := by
        intro id' L' h' hid' hL
        obtain ⟨Ts, Ls, val, obs, t0, l0, hk, hs⟩ := drawOps_tr hR hE rest id' (set T d v) L' h' hid'
        refine ⟨fun | 0 => T | i + 1 => Ts i, fun | 0 => L | i + 1 => Ls i, fun | 0 => v | i + 1 => val i, fun | 0 => ob | i + 1 => obs i, rfl, rfl, hk, ?_⟩
        intro i o' hi
        cases i with
        | zero =>
          simp at hi
          subst hi
          exact ⟨d, hd, by rw [← hid]; exact hf, t0, l0.trans hL⟩
        | succ i => exact hs i o' (by simpa using hi)
      cases ob with
      | none => exact fin id L h1 hid (by simp)
      | some b =>
        simp only [pushK_eq] at h1
        exact fin (id + 1) (L ++ [b]) h1 (by simp; omega) (by simp)

structure DOk (ops : Array Oper) (p : Nat) : Prop where
  back : ∀ (i : Nat) (o : Oper), ops[i]? = some o → ∀ e ∈ o.after, Region.binds .any e = true → e.on < i
  apart : ∀ (i j : Nat) (o o' : Oper), i < p → j < p → ops[i]? = some o → ops[j]? = some o' → i ≠ j → o.dst ≠ o'.dst
  look : ∀ (i j : Nat) (o o' : Oper), i < p → j < p → ops[i]? = some o → ops[j]? = some o' → ∀ t ∈ looks ops.toList o, o'.dst = some t → j < i ∧ ∃ e ∈ o.after, Region.binds .any e = true ∧ e.on = j
  tail : ∀ j, j < ops.size → p ≤ j → ∀ i, i < j → i ∈ closure ops.toList (j + 1) j
  le : p ≤ ops.size

theorem drawOk_spec {ops : Array Oper} {p : Nat} (h : drawOk ops.toList p = true) : DOk ops p := by
  unfold drawOk at h
  simp only [Bool.and_eq_true, List.all_eq_true, List.mem_range] at h
  obtain ⟨⟨⟨h1, h2⟩, h3⟩, h4⟩ := h
  refine ⟨?_, ?_, ?_, ?_, ?_⟩
  · intro i o hi e he hb
    have hlt : i < ops.toList.length := by simpa using (Array.getElem?_eq_some_iff.1 hi).1
    have := h1 i hlt
    have hi' : ops.toList[i]? = some o := by simpa using hi
    rw [hi'] at this
    simp only [List.all_eq_true] at this
    have := this e (by simpa using he)
    simpa [hb] using this
  · intro i j o o' hi hj ho ho' hne
    have := h2 i hi
    have ho1 : ops.toList[i]? = some o := by simpa using ho
    have ho2 : ops.toList[j]? = some o' := by simpa using ho'
    rw [ho1] at this
    simp only [List.all_eq_true, List.mem_range] at this
    have := this j hj
    rw [ho2] at this
    simp only [Bool.and_eq_true, Bool.or_eq_true] at this
    rcases this.1 with hh | hh
    · exact (hne (beq_true hh)).elim
    · intro heq; rw [heq] at hh; simp at hh
  · intro i j o o' hi hj ho ho' t ht hd
    have := h2 i hi
    have ho1 : ops.toList[i]? = some o := by simpa using ho
    have ho2 : ops.toList[j]? = some o' := by simpa using ho'
    rw [ho1] at this
    simp only [List.all_eq_true, List.mem_range] at this
    have := this j hj
    rw [ho2] at this
    simp only [Bool.and_eq_true, Bool.or_eq_true, List.all_eq_true] at this
    have := this.2 t ht
    rw [hd] at this
    simp only [beq_self_eq_true, Bool.not_true, Bool.false_eq_true, false_or, decide_eq_true_eq] at this
    refine ⟨this.1, ?_⟩
    have hh := this.2
    unfold hasEdge at hh
    simp only [List.any_eq_true, Bool.and_eq_true] at hh
    obtain ⟨e, he, hb, hon⟩ := hh
    exact ⟨e, by simpa using he, hb, beq_true hon⟩
  · intro j hj hp i hi
    have := h3 j (by simpa using hj)
    simp only [Bool.or_eq_true, decide_eq_true_eq, List.all_eq_true, List.mem_range] at this
    rcases this with hh | hh
    · omega
    · simpa using hh i hi
  · simpa using Nat.le_of_ble_eq_true h4

/-- closed under what must come before -/
def Down (ops : Array Oper) (l : Array Bool) : Prop := ∀ (i : Nat) (o : Oper), ops[i]? = some o → l.getD i false = true → ∀ e ∈ o.after, Region.binds .any e = true → l.getD e.on false = true

theorem closure_sub {ops : Array Oper} {l : Array Bool} (hd : Down ops l) : ∀ (n j : Nat) (o : Oper), ops[j]? = some o → (∀ e ∈ o.after, Region.binds .any e = true → l.getD e.on false = true) → ∀ i ∈ closure ops.toList n j, l.getD i false = true
  | 0, j, o, ho, he, i, hi => by simp [closure] at hi
  | n + 1, j, o, ho, he, i, hi => by
    unfold closure at hi
    have ho1 : ops.toList[j]? = some o := by simpa using ho
    rw [ho1] at hi
    simp only [List.mem_flatMap, List.mem_filter, List.mem_cons] at hi
    obtain ⟨e, ⟨he1, he2⟩, hi⟩ := hi
    have hl := he e (by simpa using he1) he2
    rcases hi with rfl | hi
    · exact hl
    · cases hoe : ops[e.on]? with
      | none =>
        cases n with
        | zero => simp [closure] at hi
        | succ n =>
          unfold closure at hi
          have : ops.toList[e.on]? = none := by simpa using hoe
          rw [this] at hi
          simp at hi
      | some o' => exact closure_sub hd n e.on o' hoe (hd e.on o' hoe hl) i hi

theorem count_set {l : Array Bool} {i m : Nat} (h : l.getD i true = false) (hc : l.count false = m + 1) : (l.setIfInBounds i true).count false = m := by
  have hlt : i < l.size := by
    rcases Nat.lt_or_ge i l.size with h' | h'
    · exact h'
    · simp [Array.getElem?_eq_none h'] at h
  have hi : l[i] = false := by simpa [hlt] using h
  rw [Array.setIfInBounds, dif_pos hlt, Array.count_set]
  simp [hi, hc]

theorem count_zero {l : Array Bool} (hc : l.count false = 0) (i : Nat) (hi : i < l.size) : l.getD i false = true := by
  rw [Array.count_eq_zero] at hc
  have : l[i] ≠ false := fun h => hc (by rw [← h]; exact Array.getElem_mem hi)
  simpa [hi] using this

theorem getD_tf {l : Array Bool} {i : Nat} (hi : i < l.size) : (l.getD i true = false ↔ ¬ l.getD i false = true) := by
  simp [hi]

theorem getD_set {l : Array Bool} {i j : Nat} (hi : i < l.size) : (l.setIfInBounds i true).getD j false = true ↔ j = i ∨ l.getD j false = true := by
  by_cases h : i = j
  · subst h; simp [hi]
  · rw [getD_set_ne false h]
    constructor
    · exact .inr
    · rintro (rfl | h'); exact (h rfl).elim; exact h'

/-- the least that is not listed is ready -/
theorem least_ready {ops : Array Oper} {p : Nat} (hok : DOk ops p) {l : Array Bool} (hs : l.size = ops.size) : ∀ (i : Nat), i < ops.size → ¬ l.getD i false = true → Region.ready .any ops l ≠ [] := by
  intro i
  induction i using Nat.strongRecOn with
  | _ i ih =>
    intro hi hn
    by_cases hall : ∀ j, j < i → l.getD j false = true
    · have : i ∈ Region.ready .any ops l := by
        rw [mem_ready]
        refine ⟨(getD_tf (by omega)).2 hn, ops[i], by simp [hi], fun e he hb => ?_⟩
        exact hall _ (hok.back i ops[i] (by simp [hi]) e he hb)
      intro hnil
      rw [hnil] at this
      simp at this
    · simp only [Classical.not_forall] at hall
      obtain ⟨j, hj, hnj⟩ := hall
      exact ih j hj (by omega) hnj

section
variable {F : Fence} {n : Nat} {Q : Exit → Act → World → Prop}

/-- the tail, in the order of the text -/
theorem tail_sound {ops : Array Oper} {p : Nat} (hok : DOk ops p) : ∀ (m k : Nat) (l : Array Bool) (a : Act) (w : World), p ≤ k → k ≤ ops.size → l.size = ops.size → l.count false = m → (∀ j, j < ops.size → (l.getD j false = true ↔ j < k)) → wpListIn F n P ops Q (ops.toList.drop k) a w → wpAnyIn F n P .any ops Q m l a w
  | 0, k, l, a, w, hp, hk, hs, hc, hl, h => by
    have hkn : k = ops.size := by
      rcases Nat.lt_or_ge k ops.size with h1 | h1
      · have := (hl k h1).1 (count_zero hc k (by omega)); omega
      · omega
    subst hkn
    have : ops.toList.drop ops.size = [] := by simp
    rw [this] at h
    refine ⟨?_, h⟩
    apply List.eq_nil_iff_forall_not_mem.2
    intro j hj
    rw [mem_ready] at hj
    obtain ⟨h0, o, ho, _⟩ := hj
    have hlt := (Array.getElem?_eq_some_iff.1 ho).1
    exact (getD_tf (by omega)).1 h0 ((hl j hlt).2 hlt)
  | m + 1, k, l, a, w, hp, hk, hs, hc, hl, h => by
    have hkn : k < ops.size := by
      rcases Nat.lt_or_ge k ops.size with h1 | h1
      · exact h1
      · exfalso
        have : l.count false = 0 := by
          rw [Array.count_eq_zero]
          intro hm
          obtain ⟨i, hi, he⟩ := Array.mem_iff_getElem.1 hm
          have := (hl i (by omega)).2 (by omega)
          simp [hi, he] at this
        omega
    constructor
    · intro hnil
      exact (least_ready hok hs k hkn (fun hh => by have := (hl k hkn).1 hh; omega) hnil).elim
    · intro i hi
      rw [mem_ready] at hi
      obtain ⟨h0, o, ho, hall⟩ := hi
      have hlt := (Array.getElem?_eq_some_iff.1 ho).1
      have hki : k ≤ i := by
        rcases Nat.lt_or_ge i k with h1 | h1
        · exact ((getD_tf (by omega)).1 h0 ((hl i hlt).2 h1)).elim
        · exact h1
      have hdown : Down ops l := by
        intro j o' ho' hj e he hb
        have hjl := (Array.getElem?_eq_some_iff.1 ho').1
        have := hok.back j o' ho' e he hb
        have := (hl j hjl).1 hj
        exact (hl e.on (by omega)).2 (by omega)
      have hik : i = k := by
        rcases Nat.lt_or_ge k i with h1 | h1
        · have := closure_sub hdown (i + 1) i o ho hall k (hok.tail i hlt (by omega) k h1)
          have := (hl k hkn).1 this
          omega
        · omega
      subst hik
      have hdrop : ops.toList.drop i = o :: ops.toList.drop (i + 1) := by
        have hil : i < ops.toList.length := by simpa using hlt
        rw [List.drop_eq_getElem_cons hil]
        congr 1
        have : ops.toList[i]? = some o := by simpa using ho
        rw [List.getElem?_eq_getElem hil] at this
        exact Option.some.inj this
      rw [hdrop] at h
      unfold wpListIn at h
      unfold wpOpIn
      simp only [ho]
      have ih := fun a w => tail_sound hok m (i + 1) (l.setIfInBounds i true) a w (by omega) (by omega) (by simpa using hs) (count_set h0 hc) (fun j hj => by
        rw [getD_set (by omega), hl j hj]; omega)
      split
      · rename_i hw
        rw [if_pos hw] at h
        exact Oper.wpIn_mono ih h
      · rename_i hw
        rw [if_neg hw] at h
        exact ⟨h.1, ih _ _ h.2⟩
end

/-! ### what the state is when a set of the first phase has been carried out -/
section
variable {p : Nat} {dst : Nat → Nat} {val : Nat → V} {ob : Nat → Option O} {idn : Nat → Nat}

structure IsT (p : Nat) (dst : Nat → Nat) (val : Nat → V) (T₀ : List V) (S : Nat → Prop) (T : List V) : Prop where
  len : T.length = T₀.length
  on : ∀ i, i < p → S i → dst i < T₀.length → get .any T (dst i) = val i
  off : ∀ x, (∀ i, i < p → S i → dst i ≠ x) → get .any T x = get .any T₀ x

theorem IsT.zero {T₀ : List V} {S : Nat → Prop} (h : ∀ i, i < p → ¬ S i) : IsT p dst val T₀ S T₀ := ⟨rfl, fun i hi hs => (h i hi hs).elim, fun _ _ => rfl⟩

theorem get_set' {T : List V} {d : Nat} {v : V} {x : Nat} : get .any (set T d v) x = if x = d ∧ d < T.length then v else get .any T x := by
  rw [set_eq, get_eq, get_eq, List.getElem?_set]
  by_cases h : d = x
  · subst h
    by_cases hl : d < T.length
    · simp [hl]
    · simp [hl]
  · have : ¬ x = d := fun e => h e.symm
    simp [h, this]

theorem IsT.add {T₀ T : List V} {S S' : Nat → Prop} (h : IsT p dst val T₀ S T) {i : Nat} (hi : i < p) (hap : ∀ j, j < p → j ≠ i → dst j ≠ dst i) (hS : ∀ j, S' j ↔ j = i ∨ S j) : IsT p dst val T₀ S' (set T (dst i) (val i)) := by
  refine ⟨by rw [set_eq]; simpa using h.len, ?_, ?_⟩
  · intro j hj hs hl
    rw [get_set']
    by_cases hji : j = i
    · subst hji; rw [if_pos ⟨rfl, by rw [h.len]; exact hl⟩]
    · rw [if_neg (fun hh => hap j hj hji hh.1)]
      exact h.on j hj (((hS j).1 hs).resolve_left hji) hl
  · intro x hx
    rw [get_set', if_neg (fun hh => hx i hi ((hS i).2 (.inl rfl)) hh.1.symm)]
    exact h.off x (fun j hj hs => hx j hj ((hS j).2 (.inr hs)))

theorem IsT.same {T₀ T T' : List V} {S S' : Nat → Prop} (h : IsT p dst val T₀ S T) (h' : IsT p dst val T₀ S' T') {x : Nat} (hS : ∀ i, i < p → dst i = x → (S i ↔ S' i)) : get .any T x = get .any T' x := by
  by_cases hx : ∃ i, i < p ∧ S i ∧ dst i = x
  · obtain ⟨i, hi, hs, rfl⟩ := hx
    by_cases hl : dst i < T₀.length
    · rw [h.on i hi hs hl, h'.on i hi ((hS i hi rfl).1 hs) hl]
    · rw [get_eq, get_eq, List.getElem?_eq_none (by rw [h.len]; omega), List.getElem?_eq_none (by rw [h'.len]; omega)]
  · have hx1 : ∀ i, i < p → S i → dst i ≠ x := fun i hi hs he => hx ⟨i, hi, hs, he⟩
    rw [h.off x hx1, h'.off x (fun i hi hs he => hx ⟨i, hi, (hS i hi he).2 hs, he⟩)]

theorem IsT.eq {T₀ T T' : List V} {S S' : Nat → Prop} (h : IsT p dst val T₀ S T) (h' : IsT p dst val T₀ S' T') (hS : ∀ i, i < p → (S i ↔ S' i)) : T = T' := by
  apply List.ext_getElem (by rw [h.len, h'.len])
  intro x h1 h2
  have := h.same h' (x := x) (fun i hi _ => hS i hi)
  rw [get_eq, get_eq, List.getElem?_eq_getElem h1, List.getElem?_eq_getElem h2] at this
  exact this

/-- the objects: those of before, and a place for each new one -/
structure IsH (p : Nat) (ob : Nat → Option O) (idn : Nat → Nat) (H₀ : List O) (N : Nat) (S : Nat → Prop) (H : List O) : Prop where
  len : H.length = H₀.length + N
  old : ∀ j, j < H₀.length → H[j]? = H₀[j]?
  on : ∀ i b, i < p → ob i = some b → S i → H[idn i]? = some b
  off : ∀ i b, i < p → ob i = some b → ¬ S i → H[idn i]? = some .gone

theorem IsH.eq {H₀ H H' : List O} {N : Nat} {S S' : Nat → Prop} (hcov : ∀ j, H₀.length ≤ j → j < H₀.length + N → ∃ i b, i < p ∧ ob i = some b ∧ idn i = j)
    (h : IsH p ob idn H₀ N S H) (h' : IsH p ob idn H₀ N S' H') (hS : ∀ i, i < p → S i) (hS' : ∀ i, i < p → S' i) : H = H' := by
  apply List.ext_getElem (by rw [h.len, h'.len])
  intro j h1 h2
  have : H[j]? = H'[j]? := by
    rcases Nat.lt_or_ge j H₀.length with hj | hj
    · rw [h.old j hj, h'.old j hj]
    · obtain ⟨i, b, hi, hb, rfl⟩ := hcov j hj (by rw [← h.len]; exact h1)
      rw [h.on i b hi hb (hS i hi), h'.on i b hi hb (hS' i hi)]
  rw [List.getElem?_eq_getElem h1, List.getElem?_eq_getElem h2] at this
  exact Option.some.inj this
end
end Go.Sx
