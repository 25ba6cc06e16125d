/- Own work: a text of the proof of a law (SxDraw). -/
import Derived.Test.YtghddmaihcjmlaaSxEnt
namespace Go.Sx
open Go
variable {P : Program} {E : Env}

/-! ### a reserved id is filled -/

/-- a new object in a new block, in the place that was kept for it -/
theorem Sat.fill {I : Nat → Prop} {η : Eta} {w : World} {H : List O} (h : Sat I η w H) {id : Nat} (hη : η[id]? = some (none, 1)) (hH : H[id]? = some .gone) (ob : Obj) (o : O) (c : Nat)
    (ho : Mono I η w I (η.set id (some w.heap.size, c)) (w.alloc ob) → SatO I (η.set id (some w.heap.size, c)) (w.alloc ob) (some w.heap.size, c) o) :
    Sat I (η.set id (some w.heap.size, c)) (w.alloc ob) (H.set id o) ∧ Mono I η w I (η.set id (some w.heap.size, c)) (w.alloc ob) ∧
      Step I (own η H) w I (own (η.set id (some w.heap.size, c)) (H.set id o)) (w.alloc ob) := by
  have hblk : ∀ b, b < w.heap.size → (w.alloc ob).heap[b]? = w.heap[b]? := by
    intro b hb
    rw [World.alloc_heap, Array.getElem?_push]
    have : b ≠ w.heap.size := by omega
    simp [this]
  have hidη := (List.getElem?_eq_some_iff.1 hη).1
  have hidH := (List.getElem?_eq_some_iff.1 hH).1
  have m : Mono I η w I (η.set id (some w.heap.size, c)) (w.alloc ob) :=
    ⟨fun j e he hn => by
      rw [List.getElem?_set]
      by_cases hj : id = j
      · subst hj; rw [hη] at he; exact (hn (Option.some.inj he).symm).elim
      · rw [if_neg hj]; exact he, fun _ hb => hb, fun b hb => hblk b (h.ilt b hb)⟩
  have split : ∀ (j : Nat) (ee : Option Nat × Nat) (oo : O), (η.set id (some w.heap.size, c))[j]? = some ee → (H.set id o)[j]? = some oo → (j ≠ id ∧ η[j]? = some ee ∧ H[j]? = some oo) ∨ (j = id ∧ ee = (some w.heap.size, c) ∧ oo = o) := by
    intro j ee oo h1 h2
    rw [List.getElem?_set] at h1 h2
    by_cases hj : id = j
    · subst hj
      rw [if_pos rfl, if_pos hidη] at h1
      rw [if_pos rfl, if_pos hidH] at h2
      exact .inr ⟨rfl, (Option.some.inj h1).symm, (Option.some.inj h2).symm⟩
    · rw [if_neg hj] at h1 h2
      exact .inl ⟨fun e => hj e.symm, h1, h2⟩
  have hown : ∀ b, own (η.set id (some w.heap.size, c)) (H.set id o) b → own η H b ∨ b = w.heap.size := by
    rintro b ⟨j, c', o', h1, h2, h3⟩
    rcases split j _ o' h1 h2 with ⟨_, g1, g2⟩ | ⟨_, g1, _⟩
    · exact .inl ⟨j, c', o', g1, g2, h3⟩
    · simp at g1; exact .inr g1.1
  refine ⟨⟨by simp [h.len], ?_, ?_, ?_, ?_, ?_⟩, m, ⟨rfl, rfl, rfl, by simp, fun b hb _ => hblk b hb, fun _ hb => hb, fun _ hb => .inl hb, ?_, m.eta⟩⟩
  · intro j e o' he ho'
    rcases split j e o' he ho' with ⟨_, g1, g2⟩ | ⟨rfl, rfl, rfl⟩
    · refine (h.obj j e o' g1 g2).mono m ?_
      rintro hl b c' rfl
      exact hblk b (h.lt b ⟨j, c', o', g1, g2, hl⟩)
    · exact ho m
  · intro j j' b c1 c2 o1 o2 h1 h2 h3 h4 l1 l2
    rcases split j _ o1 h1 h3 with ⟨g0, g1, g2⟩ | ⟨rfl, g1, _⟩ <;> rcases split j' _ o2 h2 h4 with ⟨k0, k1, k2⟩ | ⟨rfl, k1, _⟩
    · exact h.apart j j' b c1 c2 o1 o2 g1 k1 g2 k2 l1 l2
    · exfalso
      simp at k1
      have := h.lt b ⟨j, c1, o1, g1, g2, l1⟩
      omega
    · exfalso
      simp at g1
      have := h.lt b ⟨j', c2, o2, k1, k2, l2⟩
      omega
    · rfl
  · intro b hb hI
    rcases hown b hb with h1 | rfl
    · exact h.notI b h1 hI
    · have := h.ilt _ hI; omega
  · intro b hb
    simp only [World.size_alloc]
    rcases hown b hb with h1 | rfl
    · have := h.lt b h1; omega
    · omega
  · intro b hb
    simp only [World.size_alloc]
    have := h.ilt b hb; omega
  · intro b hb
    rcases hown b hb with h1 | rfl
    · exact .inl h1
    · exact .inr (Nat.le_refl _)

/-- places are kept for objects to come -/
theorem Sat.reserve {I : Nat → Prop} {η : Eta} {w : World} {H : List O} (h : Sat I η w H) (k : Nat) :
    Sat I (η ++ List.replicate k (none, 1)) w (H ++ List.replicate k .gone) ∧ Mono I η w I (η ++ List.replicate k (none, 1)) w ∧ (∀ b, own (η ++ List.replicate k (none, 1)) (H ++ List.replicate k .gone) b ↔ own η H b) := by
  have m : Mono I η w I (η ++ List.replicate k (none, 1)) w := ⟨fun id e he _ => by rw [List.getElem?_append_left (List.getElem?_eq_some_iff.1 he).1]; exact he, fun _ hb => hb, fun _ _ => rfl⟩
  have split : ∀ (j : Nat) (oo : O), (H ++ List.replicate k .gone)[j]? = some oo → oo.live → j < H.length ∧ H[j]? = some oo := by
    intro j oo h2 hl
    by_cases hj : j < H.length
    · rw [List.getElem?_append_left hj] at h2; exact ⟨hj, h2⟩
    · rw [List.getElem?_append_right (by omega), List.getElem?_replicate] at h2
      split at h2
      · cases h2; exact hl.elim
      · cases h2
  have hown : ∀ b, own (η ++ List.replicate k (none, 1)) (H ++ List.replicate k .gone) b ↔ own η H b := by
    intro b
    constructor
    · rintro ⟨j, c', o', h1, h2, h3⟩
      obtain ⟨hj, g⟩ := split j o' h2 h3
      rw [List.getElem?_append_left (by rw [h.len]; exact hj)] at h1
      exact ⟨j, c', o', h1, g, h3⟩
    · rintro ⟨j, c', o', h1, h2, h3⟩
      refine ⟨j, c', o', ?_, ?_, h3⟩
      · rw [List.getElem?_append_left (List.getElem?_eq_some_iff.1 h1).1]; exact h1
      · rw [List.getElem?_append_left (List.getElem?_eq_some_iff.1 h2).1]; exact h2
  refine ⟨⟨by simp [h.len], ?_, ?_, fun b hb => h.notI b ((hown b).1 hb), fun b hb => h.lt b ((hown b).1 hb), h.ilt⟩, m, hown⟩
  · intro j e o' he ho'
    by_cases hl : o'.live
    · obtain ⟨hj, g⟩ := split j o' ho' hl
      rw [List.getElem?_append_left (by rw [h.len]; exact hj)] at he
      exact (h.obj j e o' he g).mono m (fun _ _ _ _ => rfl)
    · cases o' <;> first | exact (hl trivial).elim | trivial
  · intro j j' b c1 c2 o1 o2 h1 h2 h3 h4 l1 l2
    obtain ⟨hj, g⟩ := split j o1 h3 l1
    obtain ⟨hj', g'⟩ := split j' o2 h4 l2
    rw [List.getElem?_append_left (by rw [h.len]; exact hj)] at h1
    rw [List.getElem?_append_left (by rw [h.len]; exact hj')] at h2
    exact h.apart j j' b c1 c2 o1 o2 h1 h2 g g' l1 l2

theorem Good.drew {I : Nat → Prop} {η : Eta} {w : World} {T : List V} {H : List O} {a : Act} (h : Good I η w T H a) : Good I η { w with drawn := w.drawn + 1 } T H a ∧ Step I (own η H) w I (own η H) { w with drawn := w.drawn + 1 } := by
  have m : Mono I η w I η { w with drawn := w.drawn + 1 } := ⟨fun _ _ he _ => he, fun _ hb => hb, fun _ _ => rfl⟩
  refine ⟨⟨⟨h.sat.len, fun id e o he ho => (h.sat.obj id e o he ho).mono m (fun _ _ _ _ => rfl), h.sat.apart, h.sat.notI, h.sat.lt, h.sat.ilt⟩, h.tmp.mono m⟩, ⟨rfl, rfl, rfl, Nat.le_refl _, fun _ _ _ => rfl, fun _ hb => hb, fun _ hb => .inl hb, fun _ hb => .inl hb, fun _ _ h _ => h⟩⟩

/-! ### what an operation of the first phase does, wherever it comes -/

/-- the semantic fact of one operation: its value, the object that it makes, in whatever state agrees on what it looks at -/
def OpFact (P : Program) (R : Rel) (ops : Array Oper) (H₀ : List O) (o : Oper) (T : List V) (id : Nat) (v : V) (ob : Option O) : Prop :=
  ∀ (r : Option Nat) (n : Nat) (Q : Exit → Act → World → Prop) (I : Nat → Prop) (η : Eta) (w : World) (a : Act) (T' : List V) (H : List O), (∀ x ∈ looks ops.toList o, get .any T' x = get .any T x) → (∀ (j : Nat) (o' : O), H₀[j]? = some o' → H[j]? = some o') → Good I η w T' H a →
    (ob.isSome = true → η[id]? = some (none, 1) ∧ H[id]? = some .gone) →
    let K : Act → World → Prop := fun a' w' => a'.defers = a.defers ∧ ∃ I' η', Good I' η' w' (match o.dst with | some d => set T' d v | none => T') (match ob with | some b => H.set id b | none => H) a' ∧
      (∀ (j : Nat), j ≠ id → η'[j]? = η[j]?) ∧ (ob = none → η' = η) ∧ R I (own η H) w I' (own η' (match ob with | some b => H.set id b | none => H)) w'
    if Region.wanted o (yielded ops a.tmps) then o.wpIn (Fw r) n P a w K Q else K (a.put o.dst undef) w

theorem looks_operand {ops : List Oper} {o : Oper} {T T' : List V} (h : ∀ x ∈ looks ops o, get .any T' x = get .any T x) : ∀ x ∈ o.op.operands.toList, ev0 T' x = ev0 T x := by
  have key : ∀ (l : List Operand), (∀ t ∈ looks.tmpsOf l, get .any T' t = get .any T t) → ∀ x ∈ l, ev0 T' x = ev0 T x := by
    intro l
    induction l with
    | nil => intro _ x hx; cases hx
    | cons y l ih =>
      intro hl x hx
      rcases List.mem_cons.1 hx with rfl | hx
      · cases x with
        | tmp t => exact hl t (by simp [looks.tmpsOf])
        | _ => rfl
      · refine ih (fun t ht => hl t ?_) x hx
        cases y <;> simp [looks.tmpsOf, ht]
  refine key _ (fun t ht => h t ?_)
  unfold looks
  rw [app_eq]
  exact List.mem_append.2 (.inl ht)

theorem looks_guard {ops : List Oper} {o : Oper} {T T' : List V} (h : ∀ x ∈ looks ops o, get .any T' x = get .any T x) : guardV ops T' o = guardV ops T o := by
  unfold guardV
  cases hg : o.guard with
  | none => rfl
  | some jw =>
    obtain ⟨j, want⟩ := jw
    simp only
    cases hd : guardDst ops j with
    | none => rfl
    | some g =>
      have : get .any T' g = get .any T g := h g (by
        unfold looks
        rw [app_eq, hg]
        simp [hd])
      simp only [this]

theorem evs_congr {T T' : List V} : ∀ {l : List Operand}, (∀ x ∈ l, ev0 T' x = ev0 T x) → evs T' l = evs T l
  | [], _ => rfl
  | x :: l, h => by
    simp only [evs, ev]
    rw [h x (by simp), evs_congr (fun y hy => h y (by simp [hy]))]

theorem fillV_congr {T T' : List V} {s : TypeId} : ∀ {l : List (Nat × Operand)} {cs : List V}, (∀ p ∈ l, ev0 T' p.2 = ev0 T p.2) → fillV E s T' cs l = fillV E s T cs l
  | [], _, _ => rfl
  | (i, x) :: l, cs, h => by
    have hx : ev T' x = ev T x := by simp only [ev]; rw [h (i, x) (by simp)]
    simp only [fillV, hx]
    split
    · congr 1
      exact fillV_congr (fun p hp => h p (by simp [hp]))
    · rfl

theorem rowsOf_congr {T T' : List V} {sz : Nat} : ∀ {l : List (Nat × Operand)} {k : Nat}, (∀ p ∈ l, ev0 T' p.2 = ev0 T p.2) → rowsOf sz T' k l = rowsOf sz T k l
  | [], _, _ => rfl
  | (i, x) :: l, k, h => by
    have hx : ev T' x = ev T x := by simp only [ev]; rw [h (i, x) (by simp)]
    simp only [rowsOf, hx]
    rw [rowsOf_congr (fun p hp => h p (by simp [hp]))]

theorem pureOp_congr {T T' : List V} {H : List O} {o : Op} (h : ∀ x ∈ o.operands.toList, ev0 T' x = ev0 T x) : pureOp E T' H o = pureOp E T H o := by
  have he : ∀ x, x ∈ o.operands.toList → ev T' x = ev T x := fun x hx => by simp only [ev]; rw [h x hx]
  cases o <;> simp only [pureOp]
  case move x => rw [h x (by simp [Op.operands])]
  case assign x => rw [h x (by simp [Op.operands])]
  case pick c a b => rw [he c (by simp [Op.operands]), h a (by simp [Op.operands]), h b (by simp [Op.operands])]
  case load t a => rw [he a (by simp [Op.operands])]
  case fieldAddr s x f => rw [he x (by simp [Op.operands])]
  case field s x f => rw [he x (by simp [Op.operands])]
  case indexAddr t x i => rw [he x (by simp [Op.operands]), he i (by simp [Op.operands])]
  case binOp op t x y t' => rw [he x (by simp [Op.operands]), he y (by simp [Op.operands])]
  case unOp op t x => rw [he x (by simp [Op.operands])]
  case extract x i => rw [he x (by simp [Op.operands])]
  case lookup t x i c => rw [he x (by simp [Op.operands]), he i (by simp [Op.operands])]
  case entry x => rw [he x (by simp [Op.operands])]
  case makeFunc fn first cap =>
    rw [evs_congr (l := first.toList) (fun x hx => h x (by simp [Op.operands]; exact .inl (by simpa using hx))), evs_congr (l := cap.toList) (fun x hx => h x (by simp [Op.operands]; exact .inr (by simpa using hx)))]
  case build t parts =>
    have hf : ∀ z, fillV E t T' z parts.toList = fillV E t T z parts.toList := fun z => fillV_congr (fun p hp => h p.2 (by simp [Op.operands]; exact ⟨p.1, by simpa using hp⟩))
    split
    · simp only [hf]
    · rfl
  case call c =>
    obtain ⟨callee, args, argTypes⟩ := c
    cases callee with
    | builtin b => 
      have := evs_congr (T := T) (T' := T') (l := args.toList) (fun x hx => h x (by simp [Op.operands, Call.operands]; simpa using hx))
      simp only [this]
    | _ => rfl
theorem newOp_congr {T T' : List V} {id : Nat} {o : Op} {K : V → O → Prop} (h : ∀ x ∈ o.operands.toList, ev0 T' x = ev0 T x) : newOp E T' id o K = newOp E T id o K := by
  have he : ∀ x, x ∈ o.operands.toList → ev T' x = ev T x := fun x hx => by simp only [ev]; rw [h x hx]
  cases o <;> simp only [newOp]
  case box t x => rw [he x (by simp [Op.operands])]
  case makeSlice t l c => rw [he l (by simp [Op.operands]), he c (by simp [Op.operands])]
  case buildSlice t n parts =>
    have hr : ∀ sz, rowsOf sz T' 0 parts.toList = rowsOf sz T 0 parts.toList := fun sz => rowsOf_congr (fun p hp => h p.2 (by simp [Op.operands]; exact ⟨p.1, by simpa using hp⟩))
    simp only [hr]

/-- what an operation that makes one object does -/
def NewRun (P : Program) (I : Nat → Prop) (η : Eta) (w : World) (s : Sem Next) (id : Nat) (v : V) (ob : O) : Prop :=
  ∃ x c real, s.run P w = .ok (.value x) (w.alloc real) ∧ ∀ η₁, Mono I η w I η₁ (w.alloc real) → η₁[id]? = some (some w.heap.size, c) → SatO I η₁ (w.alloc real) (some w.heap.size, c) ob ∧ Den I η₁ (w.alloc real) v x

theorem newRun_row {I : Nat → Prop} {η : Eta} {w : World} {s : Sem Next} {id : Nat} (ty sz k cap : Nat) (hkc : k ≤ cap) (hcap : cap ≤ maxLen) (f : Nat → List V) (cells : List Value)
    (hrun : s.run P w = .ok (.value (.slice (some ⟨w.heap.size, 0, none⟩) k cap)) (w.alloc (.cells cells.toArray ty))) (hl : cells.length = cap * sz) (h1 : ∀ u ∈ cells, u.oneCell' = true)
    (hrow : ∀ i, i < k → DenL I [] w (f i) ((cells.drop (i * sz)).take sz)) : NewRun P I η w s id (.osl id k) (.row ty sz k f false) := by
  refine ⟨_, cap, _, hrun, fun η₁ m hη => ⟨?_, ⟨(some w.heap.size, cap), hη, fun h => by simp at h, rfl⟩⟩⟩
  have hkm : k * sz ≤ cap * sz := Nat.mul_le_mul_right _ hkc
  refine ⟨cells.take (k * sz), ⟨by rw [List.length_take, hl]; omega, .inr ⟨w.heap.size, cap, cells.toArray, rfl, Nat.zero_le _, by rw [World.alloc_heap]; simp, hkc, hcap, by simpa using hl, by simp⟩⟩, fun u hu => h1 u (List.mem_of_mem_take hu), by simp, fun i hi => ?_⟩
  have hlt : (i + 1) * sz ≤ k * sz := Nat.mul_le_mul_right _ hi
  rw [Nat.add_mul] at hlt
  have e1 : ((cells.take (k * sz)).drop (i * sz)).take sz = (cells.drop (i * sz)).take sz := by
    rw [List.drop_take, List.take_take]
    congr 1
    omega
  rw [e1]
  exact DenL.mono m.nil _ _ (hrow i hi)

theorem newRun_cells {I : Nat → Prop} {η : Eta} {w : World} {s : Sem Next} {id : Nat} (t : TypeId) (zs : List V) (vs : List Value) (hrun : s.run P w = .ok (.value (.pointer (some ⟨w.heap.size, 0, none⟩))) (w.alloc (.cells vs.toArray t)))
    (hden : DenL I η w zs vs) (h1 : ∀ u ∈ vs, u.oneCell' = true) : NewRun P I η w s id (.ptr id 0) (.cells t zs) := by
  refine ⟨_, 0, _, hrun, fun η₁ m hη => ⟨⟨_, _, rfl, vs, by rw [World.alloc_heap]; simp, h1, DenL.mono m _ _ hden⟩, ⟨_, _, hη, rfl⟩⟩⟩

theorem newOp_sound (hE : EnvOk E P) {I : Nat → Prop} {η : Eta} {w : World} {T : List V} {a : Act} (hT : SatT I η w T a.tmps) {id : Nat} {o : Oper} {K : V → O → Prop} (h : newOp E T id o.op K) (ht : ∀ x ∈ o.op.operands.toList, There T x) :
    ∃ v ob, K v ob ∧ NewRun P I η w (execOp a.eval o) id v ob := by
  unfold newOp at h
  split at h
  · rename_i t x hop
    split at h
    · rename_i z hz
      rw [forceL_eq] at h
      have hx := ev_den hT (ht x (by simp [hop, Op.operands]))
      obtain ⟨vs, g1, g2, g3⟩ := cells?_den hz hx
      refine ⟨_, _, h, newRun_cells t z vs ?_ g3 g2⟩
      simp [execOp, hop, Instr.box, newVar, newRow, newObj, g1, Sem.run]
    · exact h.elim
  · rename_i t hop
    split at h
    · rename_i z hk hz
      rw [forceL_eq] at h
      obtain ⟨i, d, hi, hu, hs, _, _, hz', _⟩ := hE.info hk
      rw [hz'] at hz
      obtain ⟨zv, hzv, rfl, hz1, _⟩ := zeroOf_spec hz
      refine ⟨_, _, h, newRun_cells t _ zv.cells.toList ?_ (den_ofC_list I η w _) hz1⟩
      simp [execOp, hop, Instr.alloc, zeroValue, typeInfo, hi, hzv, newVar, newRow, newObj, Sem.run]
    · exact h.elim
  · rename_i t k parts hop
    split at h
    · rename_i e he
      obtain ⟨hu, i, hinfo, hs, hby, hke, hzz⟩ := elemOf_spec hE he
      split at h
      · rename_i z rows hz hrows
        rw [hzz] at hz
        obtain ⟨zv, hzv, _, hz1, hzs⟩ := zeroOf_spec hz
        rw [← hs] at *
        simp only [cond_eq_ite, Bool.and_eq_true] at h
        split at h
        · rename_i hc
          obtain ⟨⟨hc1, hc2⟩, hc3⟩ := hc
          rw [len_eq] at hc1
          have hc1 := beq_true hc1
          have hc2 := Nat.le_of_ble_eq_true hc2
          have hc3 := Nat.le_of_ble_eq_true hc3
          obtain ⟨cells, hrun, hlen, g4, g6⟩ := built_run (P := P) hT hop hu hinfo hzv hz1 hzs (fun p hp => ht p.2 (by simp [hop, Op.operands]; exact ⟨p.1, by simpa using hp⟩)) hrows hc1 hc2 hc3
          have hkm : k ≤ maxLen := by
            have : k * 1 ≤ k * i.size := Nat.mul_le_mul_left _ hc2
            simp only [maxLen]
            omega
          rw [natK_eq, forceLL_eq] at h
          match rows, h, hc1, g6 with
          | [c], h, hc1, g6 =>
            refine ⟨_, _, h, newRun_row e i.size k k (Nat.le_refl _) hkm (fun _ => c) cells hrun hlen g4 (fun q hq => ?_)⟩
            have hk1 : k = 1 := by simpa using hc1.symm
            have : q = 0 := by omega
            subst this
            simpa using g6 0 c rfl
          | [], h, hc1, g6 =>
            exact ⟨_, _, h, newRun_row e i.size k k (Nat.le_refl _) hkm (fun q => get [] [] q) cells hrun hlen g4 (fun q hq => by simp at hc1; omega)⟩
          | r1 :: r2 :: rs, h, hc1, g6 =>
            refine ⟨_, _, h, newRun_row e i.size k k (Nat.le_refl _) hkm (fun q => get [] (r1 :: r2 :: rs) q) cells hrun hlen g4 (fun q hq => ?_)⟩
            have hq' : q < (r1 :: r2 :: rs).length := by omega
            have := g6 q (r1 :: r2 :: rs)[q] (by rw [List.getElem?_eq_getElem hq'])
            rw [get_eq, List.getElem?_eq_getElem hq']
            simpa using this
        · exact h.elim
      · exact h.elim
    · exact h.elim
  · rename_i t l c hop
    have hl := ev_den hT (ht l (by simp [hop, Op.operands]))
    have hc := ev_den hT (ht c (by simp [hop, Op.operands]))
    split at h
    · rename_i e kl lv kc cv he hlv hcv
      rw [hlv] at hl
      rw [hcv] at hc
      have hl : a.eval l = .int kl lv := hl
      have hc : a.eval c = .int kc cv := hc
      obtain ⟨hu, i, hinfo, hs, hby, hke, hzz⟩ := elemOf_spec hE he
      split at h
      · rename_i z hz
        rw [hzz] at hz
        obtain ⟨zv, hzv, rfl, hz1, hzs⟩ := zeroOf_spec hz
        simp only [cond_eq_ite] at h
        split at h
        · rename_i hfo
          simp only [Bool.and_eq_true] at hfo
          have hb1 := Nat.le_of_ble_eq_true hfo.2
          obtain ⟨h0, hlc, hc2, h⟩ := h
          rw [natK_eq, forceL_eq] at h
          rw [← hs] at *
          rw [← hby] at *
          obtain ⟨cells, hrun, hlen, g4, g6⟩ := made_run (P := P) (I := I) (w := w) hu hinfo hzv hz1 hzs kl kc h0 hlc hc2 hb1
          refine ⟨_, _, h, newRun_row e i.size lv.toNat cv.toNat (by omega) (by simp only [maxLen]; omega) (fun _ => zv.cells.toList.map ofZ) cells ?_ hlen g4 g6⟩
          simp [execOp, hop, hl, hc, hrun]
        · exact h.elim
      · exact h.elim
    · exact h.elim
  · exact h.elim
theorem newOp_ex {T : List V} {id : Nat} {o : Op} {K : V → O → Prop} (h : newOp E T id o K) : ∃ v ob, K v ob ∧ newOp E T id o (fun v' ob' => v' = v ∧ ob' = ob) := by
  cases o <;> simp only [newOp] at h ⊢
  case box t x =>
    split at h
    · rw [forceL_eq] at h; exact ⟨_, _, h, by rw [forceL_eq]; exact ⟨rfl, rfl⟩⟩
    · exact h.elim
  case alloc t =>
    split at h
    · rw [forceL_eq] at h; exact ⟨_, _, h, by rw [forceL_eq]; exact ⟨rfl, rfl⟩⟩
    · exact h.elim
  case buildSlice t n parts =>
    split at h
    · split at h
      · rename_i rows _ _
        simp only [cond_eq_ite, natK_eq, forceLL_eq] at h ⊢
        split at h
        · rename_i hc
          rcases rows with _ | ⟨c, _ | ⟨c2, r⟩⟩
          · exact ⟨_, _, h, by rw [if_pos hc]; exact ⟨rfl, rfl⟩⟩
          · exact ⟨_, _, h, by rw [if_pos hc]; exact ⟨rfl, rfl⟩⟩
          · exact ⟨_, _, h, by rw [if_pos hc]; exact ⟨rfl, rfl⟩⟩
        · exact h.elim
      · exact h.elim
    · exact h.elim
  case makeSlice t l c =>
    split at h
    · split at h
      · simp only [cond_eq_ite, natK_eq, forceL_eq] at h ⊢
        split at h
        · rename_i hc
          obtain ⟨h0, h1, h2, h⟩ := h
          exact ⟨_, _, h, by rw [if_pos hc]; exact ⟨h0, h1, h2, rfl, rfl⟩⟩
        · exact h.elim
      · exact h.elim
    · exact h.elim

theorem conds_mono {T : List V} {e : Prop} {K K' : Prop} (hk : K → K') : ∀ {l : List Operand}, conds T e l K → conds T e l K'
  | [], h => hk h
  | x :: l, h => by
    unfold conds at h ⊢
    cases hi : (ev0 T x).isIte with
    | none => rw [hi] at h; exact conds_mono hk h
    | some q => rw [hi] at h; exact ⟨h.1, conds_mono hk h.2⟩

theorem drawOp_ex {S : Sys} {ops : List Oper} {H : List O} {T : List V} {id : Nat} {o : Oper} {K : V → Option O → Prop} (h : drawOp S E ops H T id o K) : ∃ v ob, K v ob ∧ drawOp S E ops H T id o (fun v' ob' => v' = v ∧ ob' = ob) := by
  unfold drawOp at h ⊢
  split at h
  · exact h.elim
  · exact ⟨_, _, h, rfl, rfl⟩
  · split at h
    · rename_i v hv
      have hk := conds_k h
      rw [force_eq] at hk
      exact ⟨_, _, hk, conds_mono (fun _ => by rw [force_eq]; exact ⟨rfl, rfl⟩) h⟩
    · rename_i c v hv
      have hk := conds_k h.2
      rw [force_eq] at hk
      exact ⟨_, _, hk, h.1, conds_mono (fun _ => by rw [force_eq]; exact ⟨rfl, rfl⟩) h.2⟩
    · have hk := conds_k h
      split at hk
      · split at hk
        · rw [forceL_eq] at hk
          rcases hk with ⟨v, hp, hk⟩ | ⟨v, ob, hp, hk⟩
          · rw [force_eq] at hk
            exact ⟨_, _, hk, conds_mono (fun _ => by rw [forceL_eq]; exact .inl ⟨v, hp, by rw [force_eq]; exact ⟨rfl, rfl⟩⟩) h⟩
          · rw [force_eq] at hk
            exact ⟨_, _, hk, conds_mono (fun _ => by rw [forceL_eq]; exact .inr ⟨v, ob, hp, by rw [force_eq]; exact ⟨rfl, rfl⟩⟩) h⟩
        · exact hk.elim
      · obtain ⟨v, ob, h1, h2⟩ := newOp_ex hk
        refine ⟨v, some ob, h1, conds_mono (fun _ => ?_) h⟩
        obtain ⟨v', ob', ⟨rfl, rfl⟩, h4⟩ := newOp_ex h2
        have : (fun (v'' : V) (ob'' : O) => v'' = v' ∧ ob'' = ob') = (fun (v'' : V) (ob'' : O) => v'' = v' ∧ some ob'' = some ob') := by
          funext a b; simp
        rw [this] at h4
        exact h4
  · rename_i e he
    split at h
    · rename_i v hv
      have hk := conds_k h
      unfold softV at hk
      split at hk
      · rename_i q u
        obtain ⟨hq, hk⟩ := hk
        rw [force_eq] at hk
        exact ⟨_, _, hk, conds_mono (fun _ => ⟨hq, by simp [force_eq]⟩) h⟩
      · rename_i hne
        rw [force_eq] at hk
        refine ⟨_, _, hk, conds_mono (fun _ => ?_) h⟩
        unfold softV
        split
        · exact (hne _ _ rfl).elim
        · simp [force_eq]
    · rename_i c v hv
      have hk := conds_k h.2
      unfold softV at hk
      split at hk
      · rename_i q u
        obtain ⟨hq, hk⟩ := hk
        rw [force_eq] at hk
        exact ⟨_, _, hk, h.1, conds_mono (fun _ => ⟨hq, by simp [force_eq]⟩) h.2⟩
      · rename_i hne
        rw [force_eq] at hk
        refine ⟨_, _, hk, h.1, conds_mono (fun _ => ?_) h.2⟩
        unfold softV
        split
        · exact (hne _ _ rfl).elim
        · simp [force_eq]
    · have hk := conds_k h
      split at hk
      · split at hk
        · rw [forceL_eq] at hk
          obtain ⟨v, hp, hk⟩ := hk
          rw [force_eq] at hk
          exact ⟨_, _, hk, conds_mono (fun _ => by rw [forceL_eq]; exact ⟨v, hp, by rw [force_eq]; exact ⟨rfl, rfl⟩⟩) h⟩
        · exact hk.elim
      · exact hk.elim

theorem guardV_spec {I : Nat → Prop} {η : Eta} {w : World} {ops : Array Oper} {T : List V} {a : Act} {o : Oper} (hT : SatT I η w T a.tmps) :
    (guardV ops.toList T o = .run → Region.wanted o (yielded ops a.tmps) = true) ∧ (guardV ops.toList T o = .skip → Region.wanted o (yielded ops a.tmps) = false) ∧ (∀ e, guardV ops.toList T o = .soft e → (Region.wanted o (yielded ops a.tmps) = true ↔ e)) := by
  unfold guardV
  cases hg : o.guard with
  | none => simp [Region.wanted, hg]
  | some jw =>
    obtain ⟨j, want⟩ := jw
    simp only
    cases hd : guardDst ops.toList j with
    | none => simp
    | some g =>
      simp only
      have hy := yielded_eq (tmps := a.tmps) hd
      have hden := hT.2 g
      have hwant : ∀ b, a.tmps.getD g undef = .bool b → Region.wanted o (yielded ops a.tmps) = (b == want) := by
        intro b hb
        simp only [Region.wanted, hg, hy, hb]
        cases b <;> cases want <;> rfl
      have hnone : a.tmps.getD g undef = undef → Region.wanted o (yielded ops a.tmps) = false := by
        intro hb
        rw [hb] at hy
        simp only [Region.wanted, hg, hy]
        rfl
      cases hv : get .any T g <;> rw [hv] at hden <;> simp only
      case kb b =>
        have := hwant b hden
        cases b <;> cases want <;> simp [this]
      case prop p d =>
        have := hwant _ hden
        cases want <;> simp [this]
      case ite q v =>
        cases v <;> simp only
        case prop p d =>
          by_cases hq : q
          · have := hwant _ (hden.1 hq)
            cases want <;> simp [this, hq]
          · have := hnone (hden.2 hq)
            cases want <;> simp [this, hq]
        case kb b =>
          by_cases hq : q
          · have := hwant _ (hden.1 hq)
            cases b <;> cases want <;> simp [this, hq]
          · have := hnone (hden.2 hq)
            cases b <;> cases want <;> simp [this, hq]
        all_goals simp
      all_goals simp
theorem drawOp_fact {R : Rel} (hR : RelOk R) (hE : EnvOk E P) {ops : Array Oper} {H₀ : List O} {T : List V} {id : Nat} {o : Oper} {v : V} {ob : Option O} (h : drawOp (sys P) E ops.toList H₀ T id o (fun v' ob' => v' = v ∧ ob' = ob)) : OpFact P R ops H₀ o T id v ob := by
  intro r n Q I η w a T' H hag hpre hg hres K
  obtain ⟨hw1, hw2, hw3⟩ := guardV_spec (ops := ops) (o := o) hg.tmp
  rw [looks_guard hag] at hw1 hw2 hw3
  have hop := looks_operand hag
  have hthere : ∀ x ∈ o.op.operands.toList, There T x → There T' x := by
    intro x hx hh
    unfold There at hh ⊢
    rw [hop x hx]
    exact hh
  have hcond : ∀ x ∈ condOps o.op, x ∈ o.op.operands.toList := by
    intro x hx
    revert hx
    cases o.op <;> simp only [condOps, Op.operands] <;> intro hx <;> first | (simp at hx; done) | (simp at hx; subst hx; simp) | exact hx
  have hobjs : Objs I η w H₀ := fun j e o he ho => hg.sat.obj j e o he (hpre j o ho)
  have hpc : pureOp E T' H₀ o.op = pureOp E T H₀ o.op := pureOp_congr hop
  have kval : ∀ (u : V) (x : Value), Den I η w u x → v = u → ob = none → K (a.put o.dst x) w := by
    rintro u x hd rfl rfl
    refine ⟨Act.put_defers' _ _ _, I, η, ⟨hg.sat, hg.tmp.put hd⟩, fun _ _ => rfl, fun _ => rfl, hR.step (Step.refl _ _ _)⟩
  have kcall : ∀ (e : Prop) (fo : Operand) (args : Array Operand) (ts : Array TypeId) (g : FuncId) (first cap : List V) (u : V), o.op = .call { callee := .value fo, args := args, argTypes := ts } → ev T fo = .fn (.func g) first cap → e →
      (∀ x ∈ o.op.operands.toList, There T x) → (e → PCall P g (first ++ (evs T args.toList ++ cap)) H₀ u) → (v = u ∨ v = .ite e u) → ob = none → o.wpIn (Fw r) n P a w K Q := by
    rintro e fo args ts g first cap u hoc hf he ht hp hv rfl
    have hd : ∀ c, o.op ≠ .defer c := by rw [hoc]; intro c hc; cases hc
    have hfo : fo ∈ o.op.operands.toList := by simp [hoc, Op.operands, Call.operands]
    have hfd := ev_den hg.tmp (hthere fo hfo (ht fo hfo))
    have hevf : ev T' fo = ev T fo := by simp only [ev]; rw [hop fo hfo]
    rw [hevf, hf] at hfd
    obtain ⟨as, bs, hfv, had, hbd⟩ := hfd
    have hin : ∀ x ∈ args.toList, x ∈ o.op.operands.toList := fun x hx => by simp [hoc, Op.operands, Call.operands]; exact .inr (by simpa using hx)
    have hargs := evs_den hg.tmp args.toList (fun x hx => hthere x (hin x hx) (ht x (hin x hx)))
    rw [evs_congr (fun x hx => hop x (hin x hx))] at hargs
    obtain ⟨hpl, hcall⟩ := pcall_run hR hg.sat hpre (hp he) (had.append (hargs.append hbd))
    refine ⟨fun _ _ => trivial, ?_⟩
    rw [Oper.semAt_eq _ _ _ hd, call_run hoc hfv hpl]
    refine ⟨fun hsome => by simp [Fw] at hsome, calls_fw (hcall.mono ?_)⟩
    rintro e' w' ⟨x, rfl, s1, s2, s3, s4⟩
    refine ⟨Act.put_defers' _ _ _, grow I w w', η, ⟨s1, (hg.tmp.mono s3).put ?_⟩, fun _ _ => rfl, fun _ => rfl, s4⟩
    rcases hv with rfl | rfl
    · exact s2
    · exact ⟨fun _ => s2, fun hn => (hn he).elim⟩
  have ncall : ∀ (fo : Operand) (args : Array Operand) (ts : Array TypeId) (g : FuncId) (first cap : List V) (u : V) (b : O), o.op = .call { callee := .value fo, args := args, argTypes := ts } → ev T fo = .fn (.func g) first cap →
      (∀ x ∈ o.op.operands.toList, There T x) → NCall P g (first ++ (evs T args.toList ++ cap)) u b → v = shV id u → ob = some (shO id b) → o.wpIn (Fw r) n P a w K Q := by
    rintro fo args ts g first cap u b hoc hf ht hp rfl rfl
    have hd : ∀ c, o.op ≠ .defer c := by rw [hoc]; intro c hc; cases hc
    have hfo : fo ∈ o.op.operands.toList := by simp [hoc, Op.operands, Call.operands]
    have hfd := ev_den hg.tmp (hthere fo hfo (ht fo hfo))
    have hevf : ev T' fo = ev T fo := by simp only [ev]; rw [hop fo hfo]
    rw [hevf, hf] at hfd
    obtain ⟨as, bs, hfv, had, hbd⟩ := hfd
    have hin : ∀ x ∈ args.toList, x ∈ o.op.operands.toList := fun x hx => by simp [hoc, Op.operands, Call.operands]; exact .inr (by simpa using hx)
    have hargs := evs_den hg.tmp args.toList (fun x hx => hthere x (hin x hx) (ht x (hin x hx)))
    rw [evs_congr (fun x hx => hop x (hin x hx))] at hargs
    unfold NCall at hp
    obtain ⟨hfo', hpl, hcall⟩ := hp
    refine ⟨fun _ _ => trivial, ?_⟩
    rw [Oper.semAt_eq _ _ _ hd, call_run hoc hfv hpl]
    refine ⟨fun hsome => by simp [Fw] at hsome, calls_fw ((hcall I w _ hg.sat.ilt (fo_nil_list _ _ hfo' (had.append (hargs.append hbd)))).mono ?_)⟩
    rintro e' w' ⟨I', η', H', ret, x, rfl, ⟨rfl, rfl⟩, hS', hden, hst⟩
    obtain ⟨hη, hH⟩ := hres rfl
    obtain ⟨e, rfl⟩ := List.length_eq_one_iff.1 (show η'.length = 1 from hS'.len)
    obtain ⟨s0, s1, s2, s3⟩ := hg.sat.fillNew hη hH hS' hst
    refine ⟨Act.put_defers' _ _ _, I', _, ⟨s1, (hg.tmp.mono s2).put (Den.shift s0 _ _ hden)⟩, fun j hj => ?_, fun hn => by simp at hn, hR.step s3⟩
    rw [List.getElem?_set, if_neg (fun e => hj e.symm)]
  unfold drawOp at h
  split at h
  · exact h.elim
  · rename_i hgv
    obtain ⟨h1, h2⟩ := h
    rw [if_neg (by simp [hw2 hgv])]
    exact kval .any _ trivial h1.symm h2.symm
  · rename_i hgv
    rw [if_pos (hw1 hgv)]
    split at h
    · rename_i u hpu
      obtain ⟨ht, hk⟩ := conds_true trivial h
      rw [force_eq] at hk
      have := pureOp_sound (P := P) hE hobjs hg.tmp o (fun x hx => hthere x (hcond x hx) (ht x hx))
      rw [hpc, hpu] at this
      obtain ⟨x, e1, e2⟩ := this
      exact wpIn_value (by intro c hc; rw [hc] at hpu; simp [pureOp] at hpu) e1 (kval u x e2 hk.1.symm hk.2.symm)
    · rename_i c u hpu
      obtain ⟨ht, hk⟩ := conds_true trivial h.2
      rw [force_eq] at hk
      have := pureOp_sound (P := P) hE hobjs hg.tmp o (fun x hx => hthere x (hcond x hx) (ht x hx))
      rw [hpc, hpu] at this
      obtain ⟨x, e1, e2⟩ := this h.1
      exact wpIn_value (by intro c hc; rw [hc] at hpu; simp [pureOp] at hpu) e1 (kval u x e2 hk.1.symm hk.2.symm)
    · obtain ⟨ht, hk⟩ := conds_true trivial h
      split at hk
      · rename_i fo args ts hoc
        split at hk
        · rename_i g first cap hf
          rw [forceL_eq, app_eq, app_eq] at hk
          rcases hk with ⟨u, hp, hk⟩ | ⟨u, b, hp, hk⟩
          · rw [force_eq] at hk
            exact kcall True fo args ts g first cap u hoc hf trivial ht (fun _ => hp) (.inl hk.1.symm) hk.2.symm
          · rw [force_eq] at hk
            exact ncall fo args ts g first cap u b hoc hf ht hp hk.1.symm hk.2.symm
        · exact hk.elim
      · obtain ⟨u, b, ⟨hk1, hk2⟩, hrun⟩ := newOp_sound (P := P) (I := I) (η := η) (w := w) hE hg.tmp (id := id) (o := o) (by rw [newOp_congr hop]; exact hk) (fun x hx => hthere x hx (ht x hx))
        subst hk1
        subst hk2
        obtain ⟨x, c, real, hr, hfin⟩ := hrun
        obtain ⟨hη, hH⟩ := hres rfl
        have hidη := (List.getElem?_eq_some_iff.1 hη).1
        obtain ⟨s1, s2, s3⟩ := hg.sat.fill hη hH real b c (fun m => (hfin _ m (by simp [hidη])).1)
        have hden := (hfin _ s2 (by simp [hidη])).2
        refine wpIn_value ?_ hr ⟨Act.put_defers' _ _ _, I, _, ⟨s1, (hg.tmp.mono s2).put hden⟩, fun j hj => ?_, fun hn => by simp at hn, hR.step s3⟩
        · intro c' hc'
          rw [hc'] at hk
          simp [newOp] at hk
        · rw [List.getElem?_set, if_neg (fun e => hj e.symm)]
  · rename_i e hgv
    have hwe := hw3 e hgv
    have soft : ∀ (u : V), conds T e (condOps o.op) (softV e u fun v1 => force v1 fun v2 => v2 = v ∧ none = ob) → (e → (∀ x ∈ condOps o.op, There T x) → ∃ x, (execOp a.eval o).run P w = .ok (.value x) w ∧ Den I η w u x) → (∀ c, o.op ≠ .defer c) →
        if Region.wanted o (yielded ops a.tmps) = true then o.wpIn (Fw r) n P a w K Q else K (a.put o.dst undef) w := by
      intro u hc hrun hd
      by_cases he : e
      · rw [if_pos (hwe.2 he)]
        obtain ⟨ht, hk⟩ := conds_true he hc
        obtain ⟨x, e1, e2⟩ := hrun he ht
        unfold softV at hk
        split at hk
        · rename_i q u'
          simp only [force_eq] at hk
          exact wpIn_value hd e1 (kval (.ite e u') x ⟨fun _ => e2.1 (hk.1 he), fun hn => (hn he).elim⟩ hk.2.1.symm hk.2.2.symm)
        · simp only [force_eq] at hk
          exact wpIn_value hd e1 (kval (.ite e u) x ⟨fun _ => e2, fun hn => (hn he).elim⟩ hk.1.symm hk.2.symm)
      · rw [if_neg (by simpa [hwe] using he)]
        have hk := conds_k hc
        unfold softV at hk
        split at hk
        · rename_i q u'
          simp only [force_eq] at hk
          exact kval (.ite e u') undef ⟨fun hh => (he hh).elim, fun _ => rfl⟩ hk.2.1.symm hk.2.2.symm
        · simp only [force_eq] at hk
          exact kval (.ite e u) undef ⟨fun hh => (he hh).elim, fun _ => rfl⟩ hk.1.symm hk.2.symm
    split at h
    · rename_i u hpu
      refine soft u h (fun he ht => ?_) (by intro c hc; rw [hc] at hpu; simp [pureOp] at hpu)
      have := pureOp_sound (P := P) hE hobjs hg.tmp o (fun x hx => hthere x (hcond x hx) (ht x hx))
      rw [hpc, hpu] at this
      exact this
    · rename_i c u hpu
      refine soft u h.2 (fun he ht => ?_) (by intro c hc; rw [hc] at hpu; simp [pureOp] at hpu)
      have := pureOp_sound (P := P) hE hobjs hg.tmp o (fun x hx => hthere x (hcond x hx) (ht x hx))
      rw [hpc, hpu] at this
      exact this (h.1 he)
    · have hk := conds_k h
      split at hk
      · rename_i fo args ts hoc
        split at hk
        · rename_i g first cap hf
          rw [forceL_eq, app_eq, app_eq] at hk
          obtain ⟨u, hp, hk⟩ := hk
          rw [force_eq] at hk
          by_cases he : e
          · rw [if_pos (hwe.2 he)]
            obtain ⟨ht, _⟩ := conds_true he h
            exact kcall e fo args ts g first cap u hoc hf he ht hp (.inr hk.1.symm) hk.2.symm
          · rw [if_neg (by simpa [hwe] using he)]
            exact kval (.ite e u) undef ⟨fun hh => (he hh).elim, fun _ => rfl⟩ hk.1.symm hk.2.symm
        · exact hk.elim
      · exact hk.elim
end Go.Sx
