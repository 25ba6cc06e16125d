/- Own work: a text of the proof of a law (SxOps4). -/
import Derived.Test.YtghddmaihcjmlaaSxMapE
import Derived.Laws.Cover3
namespace Go.Sx
open Go
variable {P : Program} {E : Env}

theorem run_len_slice {t e : TypeId} (hu : P.underlying t = some (.slice e)) (w : World) (a : Option Addr) (n c : Nat) (ty : TypeId) : (Builtin.len_ #[t] ty #[.slice a n c]).run P w = .ok (.int .i64 n) w := by
  simp [Builtin.len_, run_underlying hu, goInt]

theorem lenV_sound (hE : EnvOk E P) {I : Nat → Prop} {η : Eta} {w : World} (t ty : TypeId) {a : V} {x : Value} (ha : Den I η w a x) : (lenV E t a).sound P I η w (Builtin.len_ #[t] ty #[x]) := by
  unfold lenV
  split
  · rename_i e sz n f he
    obtain ⟨hu, _⟩ := elemOf_spec hE he
    rcases ha with ⟨rfl, _, _, rfl⟩ | ⟨b, o, cap, rfl, _, _⟩
    · exact ⟨_, run_len_slice hu w _ _ _ _, rfl⟩
    · exact ⟨_, run_len_slice hu w _ _ _ _, rfl⟩
  · rename_i e id n he
    obtain ⟨hu, _⟩ := elemOf_spec hE he
    obtain ⟨⟨bb, c⟩, hη, hz, rfl⟩ := ha
    cases bb with
    | none => obtain rfl := (hz rfl).1; exact ⟨_, run_len_slice hu w _ _ _ _, rfl⟩
    | some b => exact ⟨_, run_len_slice hu w _ _ _ _, rfl⟩
  · trivial

theorem one_den {I : Nat → Prop} {η : Eta} {w : World} {v : V} {x : Value} (h1 : v.one = true) (hd : Den I η w v x) : x.oneCell' = true := by
  cases v <;> simp only [V.one, Bool.false_eq_true] at h1
  case int => rw [show x = _ from hd]; rfl
  case prop => rw [show x = _ from hd]; rfl
  case kb => rw [show x = _ from hd]; rfl
  case ptr => obtain ⟨_, _, _, rfl⟩ := hd; rfl
  case eptr => obtain ⟨_, _, _, rfl⟩ := hd; rfl
  case iptr => obtain ⟨_, _, _, rfl, _⟩ := hd; rfl
  case sl => rcases hd with ⟨_, _, _, rfl⟩ | ⟨_, _, _, rfl, _⟩ <;> rfl
  case osl => obtain ⟨⟨bb, c⟩, _, _, rfl⟩ := hd; cases bb <;> rfl
  case map => obtain ⟨_, _, _, rfl⟩ := hd; rfl
  case fn => obtain ⟨_, _, rfl, _⟩ := hd; rfl
  case sem => exact hd.1
  case imap => obtain ⟨_, _, _, rfl, _⟩ := hd; rfl
  case lit => rw [show x = _ from hd]; exact h1
  case yld => obtain ⟨_, _, _, rfl⟩ := hd; rfl

theorem cells?_den {I : Nat → Prop} {η : Eta} {w : World} {v : V} {x : Value} {cs : List V} (h : cells? v = some cs) (hd : Den I η w v x) :
    ∃ vs : List Value, x.cells = vs.toArray ∧ (∀ u ∈ vs, u.oneCell' = true) ∧ DenL I η w cs vs := by
  unfold cells? at h
  split at h
  · cases h
    obtain ⟨vs, rfl, h1, h2⟩ := hd
    exact ⟨vs, rfl, h1, normL_den h2⟩
  · simp only [cond_eq_ite] at h
    split at h
    · rename_i h1
      cases h
      have h2 := one_den h1 hd
      refine ⟨[x], ?_, by simpa using h2, x, [], rfl, norm_den hd, rfl⟩
      cases x <;> simp [Value.oneCell'] at h2 <;> rfl
    · cases h

theorem splice_eq {α : Type} : ∀ (xs l : List α) (i : Nat), i + xs.length ≤ l.length → splice l i xs = l.take i ++ xs ++ l.drop (i + xs.length)
  | [], l, i, _ => by simp [splice]
  | x :: xs, l, i, h => by
    simp only [List.length_cons] at h
    rw [splice, set_eq, splice_eq xs _ (i + 1) (by simp; omega)]
    have h1 : (l.set i x).take (i + 1) = l.take i ++ [x] := by
      rw [List.take_succ_eq_append_getElem (by simp; omega)]
      simp [List.take_set_of_le]
    have h2 : (l.set i x).drop (i + 1 + xs.length) = l.drop (i + (x :: xs).length) := by
      rw [List.drop_set_of_lt (by omega)]
      simp [Nat.add_comm, Nat.add_left_comm]
    rw [h1, h2]
    simp

theorem DenL.splice {I : Nat → Prop} {η : Eta} {w : World} {cs ds : List V} {vs us : List Value} (i : Nat) (h : DenL I η w cs vs) (k : DenL I η w ds us) (hl : i + ds.length ≤ cs.length) :
    DenL I η w (Sx.splice cs i ds) (vs.take i ++ us ++ vs.drop (i + us.length)) := by
  rw [splice_eq ds cs i hl, k.length]
  exact ((h.take i).append k).append (h.drop _)

/-- cells put into others, one by one -/
theorem foldl_set (vs : List Value) : ∀ (off : Nat) (cs : List Value) (k : Nat), off + k + vs.length ≤ cs.length →
    ((vs.zipIdx k).foldl (fun (c : Array Value) (x : Value × Nat) => c.setIfInBounds (off + x.2) x.1) cs.toArray) = (Sx.splice cs (off + k) vs).toArray := by
  induction vs with
  | nil => intro off cs k _; simp [Sx.splice]
  | cons v vs ih =>
    intro off cs k h
    simp only [List.length_cons] at h
    simp only [List.zipIdx_cons, List.foldl_cons, List.setIfInBounds_toArray, Sx.splice, set_eq]
    rw [ih off _ (k + 1) (by simp; omega)]
    rfl

theorem fill_sound (hE : EnvOk E P) {I : Nat → Prop} {η : Eta} {w : World} {T : List V} {a : Act} (hT : SatT I η w T a.tmps) (s : TypeId) (fs : Array Field) (places : Array (Nat × Nat)) (hk : (E.ti s).known = true) (hu : P.underlying s = some (.struct fs))
    (hp : ∀ (j : Nat) (fd : Field), fs[j]? = some fd → places[j]? = some (fd.offset, P.cellsOf fd.type)) : ∀ (parts : List (Nat × Operand)) (cs : List V) (vs : List Value) (cs' : List V),
    (∀ p ∈ parts, There T p.2) → DenL I η w cs vs → (∀ u ∈ vs, u.oneCell' = true) → fillV E s T cs parts = some cs' →
    ∃ vs' : List Value, Instr.fill (places[·]?) vs.toArray (parts.map fun p => (p.1, a.eval p.2)) = some vs'.toArray ∧ DenL I η w cs' vs' ∧ (∀ u ∈ vs', u.oneCell' = true)
  | [], cs, vs, cs', _, hd, h1, h => by simp [fillV] at h; subst h; exact ⟨vs, rfl, hd, h1⟩
  | (i, x) :: l, cs, vs, cs', ht, hd, h1, h => by
    simp only [fillV] at h
    split at h
    · rename_i o n t us hf hc
      simp only [cond_eq_ite, Bool.and_eq_true] at h
      split at h
      · rename_i hcond
        obtain ⟨hn, hle⟩ := hcond
        rw [len_eq] at hn hle
        have hn := beq_true hn
        have hle := Nat.le_of_ble_eq_true hle
        have hx := ev_den hT (ht (i, x) (by simp))
        obtain ⟨ws, hws, hw1, hwd⟩ := cells?_den hc hx
        obtain ⟨fs', fd, hu', hfs, ho, hsz, _, _⟩ := fieldOf_spec hE hk hf
        rw [hu] at hu'
        cases hu'
        have hwl := hwd.length
        have hvl := hd.length
        have hsp := DenL.splice (I := I) (η := η) (w := w) o hd hwd (by omega)
        obtain ⟨vs', g1, g2, g3⟩ := fill_sound hE hT s fs places hk hu hp l _ _ cs' (fun p hp => ht p (by simp [hp])) hsp (by
          intro u hu
          simp only [List.mem_append] at hu
          rcases hu with (hu | hu) | hu
          · exact h1 u (List.mem_of_mem_take hu)
          · exact hw1 u hu
          · exact h1 u (List.mem_of_mem_drop hu)) h
        refine ⟨vs', ?_, g2, g3⟩
        simp only [List.map_cons, Instr.fill, hp i fd hfs]
        rw [hws]
        have hsz' : ws.toArray.size = P.cellsOf fd.type := by simp; omega
        have hbd : ¬ (fd.offset + ws.length > vs.length) := by omega
        simp only [List.size_toArray] at hsz' ⊢
        rw [if_neg (by simp [hsz']; omega)]
        have := foldl_set ws fd.offset vs 0 (by omega)
        simp only [Nat.add_zero] at this
        have e2 : (Array.foldl (fun cs (x : Value × Nat) => cs.setIfInBounds (fd.offset + x.2) x.1) vs.toArray ws.toArray.zipIdx) = (Sx.splice vs fd.offset ws).toArray := by
          rw [← this]
          simp
        rw [e2, splice_eq ws vs fd.offset (by omega), ho]
        exact g1
      · cases h
    · cases h

theorem build_places {fs : Array Field} (w : World) (h : ∀ fd ∈ fs, ∃ i, P.info? fd.type = some i) : (fs.mapM (m := Sem) fun f => do pure (f.offset, ← sizeOf f.type)).run P w = .ok (fs.map fun f => (f.offset, P.cellsOf f.type)) w := by
  obtain ⟨l⟩ := fs
  simp only [List.mapM_toArray, List.map_toArray]
  have : ∀ (l : List Field), (∀ fd ∈ l, ∃ i, P.info? fd.type = some i) → (l.mapM (m := Sem) fun f => do pure (f.offset, ← sizeOf f.type)).run P w = .ok (l.map fun f => (f.offset, P.cellsOf f.type)) w := by
    intro l
    induction l with
    | nil => intro _; simp
    | cons f l ih =>
      intro hl
      obtain ⟨i, hi⟩ := hl f (by simp)
      have h1 : (sizeOf f.type).run P w = .ok (P.cellsOf f.type) w := run_sizeOf w hi
      simp only [List.mapM_cons, Sem.run_bind, h1, Result.andThen_ok, Sem.run_pure, ih (fun fd hfd => hl fd (by simp [hfd])), List.map_cons]
  have h2 := this l (fun fd hfd => h fd (by simpa using hfd))
  simp only [Sem.run_map, h2, Result.andThen_ok]

theorem allKnown_info (hE : EnvOk E P) : ∀ (l : List Field), allKnown E (l.map fun f => (f.offset, P.cellsOf f.type, f.type)) = true → ∀ fd ∈ l, ∃ i, P.info? fd.type = some i
  | [], _, fd, h => by cases h
  | f :: l, h, fd, hm => by
    simp only [List.map_cons, allKnown, Bool.and_eq_true] at h
    rcases List.mem_cons.1 hm with rfl | hm
    · obtain ⟨i, d, hi, _⟩ := hE.info h.1; exact ⟨i, hi⟩
    · exact allKnown_info hE l h.2 fd hm

theorem evs_den {I : Nat → Prop} {η : Eta} {w : World} {T : List V} {a : Act} (h : SatT I η w T a.tmps) : ∀ (l : List Operand), (∀ x ∈ l, There T x) → DenL I η w (evs T l) (l.map a.eval)
  | [], _ => rfl
  | x :: l, ht => ⟨a.eval x, _, rfl, ev_den h (ht x (by simp)), evs_den h l (fun y hy => ht y (by simp [hy]))⟩

/-- what an operation that leaves the heap alone does -/
def PR.soundOp (P : Program) (I : Nat → Prop) (η : Eta) (w : World) (s : Sem Next) : PR → Prop
  | .bad => True
  | .ok v => ∃ x, s.run P w = .ok (.value x) w ∧ Den I η w v x
  | .need c v => c → ∃ x, s.run P w = .ok (.value x) w ∧ Den I η w v x

theorem PR.sound.op {I : Nat → Prop} {η : Eta} {w : World} {s : Sem Value} {r : PR} (h : r.sound P I η w s) : r.soundOp P I η w (do pure (.value (← s))) := by
  cases r with
  | bad => trivial
  | ok v => obtain ⟨x, h1, h2⟩ := h; exact ⟨x, by simp [h1], h2⟩
  | need c v => intro hc; obtain ⟨x, h1, h2⟩ := h hc; exact ⟨x, by simp [h1], h2⟩

theorem builtinV_sound (hE : EnvOk E P) {I : Nat → Prop} {η : Eta} {w : World} (b : Builtin) (ty : TypeId) (consts : Array Bool) {ts : List TypeId} {vs : List V} {xs : List Value} (hd : DenL I η w vs xs) :
    (builtinV E b ts vs).soundOp P I η w (builtin b ts.toArray ty consts xs.toArray) := by
  unfold builtinV
  split
  · rename_i t x
    obtain ⟨y, r, rfl, hy, hr⟩ := hd
    have hr : r = [] := hr
    subst hr
    exact (lenV_sound hE t ty hy).op
  · rename_i x y
    obtain ⟨x', r, rfl, hx, hr⟩ := hd
    obtain ⟨y', r', rfl, hy, hr'⟩ := hr
    have hr' : r' = [] := hr'
    subst hr'
    split
    · rename_i k m k' n
      have hx : x' = .int k m := hx
      have hy : y' = .int k' n := hy
      subst hx hy
      split
      · rename_i hk
        subst hk
        refine ⟨.int k (max m n), ?_, rfl⟩
        simp [builtin, Builtin.max_, Builtin.max2]
        split <;> omega
      · trivial
    · trivial
  · rename_i x y
    obtain ⟨x', r, rfl, hx, hr⟩ := hd
    obtain ⟨y', r', rfl, hy, hr'⟩ := hr
    have hr' : r' = [] := hr'
    subst hr'
    split
    · rename_i k m k' n
      have hx : x' = .int k m := hx
      have hy : y' = .int k' n := hy
      subst hx hy
      split
      · rename_i hk
        subst hk
        refine ⟨.int k (min m n), ?_, rfl⟩
        simp [builtin, Builtin.min_, Builtin.min2]
        split <;> omega
      · trivial
    · trivial
  · trivial

def nilRes (ad : Option Addr) : PR → Prop
  | .ok (.kb b) => ad.isNone = b
  | .need c (.kb b) => c → ad.isNone = b
  | .need c (.prop p d) => c → ad.isNone = @decide p d
  | _ => False

theorem nilOf_sound {I : Nat → Prop} {η : Eta} {w : World} {H : List O} (hS : Objs I η w H) {a : V} {x : Value} (ha : Den I η w a x) {r : PR} (h : nilOf H a = some r) :
    ∃ (ad : Option Addr) (n c : Nat), x = .slice ad n c ∧ nilRes ad r := by
  unfold nilOf at h
  split at h
  · rename_i id n
    obtain ⟨e, hη, he, rfl⟩ := ha
    obtain ⟨b, cap⟩ := e
    split at h
    · rename_i ty sz n' f hg
      cases h
      obtain ⟨xs, _, _, hz, _⟩ := hS id _ _ hη (get_live hg trivial)
      cases b with
      | none => exact ⟨none, 0, 0, rfl, fun hc => by have := (he rfl).1; simp [this]⟩
      | some b =>
        refine ⟨some ⟨b, 0, none⟩, n, cap, rfl, fun hc => ?_⟩
        have : ¬ n = 0 := fun h0 => by have := hz.2 ⟨rfl, by omega⟩; cases this
        simp [this]
    · rename_i ty sz n' f hg
      cases h
      obtain ⟨xs, _, _, hz, _⟩ := hS id _ _ hη (get_live hg trivial)
      cases b with
      | none => exact absurd (hz.1 rfl).1 (by simp)
      | some b => exact ⟨some ⟨b, 0, none⟩, n, cap, rfl, fun hc => rfl⟩
    · cases h
  · cases h
    have ha : x = .slice none 0 0 := ha
    subst ha
    exact ⟨none, 0, 0, rfl, rfl⟩
  · cases h

theorem binH_sound (hE : EnvOk E P) {I : Nat → Prop} {η : Eta} {w : World} {H : List O} (hS : Objs I η w H) (op : BinOp) (t : TypeId) (ox oy : Operand) {a b : V} {x y : Value} (ha : Den I η w a x) (hb : Den I η w b y) :
    (binH E H op t a b).sound P I η w (do eqGuard op t ox oy x y; binOp op t x y) := by
  unfold binH
  split
  · rename_i e hn he
    obtain ⟨hu, _⟩ := elemOf_spec hE he
    have hy : y = .slice none 0 0 := by
      unfold isNil at hn
      split at hn
      · exact hb
      · cases hn
    subst hy
    have hg : ∀ (ad : Option Addr) (n c : Nat), (eqGuard op t ox oy (.slice ad n c) (.slice none 0 0)).run P w = .ok () w := by
      intro ad n c
      unfold eqGuard
      split <;> simp
    split
    · rename_i r hr
      obtain ⟨ad, n, c, rfl, h⟩ := nilOf_sound hS ha hr
      have hrun : (do eqGuard .eql t ox oy (.slice ad n c) (.slice none 0 0); binOp .eql t (.slice ad n c) (.slice none 0 0) : Sem Value).run P w = .ok (.bool ad.isNone) w := by
        simp [hg, binOp, run_equal_slice_nil w t e ad n c hu]
      cases r with
      | bad => exact h.elim
      | ok v => cases v with
        | kb b => exact ⟨_, hrun, by rw [h]; rfl⟩
        | _ => exact h.elim
      | need c v => cases v with
        | kb b => exact fun hc => ⟨_, hrun, by rw [h hc]; rfl⟩
        | prop p d => exact fun hc => ⟨_, hrun, by rw [h hc]; rfl⟩
        | _ => exact h.elim
    · rename_i r hr
      obtain ⟨ad, n, c, rfl, h⟩ := nilOf_sound hS ha hr
      have hrun : (do eqGuard .neq t ox oy (.slice ad n c) (.slice none 0 0); binOp .neq t (.slice ad n c) (.slice none 0 0) : Sem Value).run P w = .ok (.bool (!ad.isNone)) w := by
        simp [hg, binOp, run_equal_slice_nil w t e ad n c hu]
      cases r with
      | bad => exact h.elim
      | ok v => cases v with
        | kb b => cases b <;> exact ⟨_, hrun, by rw [h]; rfl⟩
        | _ => exact h.elim
      | need c v => cases v with
        | kb b => cases b <;> exact fun hc => ⟨_, hrun, by rw [h hc]; rfl⟩
        | prop p d => exact fun hc => ⟨_, hrun, by rw [h hc]; simp only [Den]; congr 1; by_cases hp : p <;> simp [hp]⟩
        | _ => exact h.elim
    · trivial
  · exact binV_sound hE op t ox oy ha hb

theorem pureOp_sound (hE : EnvOk E P) {I : Nat → Prop} {η : Eta} {w : World} {T : List V} {H : List O} {a : Act} (hS : Objs I η w H) (hT : SatT I η w T a.tmps) (o : Oper) (ht : ∀ x ∈ condOps o.op, There T x) :
    (pureOp E T H o.op).soundOp P I η w (execOp a.eval o) := by
  unfold pureOp
  split <;> rename_i hop <;> simp only [hop, condOps, Op.operands, Call.operands] at ht
  · exact ⟨_, by simp [execOp, hop], ev0_den hT _⟩
  · exact ⟨_, by simp [execOp, hop], ev0_den hT _⟩
  · rename_i c x y
    have := (pickV_sound (P := P) (ev_den hT (ht c (by simp))) (ev0_den hT x) (ev0_den hT y)).op
    simpa [execOp, hop] using this
  · rename_i t x
    have := (loadV_sound hE hS t (ev_den hT (ht x (by simp)))).op
    simpa [execOp, hop] using this
  · rename_i s x f
    have := (fieldAddrV_sound hE s f (ev_den hT (ht x (by simp)))).op
    simpa [execOp, hop] using this
  · rename_i s x f
    have := (fieldV_sound hE s f (ev_den hT (ht x (by simp)))).op
    simpa [execOp, hop] using this
  · rename_i t x i
    have := (indexAddrV_sound hE t (ev_den hT (ht x (by simp))) (ev_den hT (ht i (by simp)))).op
    simpa [execOp, hop] using this
  · rename_i op t x y t'
    have := (binH_sound hE hS op t x y (ev_den hT (ht x (by simp))) (ev_den hT (ht y (by simp)))).op
    simpa [execOp, hop] using this
  · rename_i op t x
    have := (unV_sound (P := P) op (ev_den hT (ht x (by simp)))).op
    simpa [execOp, hop] using this
  · rename_i x i
    have hx := ev_den hT (ht x (by simp))
    split
    · rename_i vs hv
      rw [hv] at hx
      obtain ⟨us, hu, hd⟩ := hx
      simp only [cond_eq_ite]
      split
      · rename_i hi
        rw [len_eq] at hi
        have hi' : i < vs.length := Nat.le_of_ble_eq_true hi
        obtain ⟨u, h1, h2⟩ := hd.getElem? i vs[i] (by simp [hi'])
        refine ⟨u, ?_, by rw [get_eq]; simpa [hi'] using h2⟩
        simp [execOp, hop, hu, Instr.extract, h1]
      · trivial
    · trivial
  · rename_i fn first cap
    refine ⟨.func fn (first.toList.map a.eval).toArray (cap.toList.map a.eval).toArray, ?_, _, _, rfl, evs_den hT _ (fun x hx => ht x (by simp; exact .inl (by simpa using hx))), evs_den hT _ (fun x hx => ht x (by simp; exact .inr (by simpa using hx)))⟩
    simp [execOp, hop, Instr.makeFunc]
    exact ⟨by cases first; simp, by cases cap; simp⟩
  · rename_i t parts
    split
    · rename_i fs z hk hkind hz
      obtain ⟨i, d, hi, hu, hs, _, hkind', hz', _⟩ := hE.info hk
      rw [hkind'] at hkind
      rw [hz'] at hz
      obtain ⟨zv, hzv, rfl, hz1, _⟩ := zeroOf_spec hz
      have : ∃ fs', d = .struct fs' := by revert hkind; cases d <;> simp [kindOf]
      obtain ⟨fs', rfl⟩ := this
      simp only [kindOf, TK.struct.injEq] at hkind
      subst hkind
      simp only [cond_eq_ite]
      split
      · rename_i hall
        split
        · rename_i cs hf
          have hinfo : ∀ fd ∈ fs', ∃ i, P.info? fd.type = some i := fun fd hfd => allKnown_info hE fs'.toList hall fd (by simpa using hfd)
          have hpl := build_places (P := P) w hinfo
          obtain ⟨vs, g1, g2, g3⟩ := fill_sound hE hT t fs' (fs'.map fun f => (f.offset, P.cellsOf f.type)) hk hu (fun j fd hj => by simp [hj]) parts.toList _ _ cs
            (fun p hp => ht p.2 (by simp; exact ⟨p.1, by simpa using hp⟩)) (den_ofC_list I η w zv.cells.toList) hz1 hf
          refine ⟨.agg vs.toArray, ?_, vs, rfl, g3, g2⟩
          simp only [execOp, hop, Instr.build, zeroValue, typeInfo, Sem.run_bind, run_program, Result.andThen_ok, hi, Sem.run_pure, hzv, run_underlying hu, hpl, Array.toList_map, Array.toArray_toList] at g1 ⊢
          simp only [g1]
          simp
        · trivial
      · trivial
    · trivial
  · rename_i b args argTypes
    obtain ⟨l⟩ := args
    have hx := evs_den hT l (fun x hx => ht x (by simpa using hx))
    have hb := fun consts => builtinV_sound (P := P) hE b o.type consts hx (ts := argTypes.toList)
    have e1 : execOp a.eval o = builtin b argTypes o.type (Array.map (fun | Operand.const _ => true | _ => false) ⟨l⟩) (Array.map a.eval ⟨l⟩) := by
      simp only [execOp, hop, resolve]
      rfl
    rw [e1]
    have := hb (Array.map (fun | Operand.const _ => true | _ => false) ⟨l⟩)
    simpa using this
  · rename_i t x i c
    have := (lookupV_sound hE hS t (ev_den hT (ht x (by simp))) (ev_den hT (ht i (by simp))) c).op
    simpa [execOp, hop] using this
  · rename_i x
    have := (entryV_sound (P := P) hS (ev_den hT (ht x (by simp)))).op
    simpa [execOp, hop] using this
  · trivial
end Go.Sx
