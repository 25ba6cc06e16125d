/- Own work: a text of the proof of a law (SxOps2). -/
import Derived.Test.YtghddmaihcjmlaaSxOps
namespace Go.Sx
open Go
variable {P : Program} {E : Env}

theorem beq_true {a b : Nat} (h : Nat.beq a b = true) : a = b := Nat.eq_of_beq_eq_true h

/-! equality of structs of integers -/
theorem eqFields_ints (hE : EnvOk E P) (w : World) (D : Nat) {I : Nat → Prop} {η : Eta} : ∀ (fs : List Field) (n : Nat) (l m : List V) (xs ys : List Value) (p : Prop) (d : Decidable p),
    fs.all (fun f => f.name != "_") = true → intFieldsL E n (fs.map fun f => (f.offset, P.cellsOf f.type, f.type)) = true → fs.length = l.length →
    eqCells l m = some ⟨p, d⟩ → DenL I η w l (xs.drop n) → DenL I η w m (ys.drop n) →
    (Op.eqFields (D + 1) xs.toArray ys.toArray fs).run P w = .ok (@decide p d) w
  | [], n, l, m, xs, ys, p, d, _, _, hl, he, _, _ => by
    have : l = [] := List.eq_nil_of_length_eq_zero (by simpa using hl.symm)
    subst this
    simp [eqCells] at he
  | f :: fs, n, l, m, xs, ys, p, d, hn, hi, hl, he, hx, hy => by
    simp only [List.all_cons, Bool.and_eq_true, List.map_cons, intFieldsL] at hn hi
    obtain ⟨⟨⟨ho, hk⟩, hint⟩, hrest⟩ := hi
    obtain rfl := beq_true ho
    obtain ⟨i, dd, hinfo, hu, hs, _, hkind, _, _⟩ := hE.info hk
    have hdd : ∃ q, dd = .int q := by
      rw [hkind] at hint
      cases dd <;> simp [kindOf, TK.isInt] at hint
      exact ⟨_, rfl⟩
    obtain ⟨q, rfl⟩ := hdd
    have hname : f.name ≠ "_" := by simpa using hn.1
    have hpart : ∀ (zs : List Value) (v : Value) (r : List Value), zs.drop f.offset = v :: r → (part f.type zs.toArray f.offset).run P w = .ok v w := by
      intro zs v r hz
      have hz' : zs[f.offset]? = some v := by
        have := congrArg (fun l => l[0]?) hz
        simpa using this
      simp [part, isAgg, run_underlying hu, hz']
    have key : ∀ (k : IntKind) (a b : Int) (l' m' : List V), DenL I η w (.int k a :: l') (xs.drop f.offset) → DenL I η w (.int k b :: m') (ys.drop f.offset) →
        (Op.eqFields (D + 1) xs.toArray ys.toArray (f :: fs)).run P w = (if a = b then (Op.eqFields (D + 1) xs.toArray ys.toArray fs).run P w else .ok false w) ∧
        DenL I η w l' (xs.drop (f.offset + 1)) ∧ DenL I η w m' (ys.drop (f.offset + 1)) := by
      intro k a b l' m' h1 h2
      obtain ⟨v1, r1, e1, hv1, hr1⟩ := h1
      obtain ⟨v2, r2, e2, hv2, hr2⟩ := h2
      have hv1' : v1 = .int k a := hv1
      have hv2' : v2 = .int k b := hv2
      subst hv1' hv2'
      refine ⟨?_, ?_, ?_⟩
      · have h1 := hpart xs _ _ e1
        have h2 := hpart ys _ _ e2
        have h3 := run_equalIn_int (P := P) w D f.type k q a b hu
        simp only [Op.eqFields, hname, ne_eq, not_false_eq_true, if_true, Sem.run_bind, h1, h2, Result.andThen_ok, h3, Sem.run_ite, Sem.run_pure]
        by_cases hab : a = b
        · subst hab; simp
        · simp [hab]
      · have := congrArg List.tail e1
        rw [List.tail_drop] at this
        rw [this]; exact hr1
      · have := congrArg List.tail e2
        rw [List.tail_drop] at this
        rw [this]; exact hr2
    unfold eqCells at he
    split at he
    · rename_i k a k' b
      split at he
      · rename_i hk'
        subst hk'
        cases he
        obtain ⟨e1, _, _⟩ := key k a b [] [] hx hy
        have hfs : fs = [] := List.eq_nil_of_length_eq_zero (by simpa using hl)
        subst hfs
        rw [e1]
        by_cases hab : a = b <;> simp [hab, Op.eqFields]
      · cases he
    · rename_i k a l' k' b m' hne
      split at he
      · rename_i hk'
        subst hk'
        split at he
        · rename_i p' d' he'
          cases he
          obtain ⟨e1, h1, h2⟩ := key k a b l' m' hx hy
          rw [e1]
          have ih := eqFields_ints hE w D fs (f.offset + 1) l' m' xs ys p' d' hn.2 hrest (by simpa using hl) he' h1 h2
          by_cases hab : a = b
          · simp [hab, ih]
          · simp [hab]
        · cases he
      · cases he
    · cases he

theorem binV_sound (hE : EnvOk E P) {I : Nat → Prop} {η : Eta} {w : World} (op : BinOp) (t : TypeId) (ox oy : Operand) {a b : V} {x y : Value} (ha : Den I η w a x) (hb : Den I η w b y) :
    (binV E op t a b).sound P I η w (do eqGuard op t ox oy x y; binOp op t x y) := by
  unfold binV
  split
  · rename_i k m k' n
    split
    · rename_i hk
      subst hk
      have hx : x = .int k m := ha
      have hy : y = .int k n := hb
      subst hx hy
      have h := binInt_sound (P := P) I η w op t k m n
      unfold PR.sound at h ⊢
      split
      · trivial
      · rename_i v hv
        rw [hv] at h
        obtain ⟨z, h1, h2⟩ := h
        exact ⟨z, by simp [eqGuard_at_int, h1], h2⟩
      · rename_i c v hv
        rw [hv] at h
        intro hc
        obtain ⟨z, h1, h2⟩ := h hc
        exact ⟨z, by simp [eqGuard_at_int, h1], h2⟩
    · trivial
  · rename_i l m
    obtain ⟨xs, rfl, _, hl⟩ := ha
    obtain ⟨ys, rfl, _, hm⟩ := hb
    have main : ∀ (p : Prop) (d : Decidable p), intFields E t (len l) = true → eqCells l m = some ⟨p, d⟩ →
        (eqGuard op t ox oy (.agg xs.toArray) (.agg ys.toArray)).run P w = .ok () w ∧ (Op.equalIn 10000 t (.agg xs.toArray) (.agg ys.toArray)).run P w = .ok (@decide p d) w := by
      intro p d hi he
      unfold intFields at hi
      split at hi
      · rename_i fs hk heq hkind
        obtain ⟨i, dd, hinfo, hu, hs, _, hkind', _, heq'⟩ := hE.info hk
        rw [hkind'] at hkind
        have : ∃ fs', dd = .struct fs' := by cases dd <;> simp [kindOf] at hkind <;> exact ⟨_, rfl⟩
        obtain ⟨fs', rfl⟩ := this
        simp only [kindOf, TK.struct.injEq] at hkind
        subst hkind
        rw [heq'] at heq
        simp only [eqOk, Bool.and_eq_true, Bool.not_eq_true'] at heq
        obtain ⟨⟨hnames, hst⟩, hgd⟩ := heq
        simp only [Bool.and_eq_true] at hi
        have hlen := beq_true hi.2
        rw [len_eq, len_eq, List.length_map] at hlen
        refine ⟨run_eqGuard_agg w op t ox oy _ _ hgd, ?_⟩
        have hfo : P.fieldsOf t = fs' := by simp [Program.fieldsOf, hu]
        rw [run_equalIn_struct w 9999 t _ _ (by rw [hfo]; exact hu) hst, hfo]
        exact eqFields_ints hE w 9998 fs'.toList 0 l m xs ys p d (by simpa using hnames) hi.1 hlen he (by simpa using hl) (by simpa using hm)
      · cases hi
    split
    · rename_i p d hi he
      obtain ⟨h1, h2⟩ := main p d hi he
      exact ⟨.bool (@decide p d), by simp [h1, run_eql_struct, h2], rfl⟩
    · rename_i p d hi he
      obtain ⟨h1, h2⟩ := main p d hi he
      exact ⟨.bool (!@decide p d), by simp [h1, run_neq_struct, h2], by simp only [Den]; congr 1; by_cases hp : p <;> simp [hp]⟩
    · trivial
  · split
    · rename_i hk hkind
      obtain ⟨i, dd, hinfo, hu, hs, _, hkind', _, _⟩ := hE.info hk
      rw [hkind'] at hkind
      have : dd = .bool := by cases dd <;> simp [kindOf] at hkind <;> rfl
      subst this
      split
      · rename_i p d q e hp hq
        have hx := asProp_den hp ha
        have hy := asProp_den hq hb
        subst hx hy
        refine ⟨.bool (@decide p d == @decide q e), ?_, ?_⟩
        · simp [eqGuard_at_bool, binOp, equal_bool hu]
        · simp only [Den]; congr 1; by_cases hp : p <;> by_cases hq : q <;> simp [hp, hq]
      · rename_i p d q e hp hq
        have hx := asProp_den hp ha
        have hy := asProp_den hq hb
        subst hx hy
        refine ⟨.bool (!(@decide p d == @decide q e)), ?_, ?_⟩
        · simp [eqGuard_at_bool, binOp, equal_bool hu]
        · simp only [Den]; congr 1; by_cases hp : p <;> by_cases hq : q <;> simp [hp, hq]
      · trivial
    · trivial
end Go.Sx
