/- Own work: a text of the proof of a law (SxOps3). -/
import Derived.Test.YtghddmaihcjmlaaSxOps2
import Derived.Laws.Append
namespace Go.Sx
open Go
variable {P : Program} {E : Env}

theorem unV_sound {I : Nat → Prop} {η : Eta} {w : World} (op : UnOp) {a : V} {x : Value} (ha : Den I η w a x) : (unV op a).sound P I η w (Op.unary op x) := by
  unfold unV
  split
  · rename_i k n
    have hx : x = .int k n := ha
    subst hx
    intro h
    exact ⟨.int k (-n), by simp [Op.unary, Op.intArith, wrap_in k _ h], rfl⟩
  · rename_i p d
    have hx : x = .bool (@decide p d) := ha
    subst hx
    exact ⟨.bool (!@decide p d), by simp [Op.unary], by simp only [Den]; congr 1; by_cases hp : p <;> simp [hp]⟩
  · have hx : x = .bool true := ha
    subst hx
    exact ⟨.bool false, by simp [Op.unary], rfl⟩
  · have hx : x = .bool false := ha
    subst hx
    exact ⟨.bool true, by simp [Op.unary], rfl⟩
  · trivial

theorem pickV_sound {I : Nat → Prop} {η : Eta} {w : World} {c a b : V} {xc xa xb : Value} (hc : Den I η w c xc) (ha : Den I η w a xa) (hb : Den I η w b xb) :
    (pickV c a b).sound P I η w (do pure (if ← asBool xc then xa else xb)) := by
  have bt : ∀ (t : Bool), (do pure (if ← asBool (.bool t) then xa else xb) : Sem Value).run P w = .ok (if t then xa else xb) w := by
    intro t; simp [asBool]
  unfold pickV
  split
  · have : xc = .bool true := hc
    subst this
    split
    · trivial
    · exact ⟨xa, by simpa using bt true, ha⟩
  · have : xc = .bool false := hc
    subst this
    split
    · trivial
    · exact ⟨xb, by simpa using bt false, hb⟩
  · rename_i p d
    have : xc = .bool (@decide p d) := hc
    subst this
    split
    · rename_i q r dr
      intro hpq
      refine ⟨_, bt _, ?_⟩
      have hb' : xb = .bool false := hb
      subst hb'
      by_cases hp : p
      · have h1 := ha.1 (hpq hp)
        simp only [Den] at h1 ⊢
        simp [hp, h1]
      · simp [Den, hp]
    · rename_i q
      intro hpq
      refine ⟨_, bt _, ?_⟩
      have hb' : xb = .bool false := hb
      subst hb'
      by_cases hp : p
      · have h1 := ha.1 (hpq hp)
        simp only [Den] at h1 ⊢
        simp [hp, h1]
      · simp [Den, hp]
    · rename_i q
      intro hpq
      refine ⟨_, bt _, ?_⟩
      have hb' : xb = .bool false := hb
      subst hb'
      by_cases hp : p
      · have h1 := ha.1 (hpq hp)
        simp only [Den] at h1 ⊢
        simp [hp, h1]
      · simp [Den, hp]
    · rename_i r dr
      refine ⟨_, bt _, ?_⟩
      have hb' : xb = .bool false := hb
      have ha' : xa = .bool (@decide r dr) := ha
      subst hb' ha'
      by_cases hp : p <;> simp [Den, hp]
    · rename_i q r dr
      intro hpq
      refine ⟨_, bt _, ?_⟩
      have ha' : xa = .bool true := ha
      subst ha'
      by_cases hp : p
      · simp [Den, hp]
      · have h1 := hb.1 (hpq hp)
        simp only [Den] at h1 ⊢
        simp [hp, h1]
    · rename_i q
      intro hpq
      refine ⟨_, bt _, ?_⟩
      have ha' : xa = .bool true := ha
      subst ha'
      by_cases hp : p
      · simp [Den, hp]
      · have h1 := hb.1 (hpq hp)
        simp only [Den] at h1 ⊢
        simp [hp, h1]
    · rename_i q
      intro hpq
      refine ⟨_, bt _, ?_⟩
      have ha' : xa = .bool true := ha
      subst ha'
      by_cases hp : p
      · simp [Den, hp]
      · have h1 := hb.1 (hpq hp)
        simp only [Den] at h1 ⊢
        simp [hp, h1]
    · rename_i r dr
      refine ⟨_, bt _, ?_⟩
      have ha' : xa = .bool true := ha
      have hb' : xb = .bool (@decide r dr) := hb
      subst hb' ha'
      by_cases hp : p <;> simp [Den, hp]
    · trivial
  · trivial

theorem PR.sound_need {I : Nat → Prop} {η : Eta} {w : World} {s : Sem Value} {v : V} {c : Prop} (h : c → Runs P I η w s v) : (PR.need c v).sound P I η w s := h

theorem get_live {H : List O} {id : Nat} {o : O} (h : get .gone H id = o) (ho : o.live) : H[id]? = some o := by
  rw [get_eq] at h
  cases hi : H[id]? with
  | none => rw [hi] at h; simp at h; subst h; cases ho
  | some x => rw [hi] at h; simp at h; subst h; rfl

theorem ownsRow_cell {w : World} {base : Nat} {e : TypeId} {sz n b cap : Nat} {xs : List Value} (h : w.ownsRow base e sz (.slice (some ⟨b, 0, none⟩) n cap) n xs) (j : Nat) (u : Value) (hj : xs[j]? = some u) :
    w.cell? ⟨b, j, none⟩ = some u := by
  have := h.cells (g := b) rfl j u hj
  rw [Addr.add_none] at this
  simpa using this

theorem loadV_sound (hE : EnvOk E P) {I : Nat → Prop} {η : Eta} {w : World} {H : List O} (hS : Objs I η w H) (t : TypeId) {a : V} {x : Value} (ha : Den I η w a x) :
    (loadV E H t a).sound P I η w (Instr.loadAt t x) := by
  unfold loadV
  split
  · rename_i id off
    obtain ⟨b, c, hη, rfl⟩ := ha
    split
    · rename_i ty vs hg
      have hH := get_live hg trivial
      obtain ⟨b', c', heq, xs, hb, h1, hd⟩ := hS id _ _ hη hH
      cases heq
      refine load_cells hE t b off _ (xs.drop off) ?_ (fun u hu => h1 u (List.mem_of_mem_drop hu)) (by rw [drop_eq]; exact hd.drop off)
      intro j u hj
      rw [List.getElem?_drop] at hj
      simp [World.cell?, hb, hj]
    · trivial
  · rename_i id sz i off
    obtain ⟨b, c, hη, rfl⟩ := ha
    split
    · rename_i ty sz' n f nz hg
      have hH := get_live hg trivial
      obtain ⟨xs, hown, h1, _, hd⟩ := hS id _ _ hη hH
      split
      · rename_i v hm hsz
        obtain rfl := beq_true hsz
        refine PR.sound_need fun hi => ?_
        have hv : slVal (some b, c) n = .slice (some ⟨b, 0, none⟩) n c := rfl
        rw [hv] at hown
        have hrow := hd i hi
        have hxl := hown.1
        have := load_cells hE (I := I) (η := η) (w := w) t b (i * sz + off) (drop off (f i)) (((xs.drop (i * sz)).take sz).drop off) (by
          intro j u hj
          rw [List.getElem?_drop, List.getElem?_take] at hj
          split at hj
          · rw [List.getElem?_drop] at hj
            have := ownsRow_cell hown _ u hj
            rw [show i * sz + (off + j) = i * sz + off + j by omega] at this
            exact this
          · cases hj) (fun u hu => h1 u (List.mem_of_mem_drop (List.mem_of_mem_take (List.mem_of_mem_drop hu)))) (by rw [drop_eq]; exact (DenL.mono (Mono.ofNil I η w) _ _ hrow).drop off)
        rw [hm] at this
        exact this
      · trivial
    · trivial
  · rename_i cs
    obtain ⟨b, o, vs, rfl, _, hc, h1, hd⟩ := ha
    exact load_cells hE t b o cs vs hc h1 (DenL.mono (Mono.ofNil I η w) _ _ hd)
  · trivial

theorem fieldOf_spec (hE : EnvOk E P) {s : TypeId} {f o n : Nat} {t : TypeId} (hk : (E.ti s).known = true) (h : fieldOf E s f = some (o, n, t)) :
    ∃ fs fd, P.underlying s = some (.struct fs) ∧ fs[f]? = some fd ∧ fd.offset = o ∧ P.cellsOf fd.type = n ∧ n ≠ 0 ∧ fd.type = t := by
  obtain ⟨i, d, hi, hu, _, _, hkind, _, _⟩ := hE.info hk
  unfold fieldOf at h
  rw [hkind] at h
  have hst : ∃ fs, d = .struct fs := by
    revert h
    cases d <;> simp [kindOf]
  obtain ⟨fs, rfl⟩ := hst
  simp only [kindOf] at h
  refine ⟨fs, ?_⟩
  rw [get_eq, List.getElem?_map, Array.getElem?_toList] at h
  cases hf : fs[f]? with
  | none => simp [hf] at h
  | some fd =>
    refine ⟨fd, hu, rfl, ?_⟩
    simp only [hf, Option.map_some, Option.getD_some] at h
    split at h
    · cases h
    · rename_i o' n' t' heq
      simp only [Option.some.injEq, Prod.mk.injEq] at h heq
      obtain ⟨h1, h2, h3⟩ := h
      obtain ⟨g1, g2, g3⟩ := heq
      exact ⟨g1.trans h1, g2.trans h2, by omega, g3.trans h3⟩

theorem cellsOf_info {t : TypeId} (h : P.cellsOf t ≠ 0) : ∃ i, P.info? t = some i ∧ i.size = P.cellsOf t := by
  unfold Program.cellsOf at h ⊢
  cases hi : P.info? t with
  | none => simp [hi] at h
  | some i => exact ⟨i, rfl, by simp⟩

theorem fieldAddrV_sound (hE : EnvOk E P) {I : Nat → Prop} {η : Eta} {w : World} (s : TypeId) (f : Nat) {a : V} {x : Value} (ha : Den I η w a x) :
    (fieldAddrV E s f a).sound P I η w (Instr.fieldAt s x f) := by
  unfold fieldAddrV
  split
  · rename_i o n t hk hf
    obtain ⟨fs, fd, hu, hfs, ho, hn, hn0, _⟩ := fieldOf_spec hE hk hf
    obtain ⟨i, hi, his⟩ := cellsOf_info (P := P) (t := fd.type) (by omega)
    have hrun : ∀ b off, (Instr.fieldAt s (.pointer (some ⟨b, off, none⟩)) f).run P w = .ok (.pointer (some ⟨b, off + o, none⟩)) w := by
      intro b off
      have h0 : ¬ i.size = 0 := by omega
      simp [Instr.fieldAt, run_underlying hu, hfs, Instr.sureAddr, fieldPlace, sizeOf, typeInfo, hi, h0, Addr.add_none, ho]
    split
    · rename_i id off
      obtain ⟨b, c, hη, rfl⟩ := ha
      exact ⟨_, hrun b off, b, c, hη, rfl⟩
    · rename_i id sz i off
      obtain ⟨b, c, hη, rfl⟩ := ha
      exact ⟨_, hrun b _, b, c, hη, by rw [Nat.add_assoc]⟩
    · rename_i cs
      obtain ⟨b, off, vs, rfl, hI, hc, h1, hd⟩ := ha
      refine ⟨_, hrun b off, b, off + o, vs.drop o, rfl, hI, fun j u hj => ?_, fun u hu => h1 u (List.mem_of_mem_drop hu), by rw [drop_eq]; exact hd.drop o⟩
      rw [List.getElem?_drop] at hj
      rw [Nat.add_assoc]
      exact hc _ _ hj
    · trivial
  · trivial

theorem fieldV_sound (hE : EnvOk E P) {I : Nat → Prop} {η : Eta} {w : World} (s : TypeId) (f : Nat) {a : V} {x : Value} (ha : Den I η w a x) :
    (fieldV E s f a).sound P I η w (Instr.field s x f) := by
  unfold fieldV
  split
  · rename_i o n t cs hk hf
    obtain ⟨fs, fd, hu, hfs, ho, hn, hn0, rfl⟩ := fieldOf_spec hE hk hf
    obtain ⟨vs, rfl, h1, hd⟩ := ha
    split
    · rename_i hkt hagg
      obtain ⟨i, d, hi, hut, hs, _, hkind, _, _⟩ := hE.info hkt
      have hag := run_isAgg hut w
      rw [← agg_kind P d _ hkind, hagg] at hag
      have hsz : i.size = n := by rw [← hn]; simp [Program.cellsOf, hi]
      simp only [cond_eq_ite]
      split
      · refine ⟨.agg ((vs.drop o).take n).toArray, ?_, _, rfl, fun u hu => h1 u (List.mem_of_mem_drop (List.mem_of_mem_take hu)), by rw [take_eq, drop_eq]; exact (hd.drop o).take n⟩
        simp [Instr.field, run_underlying hu, hfs, asAgg, part, hag, sizeOf, typeInfo, hi, hsz, ho]
      · trivial
    · rename_i hkt hagg
      obtain ⟨i, d, hi, hut, hs, _, hkind, _, _⟩ := hE.info hkt
      have hag := run_isAgg hut w
      rw [← agg_kind P d _ hkind, hagg] at hag
      split
      · rename_i c rest hc
        have hd' := hd.drop o
        rw [drop_eq] at hc
        rw [hc] at hd'
        obtain ⟨v, r, e1, hv, _⟩ := hd'
        have hz' : vs[o]? = some v := by
          have := congrArg (fun l => l[0]?) e1
          simpa using this
        refine ⟨v, ?_, hv⟩
        simp [Instr.field, run_underlying hu, hfs, asAgg, part, hag, ho, hz']
      · trivial
    · trivial
  · trivial

theorem elemOf_spec (hE : EnvOk E P) {t e : TypeId} (h : elemOf E t = some e) : P.underlying t = some (.slice e) ∧ ∃ i, P.info? e = some i ∧ i.size = (E.ti e).size ∧ i.bytes = (E.ti e).bytes ∧ (E.ti e).known = true ∧ (E.ti e).zero = zeroOf (E.ti e).agg i := by
  unfold elemOf at h
  split at h
  · rename_i e' hk hkind
    obtain ⟨i, d, hi, hu, _, _, hkind', _, _⟩ := hE.info hk
    rw [hkind'] at hkind
    split at h
    · rename_i hke
      cases h
      obtain ⟨i', d', hi', _, hs', hb', _, hz', _⟩ := hE.info hke
      cases d <;> simp [kindOf] at hkind
      subst hkind
      exact ⟨hu, i', hi', hs'.symm, hb'.symm, hke, hz'⟩
    · cases h
  · cases h

theorem indexAddrV_sound (hE : EnvOk E P) {I : Nat → Prop} {η : Eta} {w : World} (t : TypeId) {a ix : V} {x y : Value} (ha : Den I η w a x) (hi : Den I η w ix y) :
    (indexAddrV E t a ix).sound P I η w (Instr.indexAt t x y) := by
  unfold indexAddrV
  split
  · rename_i e he
    obtain ⟨hu, i, hinfo, hs, _, _, _⟩ := elemOf_spec hE he
    have hrun : ∀ (k : IntKind) (m : Int) (b o n cap : Nat), 0 ≤ m ∧ m < n → (Instr.indexAt t (.slice (some ⟨b, o, none⟩) n cap) (.int k m)).run P w = .ok (.pointer (some ⟨b, o + m.toNat * (E.ti e).size, none⟩)) w := by
      intro k m b o n cap hm
      simp [Instr.indexAt, asIntOf, run_underlying hu, hm, sizeOf, typeInfo, hinfo, hs, Addr.add_none]
    split
    · rename_i sz n f k m
      have hy : y = .int k m := hi
      subst hy
      simp only [cond_eq_ite]
      split
      · rename_i hsz
        have hsz := beq_true hsz
        refine PR.sound_need fun hm => ?_
        have hnn : m.toNat < n := by omega
        rcases ha with ⟨h0, _⟩ | ⟨b, o, cap, rfl, hI, hc⟩
        · omega
        · obtain ⟨vs, hl, h2, h3, h4⟩ := hc m.toNat hnn
          refine ⟨_, hrun k m b o n cap hm, b, _, vs, rfl, hI, fun j u hj => ?_, h3, h4⟩
          rw [hsz, Nat.add_assoc]
          exact h2 j u hj
      · trivial
    · rename_i id n k m
      have hy : y = .int k m := hi
      subst hy
      refine PR.sound_need fun hm => ?_
      obtain ⟨ee, hη, hnz, rfl⟩ := ha
      obtain ⟨bb, cap⟩ := ee
      cases bb with
      | none =>
        have := hnz rfl
        omega
      | some b => exact ⟨_, hrun k m b 0 n cap hm, b, cap, hη, by simp⟩
    · trivial
  · trivial
end Go.Sx
