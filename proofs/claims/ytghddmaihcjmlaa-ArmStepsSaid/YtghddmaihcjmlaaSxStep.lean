/- Own work: a text of the proof of a law (SxStep). -/
import Derived.Test.YtghddmaihcjmlaaSxHeap
namespace Go.Sx
open Go
variable {P : Program} {E : Env}

mutual
theorem fo_nil {I : Nat → Prop} {η : Eta} {w : World} : ∀ (c : V) (v : Value), c.fo = true → Den I η w c v → Den I [] w c v
  | .int _ _, _, _, h => h
  | .prop _ _, _, _, h => h
  | .kb _, _, _, h => h
  | .ptr _ _, _, f, _ => by cases f
  | .eptr _ _ _ _, _, f, _ => by cases f
  | .iptr _, _, _, h => h
  | .sl _ _ _, _, _, h => h
  | .osl _ _, _, f, _ => by cases f
  | .map _, _, f, _ => by cases f
  | .fn _ a b, _, f, h => by
    simp only [V.fo, Bool.and_eq_true] at f
    obtain ⟨as, bs, h1, h2, h3⟩ := h
    exact ⟨as, bs, h1, fo_nil_list a as f.1 h2, fo_nil_list b bs f.2 h3⟩
  | .agg cs, _, f, h => by obtain ⟨vs, h1, h2, h3⟩ := h; exact ⟨vs, h1, h2, fo_nil_list cs vs f h3⟩
  | .tup cs, _, f, h => by obtain ⟨vs, h1, h2⟩ := h; exact ⟨vs, h1, fo_nil_list cs vs f h2⟩
  | .lit _, _, _, h => h
  | .ite _ u, v, f, h => ⟨fun hp => fo_nil u v f (h.1 hp), h.2⟩
  | .sem _, _, _, h => h
  | .imap _ _ _ _ _ _, _, _, h => h
  | .yld _, _, f, _ => by cases f
  | .any, _, _, _ => trivial
theorem fo_nil_list {I : Nat → Prop} {η : Eta} {w : World} : ∀ (cs : List V) (vs : List Value), foL cs = true → DenL I η w cs vs → DenL I [] w cs vs
  | [], _, _, h => h
  | c :: cs, _, f, h => by
    simp only [foL, Bool.and_eq_true] at f
    obtain ⟨v, r, h1, h2, h3⟩ := h
    exact ⟨v, r, h1, fo_nil c v f.1 h2, fo_nil_list cs r f.2 h3⟩
end

abbrev Rel := (Nat → Prop) → Own → World → (Nat → Prop) → Own → World → Prop

structure RelOk (R : Rel) : Prop where
  step : ∀ {I W w I' W' w'}, Step I W w I' W' w' → R I W w I' W' w'
  le : ∀ {I W w I' W' w'}, R I W w I' W' w' → StepB 0 I W w I' W' w'
  trans : ∀ {I W w I' W' w' I'' W'' w''}, R I W w I' W' w' → R I' W' w' I'' W'' w'' → R I W w I'' W'' w''

theorem relOk_step (B : Nat) : RelOk (StepB B) := ⟨fun h => h.toB, fun h => ⟨h.os, h.tape, h.output, h.size, h.block, h.imono, h.inew, h.wnew, fun _ _ h0 => (Nat.not_lt_zero _ h0).elim⟩, fun h k => h.trans k⟩

/-- the fence in which everything is let by; in a round of a loop over a function, or not -/
def Fw (r : Option Nat) : Fence := { fn := fun _ => True, depth := none, alive := false, round := r }

/-- a function with a body, and none of the runtime's own -/
def Plain (P : Program) (g : FuncId) : Prop := ∃ fn, P.funcs[g]? = some fn ∧ (fn.name == "runtime.NumGoroutine") = false ∧ fn.body.isNone = false

/-- what is asked of a call -/
@[irreducible] def Callee (P : Program) (g : FuncId) (args : List V) (H : List O) (K : V → List O → Prop) : Prop :=
  Plain P g ∧ ∀ I η w vals, Sat I η w H → DenL I η w args vals → Calls P g vals.toArray w fun e w' =>
    ∃ I' η' H' ret v, e = .returned v ∧ K ret H' ∧ Sat I' η' w' H' ∧ Den I' η' w' ret v ∧ Mono I η w I' η' w' ∧ Step I (own η H) w I' (own η' H') w'

/-- what is asked of a round: yield is called -/
@[irreducible] def YCall (P : Program) (id : Nat) (args : List V) (H : List O) (K : V → List O → Prop) : Prop :=
  ∀ I η w vals, Sat I η w H → DenL I η w args vals → ∃ b c fn tmps assign body, η[id]? = some (some b, c) ∧ (invoke (.fn (.yield b) #[]) vals.toArray).run P w = .ok (.round b fn tmps assign body) w ∧
    RoundIn (Fw none) 0 P b fn tmps assign body w fun e w' =>
      ∃ I' η' H' ret v, e = .returned v ∧ K ret H' ∧ Sat I' η' w' H' ∧ Den I' η' w' ret v ∧ Mono I η w I' η' w' ∧ Step I (own η H) w I' (own η' H') w'

/-- what is asked of a call of a value of which something is known -/
@[irreducible] def SCall (P : Program) (D : (Nat → Prop) → World → Value → Prop) (args : List V) (H : List O) (K : V → List O → Prop) : Prop :=
  ∀ I η w f vals, Sat I η w H → Den I η w (.sem D) f → DenL I η w args vals → ∃ g as bs, f = .func (.func g) as bs ∧ Plain P g ∧ Calls P g (as ++ vals.toArray ++ bs) w fun e w' =>
    ∃ I' η' H' ret v, e = .returned v ∧ K ret H' ∧ Sat I' η' w' H' ∧ Den I' η' w' ret v ∧ Mono I η w I' η' w' ∧ Step I (own η H) w I' (own η' H') w'

/-- what holds behind a piece of code -/
def After (R : Rel) (I : Nat → Prop) (W : Own) (w : World) (ds : List Deferred) (K : KT) (a' : Act) (w' : World) : Prop :=
  a'.defers = ds ∧ ∃ I' η' T' H', K T' H' ∧ Good I' η' w' T' H' a' ∧ R I W w I' (own η' H') w'

theorem After.mono {R : Rel} {I : Nat → Prop} {W : Own} {w : World} {ds : List Deferred} {K K' : KT} {a' : Act} {w' : World} (h : After R I W w ds K a' w') (hk : ∀ T H, K T H → K' T H) : After R I W w ds K' a' w' := by
  obtain ⟨h1, I', η', T', H', h2, h3⟩ := h
  exact ⟨h1, I', η', T', H', hk _ _ h2, h3⟩

theorem wpIn_value {r : Option Nat} {n : Nat} {o : Oper} {a : Act} {w w' : World} {v : Value} {next : Act → World → Prop} {Q : Exit → Act → World → Prop} (hd : ∀ c, o.op ≠ .defer c)
    (h : (execOp a.eval o).run P w = .ok (.value v) w') (hn : next (a.put o.dst v) w') : o.wpIn (Fw r) n P a w next Q := by
  refine ⟨fun _ _ => trivial, ?_⟩
  rw [Oper.semAt_eq _ _ _ hd, h]
  exact hn

theorem wpIn_skipped {r : Option Nat} {n : Nat} {o : Oper} {a : Act} {w w' : World} {next : Act → World → Prop} {Q : Exit → Act → World → Prop} (hd : ∀ c, o.op ≠ .defer c)
    (h : (execOp a.eval o).run P w = .ok .skip w') (hn : next (a.put o.dst undef) w') : o.wpIn (Fw r) n P a w next Q := by
  refine ⟨fun _ _ => trivial, ?_⟩
  rw [Oper.semAt_eq _ _ _ hd, h]
  exact hn

section
variable {R : Rel} (hR : RelOk R) (hE : EnvOk E P) {r : Option Nat} {n : Nat} {Q : Exit → Act → World → Prop}
include hR hE

theorem stepPure_sound {T : List V} {H : List O} {o : Oper} {K : KT} {L : Prop} {I : Nat → Prop} {η : Eta} {w : World} {a : Act} (hg : Good I η w T H a) (h : stepPure E T H o K L) (hd : ∀ c, o.op ≠ .defer c) :
    o.wpIn (Fw r) n P a w (After R I (own η H) w a.defers K) Q ∨ L := by
  unfold stepPure at h
  have key : ∀ (v : V), conds T True (condOps o.op) (putK T o.dst v fun T' => K T' H) → ((∀ x ∈ condOps o.op, There T x) → ∃ x, (execOp a.eval o).run P w = .ok (.value x) w ∧ Den I η w v x) →
      o.wpIn (Fw r) n P a w (After R I (own η H) w a.defers K) Q := by
    intro v hc hx
    obtain ⟨h1, h2⟩ := conds_true trivial hc
    obtain ⟨x, e1, e2⟩ := hx h1
    rw [putK_eq] at h2
    exact wpIn_value hd e1 ⟨Act.put_defers' _ _ _, I, η, _, H, h2, ⟨hg.sat, hg.tmp.put e2⟩, hR.step (Step.refl _ _ _)⟩
  split at h
  · exact .inr h
  · rename_i v hp
    left
    refine key v h (fun ht => ?_)
    have := pureOp_sound hE hg.sat.obj hg.tmp o ht
    rw [hp] at this
    exact this
  · rename_i c v hp
    left
    refine key v h.2 (fun ht => ?_)
    have := pureOp_sound hE hg.sat.obj hg.tmp o ht
    rw [hp] at this
    exact this h.1

theorem heapOp_sound {T : List V} {H : List O} {o : Oper} {K : KT} {I : Nat → Prop} {η : Eta} {w : World} {a : Act} (hg : Good I η w T H a) (h : heapOp E T H o K) (ht : ∀ x ∈ o.op.operands.toList, There T x) :
    o.wpIn (Fw r) n P a w (After R I (own η H) w a.defers K) Q := by
  have hd : ∀ c, o.op ≠ .defer c := by
    intro c hc
    unfold heapOp at h
    rw [hc] at h
    exact h
  have pushed : ∀ (t : TypeId) (zs : List V) (vs : List Value), (execOp a.eval o).run P w = .ok (.value (.pointer (some ⟨w.heap.size, 0, none⟩))) (w.alloc (.cells vs.toArray t)) → DenL I η w zs vs → (∀ u ∈ vs, u.oneCell' = true) →
      (lenK H fun n => forceL zs fun z => pushK H (.cells t z) fun H' => putK T o.dst (.ptr n 0) fun T' => K T' H') → o.wpIn (Fw r) n P a w (After R I (own η H) w a.defers K) Q := by
    intro t zs vs hrun hden h1 hk
    rw [lenK_eq, forceL_eq, pushK_eq, putK_eq] at hk
    have hso : SatO I (η ++ [(some w.heap.size, 0)]) (w.alloc (.cells vs.toArray t)) (some w.heap.size, 0) (.cells t zs) := by
      have hbb : (w.alloc (.cells vs.toArray t)).heap[w.heap.size]? = some (.cells vs.toArray t (0, 0)) := by rw [World.alloc_heap]; simp
      refine ⟨_, _, rfl, vs, hbb, h1, DenL.mono ?_ _ _ hden⟩
      exact ⟨fun id e he _ => by rw [List.getElem?_append_left (List.getElem?_eq_some_iff.1 he).1]; exact he, fun _ hb => hb, fun b hb => by
        have := hg.sat.ilt b hb
        rw [World.alloc_heap, Array.getElem?_push]
        have : b ≠ w.heap.size := by omega
        simp [this]⟩
    obtain ⟨s1, s2, s3⟩ := hg.sat.push (.cells vs.toArray t) (.cells t zs) 0 hso
    refine wpIn_value hd hrun ⟨Act.put_defers' _ _ _, I, _, _, _, hk, ⟨s1, ?_⟩, hR.step s3⟩
    refine (hg.tmp.mono s2).put ?_
    refine ⟨w.heap.size, 0, ?_, rfl⟩
    rw [← hg.sat.len]
    simp
  unfold heapOp at h
  split at h
  · rename_i t hop
    split at h
    · rename_i z hk hz
      obtain ⟨i, d, hi, hu, hs, _, _, hz', _⟩ := hE.info hk
      rw [hz'] at hz
      obtain ⟨zv, hzv, rfl, hz1, _⟩ := zeroOf_spec hz
      refine pushed t _ zv.cells.toList ?_ (den_ofC_list I η w _) hz1 h
      simp [execOp, hop, Instr.alloc, zeroValue, typeInfo, hi, hzv, newVar, newRow, newObj, Sem.run]
    · exact h.elim
  · rename_i t x hop
    split at h
    · rename_i z hz
      have hx := ev_den hg.tmp (ht x (by simp [hop, Op.operands]))
      obtain ⟨vs, g1, g2, g3⟩ := cells?_den hz hx
      refine pushed t _ vs ?_ g3 g2 h
      simp [execOp, hop, Instr.box, newVar, newRow, newObj, g1, Sem.run]
    · exact h.elim
  · rename_i t x y hop
    have hx := ev_den hg.tmp (ht x (by simp [hop, Op.operands]))
    have hy := ev_den hg.tmp (ht y (by simp [hop, Op.operands]))
    split at h
    · rename_i id off z hk hxa hz
      rw [hxa] at hx
      obtain ⟨b, c, hη, hxe⟩ := hx
      obtain ⟨vs, g1, g2, g3⟩ := cells?_den hz hy
      obtain ⟨i, d, hi, hu, hs, _, _, _, _⟩ := hE.info hk
      split at h
      · rename_i ty cs hgt
        simp only [cond_eq_ite, Bool.and_eq_true] at h
        split at h
        · rename_i hc
          rw [len_eq, len_eq] at hc
          have hc1 := beq_true hc.1
          have hc2 := Nat.le_of_ble_eq_true hc.2
          have hH := get_live hgt trivial
          obtain ⟨b', c', heq, xs, hb, h1, hden⟩ := hg.sat.obj id _ _ hη hH
          cases heq
          have hl1 := g3.length
          have hl2 := hden.length
          have hst := run_storeCells_at P b off ty vs 0 xs.toArray w hb (by simp; omega) g2
          simp only [Nat.add_zero] at hst
          rw [forceL_eq, setK_eq, set_eq, putK_eq] at h
          obtain ⟨s1, s2, s3⟩ := hg.sat.write (o' := .cells ty (splice cs off z)) hη hH trivial trivial (xs.take off ++ vs ++ xs.drop (off + vs.length)).toArray (by
            rintro w' rfl m
            refine ⟨b, c, rfl, _, setRow_heap w b _ _ ty _ hb, ?_, DenL.splice off (DenL.mono m _ _ hden) (DenL.mono m _ _ g3) (by omega)⟩
            intro u hu
            simp only [List.mem_append] at hu
            rcases hu with (hu | hu) | hu
            · exact h1 u (List.mem_of_mem_take hu)
            · exact g2 u hu
            · exact h1 u (List.mem_of_mem_drop hu))
          refine wpIn_skipped hd (w' := w.setRow b (xs.take off ++ vs ++ xs.drop (off + vs.length)).toArray) ?_ ⟨Act.put_defers' _ _ _, I, η, _, _, h, ⟨s1, (hg.tmp.mono s2).put trivial⟩, hR.step s3⟩
          have e1 : vs.length = i.size := by omega
          have e2 : (a.eval y).cells.size = i.size := by rw [g1]; simpa using e1
          simp [execOp, hop, hxe, Instr.storeAt, Instr.sureAddr, storeVar, sizeOf, typeInfo, hi, e2, g1]
          rw [hst]
          simp
          exact e1
        · exact h.elim
      · exact h.elim
    · rename_i id sz ix off z hk hxa hz
      rw [hxa] at hx
      obtain ⟨b, c, hη, hxe⟩ := hx
      obtain ⟨vs, g1, g2, g3⟩ := cells?_den hz hy
      obtain ⟨i, d, hi, hu, hs, _, _, _, _⟩ := hE.info hk
      split at h
      · rename_i ty sz' n' f nz hgt
        simp only [cond_eq_ite, Bool.and_eq_true] at h
        split at h
        · rename_i hc
          rw [len_eq] at hc
          obtain ⟨⟨⟨hc1, hc2⟩, hc3⟩, hfo⟩ := hc
          have g3n := fo_nil_list z vs hfo g3
          have hc1 := beq_true hc1
          have hc2 := Nat.le_of_ble_eq_true hc2
          obtain rfl := beq_true hc3
          obtain ⟨hin, h⟩ := h
          have hH := get_live hgt trivial
          obtain ⟨xs, hown, h1, hnil, hden⟩ := hg.sat.obj id _ _ hη hH
          have hsv : slVal (some b, c) n' = .slice (some ⟨b, 0, none⟩) n' c := rfl
          rw [hsv] at hown
          obtain ⟨hxl, hown2⟩ := hown
          rcases hown2 with ⟨hbad, _⟩ | ⟨g, cap, cur, hge, _, hheap, hnc, hcm, hcs, htake⟩
          · cases hbad
          · cases hge
            have hl1 := g3.length
            have hfit : ix * sz + off + vs.length ≤ n' * sz := by
              have : (ix + 1) * sz ≤ n' * sz := Nat.mul_le_mul_right _ hin
              rw [Nat.add_mul] at this
              omega
            have hcap : n' * sz ≤ c * sz := Nat.mul_le_mul_right _ hnc
            have hst := run_storeCells_at P b (ix * sz + off) ty vs 0 cur w hheap (by omega) g2
            simp only [Nat.add_zero] at hst
            rw [forceL_eq, setK_eq, set_eq, putK_eq] at h
            have hxs : xs = cur.toList.take (n' * sz) := htake.symm
            have hxl' : xs.length = n' * sz := hxl
            obtain ⟨s1, s2, s3⟩ := hg.sat.write (o' := .row ty sz n' (fun j => if j = ix then splice (f ix) off z else f j) nz) hη hH trivial trivial
              (cur.toList.take (ix * sz + off) ++ vs ++ cur.toList.drop (ix * sz + off + vs.length)).toArray (by
              rintro w' rfl m
              have hnew : (cur.toList.take (ix * sz + off) ++ vs ++ cur.toList.drop (ix * sz + off + vs.length)).take (n' * sz) = xs.take (ix * sz + off) ++ vs ++ xs.drop (ix * sz + off + vs.length) := by
                rw [hxs]
                apply List.ext_getElem?
                intro j
                simp only [List.getElem?_take, List.getElem?_append, List.length_append, List.length_take, List.getElem?_drop, Array.length_toList]
                have hcl : cur.size = c * sz := hcs
                by_cases c1 : j < n' * sz
                · rw [if_pos c1]
                  have e1 : min (ix * sz + off) cur.size = ix * sz + off := by omega
                  have e2 : min (ix * sz + off) (min (n' * sz) cur.size) = ix * sz + off := by omega
                  simp only [e1, e2]
                  by_cases c2 : j < ix * sz + off + vs.length
                  · simp only [c2, if_true]
                    by_cases c3 : j < ix * sz + off
                    · simp [c3]
                      omega
                    · simp [c3]
                  · simp only [c2, if_false]
                    rw [if_pos (by omega)]
                · rw [if_neg c1]
                  have e2 : min (ix * sz + off) (min (n' * sz) cur.size) = ix * sz + off := by omega
                  simp only [e2]
                  rw [if_neg (by omega), if_neg (by omega)]
              refine ⟨xs.take (ix * sz + off) ++ vs ++ xs.drop (ix * sz + off + vs.length), ⟨?_, .inr ⟨b, c, _, rfl, Nat.zero_le _, setRow_heap w b _ _ ty _ hheap, hnc, hcm, ?_, ?_⟩⟩, ?_, hnil, ?_⟩
              · simp only [List.length_append, List.length_take, List.length_drop, hxl']; omega
              · simp only [List.size_toArray, List.length_append, List.length_take, List.length_drop, Array.length_toList]; omega
              · simpa using hnew
              · intro u hu
                simp only [List.mem_append] at hu
                rcases hu with (hu | hu) | hu
                · exact h1 u (List.mem_of_mem_take hu)
                · exact g2 u hu
                · exact h1 u (List.mem_of_mem_drop hu)
              · intro j hj
                have hdj := DenL.mono m.nil _ _ (hden j hj)
                by_cases hji : j = ix
                · subst hji
                  simp only [if_true]
                  have hsp := DenL.splice (I := I) (η := []) off hdj (DenL.mono m.nil _ _ g3n) (by
                    have := hdj.length
                    simp only [List.length_take, List.length_drop, hxl'] at this
                    have : (j + 1) * sz ≤ n' * sz := Nat.mul_le_mul_right _ hin
                    rw [Nat.add_mul] at this
                    omega)
                  refine Eq.mp ?_ hsp
                  congr 1
                  apply List.ext_getElem?
                  intro k
                  simp only [List.getElem?_take, List.getElem?_append, List.length_append, List.length_take, List.getElem?_drop, List.length_drop, hxl']
                  have hle : (j + 1) * sz ≤ n' * sz := Nat.mul_le_mul_right _ hin
                  rw [Nat.add_mul] at hle
                  have e1 : min off (min sz (n' * sz - j * sz)) = off := by omega
                  have e2 : min (j * sz + off) (n' * sz) = j * sz + off := by omega
                  simp only [e1, e2]
                  by_cases c0 : k < sz
                  · simp only [c0, if_true]
                    by_cases c1 : k < off
                    · have d1 : k < off + vs.length := by omega
                      have d2 : j * sz + k < j * sz + off + vs.length := by omega
                      have d3 : j * sz + k < j * sz + off := by omega
                      simp [c1, c0, d1, d2, d3]
                    · by_cases c2 : k < off + vs.length
                      · have d2 : j * sz + k < j * sz + off + vs.length := by omega
                        have d3 : ¬ j * sz + k < j * sz + off := by omega
                        have d4 : j * sz + k - (j * sz + off) = k - off := by omega
                        simp [c1, c2, d2, d3, d4]
                      · have d2 : ¬ j * sz + k < j * sz + off + vs.length := by omega
                        have d5 : off + vs.length + (k - (off + vs.length)) = k := by omega
                        have d6 : j * sz + off + vs.length + (j * sz + k - (j * sz + off + vs.length)) = j * sz + k := by omega
                        simp [c2, d2, d5, d6, c0]
                  · have c2 : ¬ k < off + vs.length := by omega
                    simp only [c0, c2, if_false]
                    rw [if_neg (by omega)]
                · simp only [hji, if_false]
                  refine Eq.mp ?_ hdj
                  congr 1
                  apply List.ext_getElem?
                  intro k
                  simp only [List.getElem?_take, List.getElem?_append, List.length_append, List.length_take, List.getElem?_drop, hxl']
                  have e2 : min (ix * sz + off) (n' * sz) = ix * sz + off := by omega
                  simp only [e2]
                  by_cases c0 : k < sz
                  · simp only [c0, if_true]
                    rcases Nat.lt_or_gt_of_ne hji with hlt | hgt
                    · have : (j + 1) * sz ≤ ix * sz := Nat.mul_le_mul_right _ hlt
                      rw [Nat.add_mul] at this
                      have d2 : j * sz + k < ix * sz + off + vs.length := by omega
                      have d3 : j * sz + k < ix * sz + off := by omega
                      simp [d2, d3]
                    · have : (ix + 1) * sz ≤ j * sz := Nat.mul_le_mul_right _ hgt
                      rw [Nat.add_mul] at this
                      have d2 : ¬ j * sz + k < ix * sz + off + vs.length := by omega
                      have d6 : ix * sz + off + vs.length + (j * sz + k - (ix * sz + off + vs.length)) = j * sz + k := by omega
                      simp [d2, d6]
                  · simp only [c0, if_false])
            refine wpIn_skipped hd (w' := w.setRow b _) ?_ ⟨Act.put_defers' _ _ _, I, η, _, _, h, ⟨s1, (hg.tmp.mono s2).put trivial⟩, hR.step s3⟩
            have e1 : vs.length = i.size := by omega
            have e2 : (a.eval y).cells.size = i.size := by rw [g1]; simpa using e1
            simp [execOp, hop, hxe, Instr.storeAt, Instr.sureAddr, storeVar, sizeOf, typeInfo, hi, e2, g1]
            rw [hst]
            simp
            exact e1
        · exact h.elim
      · exact h.elim
    · exact h.elim
  · exact h.elim
end
end Go.Sx
