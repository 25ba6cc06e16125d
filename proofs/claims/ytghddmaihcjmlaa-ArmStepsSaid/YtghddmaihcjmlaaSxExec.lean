/- Own work: a text of the proof of a law (SxExec). -/
import Derived.Test.YtghddmaihcjmlaaSxMapF
import Derived.OrdersIn
import Derived.TacticsIn
import Derived.Sort.LoopGhostIn
namespace Go.Sx
open Go
variable {P : Program} {E : Env}

theorem SatT.replace {I : Nat → Prop} {η : Eta} {w : World} {T : List V} {tmps : Array Value} {g : Nat} {v : V} (h : SatT I η w T tmps) (hv : Den I η w v (tmps.getD g undef)) : SatT I η w (set T g v) tmps := by
  refine ⟨by rw [set_eq, List.length_set]; exact h.1, fun i => ?_⟩
  rw [set_eq, get_eq, List.getElem?_set]
  by_cases hg : g = i
  · subst hg
    by_cases hlt : g < T.length
    · simp only [hlt, if_true, Option.getD_some]; exact hv
    · simp [hlt, Den]
  · have := h.2 i
    rw [get_eq] at this
    simp only [hg, if_false]
    exact this

theorem guardDst_eq : ∀ (l : List Oper) (j : Nat), guardDst l j = (l[j]?).bind (·.dst)
  | [], _ => rfl
  | _ :: _, 0 => rfl
  | _ :: l, j + 1 => by simp [guardDst, guardDst_eq l j]

theorem yielded_eq {ops : Array Oper} {tmps : Array Value} {j g : Nat} (h : guardDst ops.toList j = some g) : yielded ops tmps j = (match tmps.getD g undef with | .bool b => some b | _ => none) := by
  rw [guardDst_eq, Array.getElem?_toList] at h
  unfold yielded
  rw [h]
  simp only [Option.bind_some, Array.getD_eq_getD_getElem?]
  cases tmps[g]? with
  | none => rfl
  | some v => cases v <;> rfl

theorem calls_fw {r : Option Nat} {n : Nat} {g : FuncId} {args : Array Value} {w : World} {R : Ending → World → Prop} (h : Calls P g args w R) : CallsIn (Fw r) n P g args w R :=
  callsIn_wide.2 h

theorem round_fw {r : Option Nat} {n l : Nat} {f : FuncId} {tmps : Array Value} {assign body : Code} {w : World} {R : Ending → World → Prop} (h : RoundIn (Fw none) 0 P l f tmps assign body w R) : RoundIn (Fw r) n P l f tmps assign body w R :=
  ⟨trivial, fun c cs _ => h.2 c cs (fun _ h => by simp [Fw] at h)⟩

/-- a pure call, carried out -/
theorem pcall_run {R : Rel} (hR : RelOk R) {I : Nat → Prop} {η : Eta} {w : World} {H₀ H : List O} (hS : Sat I η w H) (hpre : ∀ (j : Nat) (o' : O), H₀[j]? = some o' → H[j]? = some o') {g : FuncId} {args : List V} {vals : List Value} {v : V} (h : PCall P g args H₀ v) (hd : DenL I η w args vals) :
    Plain P g ∧ Calls P g vals.toArray w fun e w' => ∃ x, e = .returned x ∧ Sat (grow I w w') η w' H ∧ Den (grow I w w') η w' v x ∧ Mono I η w (grow I w w') η w' ∧ R I (own η H) w (grow I w w') (own η H) w' := by
  unfold PCall at h
  obtain ⟨keep, cargs, hp, hc⟩ := h
  refine ⟨hp.1, ?_⟩
  have hJ : ∃ J : Nat → Prop, (∀ b, J b → b < w.heap.size) ∧ DenL J [] w cargs vals ∧ (keep = true → ∀ b, J b → I b) := by
    rcases hc with ⟨rfl, hfo⟩ | ⟨rfl, hent⟩
    · exact ⟨I, hS.ilt, fo_nil_list _ _ hfo hd, fun _ _ hb => hb⟩
    · obtain ⟨h1, _⟩ := rEntL_sound (J := fun b => I b ∨ own η H b) (keep := true) (H := H₀) (fun j e o he ho => hS.obj j e o he (hpre j o ho)) (fun b ⟨j, c, o, h1, h2, h3⟩ => .inr ⟨j, c, o, h1, hpre j o h2, h3⟩) (fun _ b hb => .inl hb) args cargs _ vals hent hd
      exact ⟨_, fun b hb => hb.elim (hS.ilt b) (hS.lt b), h1, fun hk => by cases hk⟩
  obtain ⟨J, hJ1, hJ2, hJ3⟩ := hJ
  refine (hp.2 J w vals hJ1 hJ2).mono ?_
  rintro e w' ⟨ret, x, rfl, rfl, hden, hpres⟩
  obtain ⟨s1, s2, s3⟩ := hS.pres hpres
  refine ⟨x, rfl, s1, Den.mono ⟨fun _ _ he _ => by simp at he, fun b hb => ?_, fun _ _ => rfl⟩ _ _ hden, s2, hR.step s3⟩
  rcases hb with hb | hb
  · exact .inl (hJ3 hb.1 b hb.2)
  · exact .inr hb
theorem call_run {o : Oper} {a : Act} {w : World} {f : Operand} {args : Array Operand} {ts : Array TypeId} (hop : o.op = .call { callee := .value f, args := args, argTypes := ts }) {g : FuncId} {as bs : List Value} (hf : a.eval f = .func (.func g) as.toArray bs.toArray) (hp : Plain P g) :
    (execOp a.eval o).run P w = .ok (.enter g (as ++ (args.toList.map a.eval ++ bs)).toArray) w := by
  obtain ⟨fn, hfn, hnm, hbody⟩ := hp
  have hb' : fn.body.isNone = false := hbody
  simp only [execOp, hop, resolve, hf, Deferred.ofValue, Sem.run_bind, Sem.run_pure, Result.andThen_ok, invoke, callFunc, run_program, hfn, hnm, hb']
  simp


section
variable {R : Rel} (hR : RelOk R) (hE : EnvOk E P) {r : Option Nat} {n : Nat} {Q : Exit → Act → World → Prop}
include hR hE

theorem stepOp_sound {T : List V} {H : List O} {o : Oper} {K : KT} {I : Nat → Prop} {η : Eta} {w : World} {a : Act} (hg : Good I η w T H a) (h : stepOp (sys P) E T H o K) :
    o.wpIn (Fw r) n P a w (After R I (own η H) w a.defers K) Q := by
  have hd : ∀ c, o.op ≠ .defer c := by
    intro c hc
    unfold stepOp stepPure at h
    rw [hc] at h
    simp only [pureOp, heapOp, hc] at h
    exact conds_k h
  unfold stepOp at h
  rcases stepPure_sound hR hE (r := r) (n := n) (Q := Q) hg h hd with h1 | h1
  · exact h1
  · obtain ⟨ht, h2⟩ := conds_true trivial h1
    split at h2
    · rename_i fo args argTypes hop
      unfold callOp at h2
      rw [hop] at h2
      simp only at h2
      split at h2
      · rename_i g first cap hf
        rw [forceL_eq, app_eq, app_eq] at h2
        have hfd := ev_den hg.tmp (ht fo (by simp [hop, Op.operands, Call.operands]))
        rw [hf] at hfd
        obtain ⟨as, bs, hfv, had, hbd⟩ := hfd
        have hargs := evs_den hg.tmp args.toList (fun x hx => ht x (by simp [hop, Op.operands, Call.operands]; exact .inr (by simpa using hx)))
        have hall : DenL I η w (first ++ (evs T args.toList ++ cap)) (as ++ (args.toList.map a.eval ++ bs)) := had.append (hargs.append hbd)
        unfold sys Callee at h2
        obtain ⟨⟨fn, hfn, hnm, hbody⟩, hcall⟩ := h2
        have hc := hcall I η w _ hg.sat hall
        refine ⟨fun _ _ => trivial, ?_⟩
        rw [Oper.semAt_eq _ _ _ hd]
        have hrun : (execOp a.eval o).run P w = .ok (.enter g (as ++ (args.toList.map a.eval ++ bs)).toArray) w := by
          have hb' : fn.body.isNone = false := hbody
          simp only [execOp, hop, resolve, hfv, Deferred.ofValue, Sem.run_bind, Sem.run_pure, Result.andThen_ok, invoke, callFunc, run_program, hfn, hnm, hb']
          simp
        rw [hrun]
        refine ⟨fun hsome => by simp [Fw] at hsome, calls_fw (hc.mono ?_)⟩
        rintro e w' ⟨I', η', H', ret, v, rfl, hk, hs, hden, hm, hr⟩
        rw [putK_eq] at hk
        exact ⟨Act.put_defers' _ _ _, I', η', _, H', hk, ⟨hs, (hg.tmp.mono hm).put hden⟩, hR.step hr⟩
      · rename_i id hf
        rw [forceL_eq] at h2
        have hfd := ev_den hg.tmp (ht fo (by simp [hop, Op.operands, Call.operands]))
        rw [hf] at hfd
        have hargs := evs_den hg.tmp args.toList (fun x hx => ht x (by simp [hop, Op.operands, Call.operands]; exact .inr (by simpa using hx)))
        unfold sys YCall at h2
        obtain ⟨b, c, fn, tmps, assign, body, hη, hinv, hround⟩ := h2 I η w _ hg.sat hargs
        obtain ⟨b', c', hη', hfv⟩ := hfd
        rw [hη] at hη'
        cases hη'
        refine ⟨fun _ _ => trivial, ?_⟩
        rw [Oper.semAt_eq _ _ _ hd]
        have hrun : (execOp a.eval o).run P w = .ok (.round b fn tmps assign body) w := by
          rw [← hinv]
          have hmap : Array.map a.eval args = (List.map a.eval args.toList).toArray := by rw [← Array.toList_map, Array.toArray_toList]
          simp only [execOp, hop, resolve, hfv, Deferred.ofValue, Sem.run_bind, Sem.run_pure, Result.andThen_ok, hmap]
          simp
        rw [hrun]
        refine ⟨fun hsome => by simp [Fw] at hsome, round_fw (hround.mono ?_)⟩
        rintro e w' ⟨I', η', H', ret, v, rfl, hk, hs, hden, hm, hr⟩
        rw [putK_eq] at hk
        exact ⟨Act.put_defers' _ _ _, I', η', _, H', hk, ⟨hs, (hg.tmp.mono hm).put hden⟩, hR.step hr⟩
      · rename_i D hf
        rw [forceL_eq] at h2
        have hfd := ev_den hg.tmp (ht fo (by simp [hop, Op.operands, Call.operands]))
        rw [hf] at hfd
        have hargs := evs_den hg.tmp args.toList (fun x hx => ht x (by simp [hop, Op.operands, Call.operands]; exact .inr (by simpa using hx)))
        unfold sys SCall at h2
        obtain ⟨g, as, bs, hfv, ⟨fn, hfn, hnm, hbody⟩, hc⟩ := h2 I η w _ _ hg.sat hfd hargs
        refine ⟨fun _ _ => trivial, ?_⟩
        rw [Oper.semAt_eq _ _ _ hd]
        have hrun : (execOp a.eval o).run P w = .ok (.enter g (as ++ (args.toList.map a.eval).toArray ++ bs)) w := by
          have hb' : fn.body.isNone = false := hbody
          have hmap : Array.map a.eval args = (List.map a.eval args.toList).toArray := by rw [← Array.toList_map, Array.toArray_toList]
          simp only [execOp, hop, resolve, hfv, Deferred.ofValue, Sem.run_bind, Sem.run_pure, Result.andThen_ok, invoke, callFunc, run_program, hfn, hnm, hb', hmap]
          simp
        rw [hrun]
        refine ⟨fun hsome => by simp [Fw] at hsome, calls_fw (hc.mono ?_)⟩
        rintro e w' ⟨I', η', H', ret, v, rfl, hk, hs, hden, hm, hr⟩
        rw [putK_eq] at hk
        exact ⟨Act.put_defers' _ _ _, I', η', _, H', hk, ⟨hs, (hg.tmp.mono hm).put hden⟩, hR.step hr⟩
      · exact h2.elim
    · split at h2
      · exact mapOp_sound hR hE hg h2 ht
      · exact sliceOp_sound hR hE hg h2 ht
    · exact mapOp_sound hR hE hg h2 ht
    · exact mapOp_sound hR hE hg h2 ht
    · exact mapOp_sound hR hE hg h2 ht
    · exact mapOp_sound hR hE hg h2 ht
    · exact sliceOp_sound hR hE hg h2 ht
    · exact sliceOp_sound hR hE hg h2 ht
    · exact heapOp_sound hR hE hg h2 ht

/-- a soft operation: carried out if e, passed over otherwise -/
theorem softPure_sound {T : List V} {H : List O} {e : Prop} {o : Oper} {K : KT} {L : Prop} {I : Nat → Prop} {η : Eta} {w : World} {a : Act} (hg : Good I η w T H a) (h : softPure E T H e o K L) (hd : ∀ c, o.op ≠ .defer c) :
    ((e → o.wpIn (Fw r) n P a w (After R I (own η H) w a.defers K) Q) ∧ (¬ e → After R I (own η H) w a.defers K (a.put o.dst undef) w)) ∨ L := by
  unfold softPure at h
  have key : ∀ (v : V), conds T e (condOps o.op) (softV e v fun v => putK T o.dst v fun T' => K T' H) → (e → (∀ x ∈ condOps o.op, There T x) → ∃ x, (execOp a.eval o).run P w = .ok (.value x) w ∧ Den I η w v x) →
      ((e → o.wpIn (Fw r) n P a w (After R I (own η H) w a.defers K) Q) ∧ (¬ e → After R I (own η H) w a.defers K (a.put o.dst undef) w)) := by
    intro v hc hx
    constructor
    · intro he
      obtain ⟨h1, h2⟩ := conds_true he hc
      obtain ⟨x, e1, e2⟩ := hx he h1
      unfold softV at h2
      split at h2
      · obtain ⟨hq, h2⟩ := h2
        rw [putK_eq] at h2
        exact wpIn_value hd e1 ⟨Act.put_defers' _ _ _, I, η, _, H, h2, ⟨hg.sat, hg.tmp.put ⟨fun _ => e2.1 (hq he), fun hn => (hn he).elim⟩⟩, hR.step (Step.refl _ _ _)⟩
      · rw [putK_eq] at h2
        exact wpIn_value hd e1 ⟨Act.put_defers' _ _ _, I, η, _, H, h2, ⟨hg.sat, hg.tmp.put ⟨fun _ => e2, fun hn => (hn he).elim⟩⟩, hR.step (Step.refl _ _ _)⟩
    · intro hne
      have h2 := conds_k hc
      unfold softV at h2
      split at h2
      · obtain ⟨hq, h2⟩ := h2
        rw [putK_eq] at h2
        exact ⟨Act.put_defers' _ _ _, I, η, _, H, h2, ⟨hg.sat, hg.tmp.put ⟨fun he => (hne he).elim, fun _ => rfl⟩⟩, hR.step (Step.refl _ _ _)⟩
      · rw [putK_eq] at h2
        exact ⟨Act.put_defers' _ _ _, I, η, _, H, h2, ⟨hg.sat, hg.tmp.put ⟨fun he => (hne he).elim, fun _ => rfl⟩⟩, hR.step (Step.refl _ _ _)⟩
  split at h
  · exact .inr h
  · rename_i v hp
    left
    refine key v h (fun he ht => ?_)
    have := pureOp_sound hE hg.sat.obj hg.tmp o ht
    rw [hp] at this
    exact this
  · rename_i c v hp
    left
    refine key v h.2 (fun he ht => ?_)
    have := pureOp_sound hE hg.sat.obj hg.tmp o ht
    rw [hp] at this
    exact this (h.1 he)

omit hE in
theorem softCall_sound {T : List V} {H : List O} {e : Prop} {o : Oper} {K : KT} {I : Nat → Prop} {η : Eta} {w : World} {a : Act} (hg : Good I η w T H a) (h : softCall (sys P) E T H e o K) :
    (e → o.wpIn (Fw r) n P a w (After R I (own η H) w a.defers K) Q) ∧ (¬ e → After R I (own η H) w a.defers K (a.put o.dst undef) w) := by
  unfold softCall at h
  split at h
  · rename_i fo args ts hoc
    have hk := conds_k h
    split at hk
    · rename_i g first cap hf
      rw [forceL_eq, app_eq, app_eq] at hk
      obtain ⟨v, hp, hk⟩ := hk
      rw [force_eq, putK_eq] at hk
      refine ⟨fun he => ?_, fun he => ⟨Act.put_defers' _ _ _, I, η, _, H, hk, ⟨hg.sat, hg.tmp.put ⟨fun hh => (he hh).elim, fun _ => rfl⟩⟩, hR.step (Step.refl _ _ _)⟩⟩
      obtain ⟨ht, _⟩ := conds_true he h
      have hd : ∀ c, o.op ≠ .defer c := by rw [hoc]; intro c hc; cases hc
      have hfo : fo ∈ o.op.operands.toList := by simp [hoc, Op.operands, Call.operands]
      have hfd := ev_den hg.tmp (ht fo hfo)
      rw [hf] at hfd
      obtain ⟨as, bs, hfv, had, hbd⟩ := hfd
      have hargs := evs_den hg.tmp args.toList (fun x hx => ht x (by simp [hoc, Op.operands, Call.operands]; exact .inr (by simpa using hx)))
      obtain ⟨hpl, hcall⟩ := pcall_run hR hg.sat (fun _ _ h => h) (hp he) (had.append (hargs.append hbd))
      refine ⟨fun _ _ => trivial, ?_⟩
      rw [Oper.semAt_eq _ _ _ hd, call_run hoc hfv hpl]
      refine ⟨fun hsome => by simp [Fw] at hsome, calls_fw (hcall.mono ?_)⟩
      rintro e' w' ⟨x, rfl, s1, s2, s3, s4⟩
      exact ⟨Act.put_defers' _ _ _, grow I w w', η, _, H, hk, ⟨s1, (hg.tmp.mono s3).put ⟨fun _ => s2, fun hn => (hn he).elim⟩⟩, s4⟩
    · exact hk.elim
  · exact h.elim

/-- one operation of a region: carried out, or skipped -/
def Fin1 (P : Program) (R : Rel) (r : Option Nat) (n : Nat) (Q : Exit → Act → World → Prop) (ops : Array Oper) (I : Nat → Prop) (η : Eta) (w : World) (H : List O) (K : KT) (o : Oper) (a : Act) : Prop :=
  if Region.wanted o (yielded ops a.tmps) = true then o.wpIn (Fw r) n P a w (After R I (own η H) w a.defers K) Q else After R I (own η H) w a.defers K (a.put o.dst undef) w

theorem exec1_sound {ops : Array Oper} {K : KT} {o : Oper} {T : List V} {H : List O} {I : Nat → Prop} {η : Eta} {w : World} {a : Act} (h : execOps (sys P) E ops.toList K [o] T H) (hg : Good I η w T H a) : Fin1 P R r n Q ops I η w H K o a := by
  have run : Region.wanted o (yielded ops a.tmps) = true → o.wpIn (Fw r) n P a w (After R I (own η H) w a.defers K) Q → Fin1 P R r n Q ops I η w H K o a := by
    intro hw hh
    unfold Fin1
    rw [if_pos hw]
    exact hh
  have skip : Region.wanted o (yielded ops a.tmps) = false → After R I (own η H) w a.defers K (a.put o.dst undef) w → Fin1 P R r n Q ops I η w H K o a := by
    intro hw hh
    unfold Fin1
    rw [if_neg (by simp [hw])]
    exact hh
  unfold execOps at h
  have e0 : execOps (sys P) E ops.toList K [] = K := rfl
  rw [e0] at h
  split at h
  · rename_i hgd
    exact run (by simp [Region.wanted, hgd]) (stepOp_sound hR hE hg h)
  · rename_i j want hgd
    split at h
    · exact h.elim
    · rename_i g hgs
      have hy := yielded_eq (tmps := a.tmps) hgs
      have hden := hg.tmp.2 g
      have hwant : ∀ b, a.tmps.getD g undef = .bool b → Region.wanted o (yielded ops a.tmps) = (b == want) := by
        intro b hb
        simp only [Region.wanted, hgd, hy, hb]
        cases b <;> cases want <;> rfl
      have hnd : ∀ (L : Prop) (p : Prop), softPure E T H p o (K) L → (∀ c, o.op ≠ .defer c) ∨ L := by
        intro L p hs
        by_cases hdf : ∃ c, o.op = .defer c
        · obtain ⟨c, hc⟩ := hdf
          right
          unfold softPure at hs
          rw [hc] at hs
          exact hs
        · left; intro c hc; exact hdf ⟨c, hc⟩
      split at h
      · rename_i hv
        rw [hv] at hden
        exact run (by rw [hwant true hden]; rfl) (stepOp_sound hR hE hg h)
      · rename_i hv
        rw [hv] at hden
        exact run (by rw [hwant false hden]; rfl) (stepOp_sound hR hE hg h)
      · rename_i b hb hn1 hn2
        rw [hb] at hden
        rw [putK_eq] at h
        refine skip ?_ ⟨Act.put_defers' _ _ _, I, η, _, H, h, ⟨hg.sat, hg.tmp.put trivial⟩, hR.step (Step.refl _ _ _)⟩
        rw [hwant b hden]
        cases b <;> simp_all
      · rename_i p d hv
        rw [hv] at hden
        have hw1 := hwant _ hden
        have hsplit : ((p → setK T g (.kb true) fun T => stepOp (sys P) E T H o (K)) ∧
            (¬ p → setK T g (.kb false) fun T => putK T o.dst .any fun T' => K T' H)) → Fin1 P R r n Q ops I η w H K o a := by
          rintro ⟨h1, h2⟩
          by_cases hp : p
          · have h1 := h1 hp
            rw [setK_eq] at h1
            refine run (by rw [hw1]; simp [hp]) (stepOp_sound hR hE ⟨hg.sat, hg.tmp.replace (g := g) (v := .kb true) ?_⟩ h1)
            rw [show a.tmps.getD g undef = _ from hden]; simp [Den, hp]
          · have h2 := h2 hp
            rw [setK_eq, putK_eq] at h2
            refine skip (by rw [hw1]; simp [hp]) ⟨Act.put_defers' _ _ _, I, η, _, H, h2, ⟨hg.sat, SatT.put (hg.tmp.replace (g := g) (v := .kb false) ?_) trivial⟩, hR.step (Step.refl _ _ _)⟩
            rw [show a.tmps.getD g undef = _ from hden]; simp [Den, hp]
        rcases hnd _ _ h with hdd | hdd
        · rcases softPure_sound hR hE (r := r) (n := n) (Q := Q) hg h hdd with ⟨s1, s2⟩ | s
          · by_cases hp : p
            · exact run (by rw [hw1]; simp [hp]) (s1 hp)
            · exact skip (by rw [hw1]; simp [hp]) (s2 hp)
          · exact hsplit s
        · exact hsplit hdd
      · rename_i p d hv
        rw [hv] at hden
        have hw1 := hwant _ hden
        have hsplit : ((¬ p → setK T g (.kb false) fun T => stepOp (sys P) E T H o (K)) ∧
            (p → setK T g (.kb true) fun T => putK T o.dst .any fun T' => K T' H)) → Fin1 P R r n Q ops I η w H K o a := by
          rintro ⟨h1, h2⟩
          by_cases hp : p
          · have h2 := h2 hp
            rw [setK_eq, putK_eq] at h2
            refine skip (by rw [hw1]; simp [hp]) ⟨Act.put_defers' _ _ _, I, η, _, H, h2, ⟨hg.sat, SatT.put (hg.tmp.replace (g := g) (v := .kb true) ?_) trivial⟩, hR.step (Step.refl _ _ _)⟩
            rw [show a.tmps.getD g undef = _ from hden]; simp [Den, hp]
          · have h1 := h1 hp
            rw [setK_eq] at h1
            refine run (by rw [hw1]; simp [hp]) (stepOp_sound hR hE ⟨hg.sat, hg.tmp.replace (g := g) (v := .kb false) ?_⟩ h1)
            rw [show a.tmps.getD g undef = _ from hden]; simp [Den, hp]
        rcases hnd _ _ h with hdd | hdd
        · rcases softPure_sound hR hE (r := r) (n := n) (Q := Q) hg h hdd with ⟨s1, s2⟩ | s
          · by_cases hp : p
            · exact skip (by rw [hw1]; simp [hp]) (s2 (fun hn => hn hp))
            · exact run (by rw [hw1]; simp [hp]) (s1 hp)
          · exact hsplit s
        · exact hsplit hdd
      · rename_i q p d hv
        rw [hv] at hden
        have fin : softCall (sys P) E T H (q ∧ p) o (K) → Fin1 P R r n Q ops I η w H K o a := by
          intro h
          obtain ⟨s1, s2⟩ := softCall_sound hR (r := r) (n := n) (Q := Q) hg h
          by_cases hq : q
          · have hw1 := hwant _ (hden.1 hq)
            by_cases hp : p
            · exact run (by rw [hw1]; simp [hp]) (s1 ⟨hq, hp⟩)
            · exact skip (by rw [hw1]; simp [hp]) (s2 (fun hn => hp hn.2))
          · refine skip ?_ (s2 (fun hn => hq hn.1))
            rw [hden.2 hq] at hy
            simp only [Region.wanted, hgd, hy]
            rfl
        rcases hnd _ _ h with hdd | hdd
        · rcases softPure_sound hR hE (r := r) (n := n) (Q := Q) hg h hdd with ⟨s1, s2⟩ | s
          · by_cases hq : q
            · have hw1 := hwant _ (hden.1 hq)
              by_cases hp : p
              · exact run (by rw [hw1]; simp [hp]) (s1 ⟨hq, hp⟩)
              · exact skip (by rw [hw1]; simp [hp]) (s2 (fun hn => hp hn.2))
            · refine skip ?_ (s2 (fun hn => hq hn.1))
              rw [hden.2 hq] at hy
              simp only [Region.wanted, hgd, hy]
              rfl
          · exact fin s
        · exact fin hdd
      · rename_i q p d hv
        rw [hv] at hden
        have fin : softCall (sys P) E T H (q ∧ ¬ p) o (K) → Fin1 P R r n Q ops I η w H K o a := by
          intro h
          obtain ⟨s1, s2⟩ := softCall_sound hR (r := r) (n := n) (Q := Q) hg h
          by_cases hq : q
          · have hw1 := hwant _ (hden.1 hq)
            by_cases hp : p
            · exact skip (by rw [hw1]; simp [hp]) (s2 (fun hn => hn.2 hp))
            · exact run (by rw [hw1]; simp [hp]) (s1 ⟨hq, hp⟩)
          · refine skip ?_ (s2 (fun hn => hq hn.1))
            rw [hden.2 hq] at hy
            simp only [Region.wanted, hgd, hy]
            rfl
        rcases hnd _ _ h with hdd | hdd
        · rcases softPure_sound hR hE (r := r) (n := n) (Q := Q) hg h hdd with ⟨s1, s2⟩ | s
          · by_cases hq : q
            · have hw1 := hwant _ (hden.1 hq)
              by_cases hp : p
              · exact skip (by rw [hw1]; simp [hp]) (s2 (fun hn => hn.2 hp))
              · exact run (by rw [hw1]; simp [hp]) (s1 ⟨hq, hp⟩)
            · refine skip ?_ (s2 (fun hn => hq hn.1))
              rw [hden.2 hq] at hy
              simp only [Region.wanted, hgd, hy]
              rfl
          · exact fin s
        · exact fin hdd
      · exact h.elim

theorem execOps_sound {ops : Array Oper} {K : KT} {I₀ : Nat → Prop} {W₀ : Own} {w₀ : World} {ds : List Deferred} (hQ : ∀ a w, After R I₀ W₀ w₀ ds K a w → Q .normal a w) :
    ∀ (rest : List Oper) (T : List V) (H : List O) (I : Nat → Prop) (η : Eta) (w : World) (a : Act), execOps (sys P) E ops.toList K rest T H → Good I η w T H a → a.defers = ds → R I₀ W₀ w₀ I (own η H) w →
      wpListIn (Fw r) n P ops Q rest a w
  | [], T, H, I, η, w, a, h, hg, hds, hr => wpListIn_nil (hQ a w ⟨hds, I, η, T, H, h, hg, hr⟩)
  | o :: rest, T, H, I, η, w, a, h, hg, hds, hr => by
    have ih := execOps_sound (ops := ops) hQ rest
    have next : ∀ a' w', After R I (own η H) w a.defers (execOps (sys P) E ops.toList K rest) a' w' → wpListIn (Fw r) n P ops Q rest a' w' := by
      rintro a' w' ⟨h1, I', η', T', H', h2, h3, h4⟩
      exact ih T' H' I' η' w' a' h2 h3 (h1.trans hds) (hR.trans hr h4)
    have h : execOps (sys P) E ops.toList (execOps (sys P) E ops.toList K rest) [o] T H := h
    have h1 := exec1_sound hR hE (r := r) (n := n) (Q := Q) h hg
    unfold Fin1 at h1
    unfold wpListIn
    split
    · rename_i hw
      rw [if_pos hw] at h1
      exact Oper.wpIn_mono next h1
    · rename_i hw
      rw [if_neg hw] at h1
      exact ⟨fun _ _ => trivial, next _ _ h1⟩
end
end Go.Sx
