/- Own work: a text of the proof of a law (SxCall). -/
import Derived.Test.YtghddmaihcjmlaaSxRun
namespace Go.Sx
open Go

/-! ### results -/
def resOne (E : Env) (T : List V) (H : List O) : ResultVar → Option V
  | .tmp t => some (get .any T t)
  | .cell a t => match get .any T a with
    | .ptr id off => match loadV E H t (.ptr id off) with
      | .ok v => some v
      | _ => none
    | _ => none

def resL (E : Env) (T : List V) (H : List O) : List ResultVar → Option (List V)
  | [] => some []
  | r :: l => match resOne E T H r, resL E T H l with
    | some v, some vs => some (v :: vs)
    | _, _ => none

def resK (E : Env) (T : List V) (H : List O) (rs : List ResultVar) (K : V → Prop) : Prop :=
  match resL E T H rs with
  | some [v] => force v K
  | some vs => forceL vs fun vs => K (.tup vs)
  | none => False

variable {P : Program} {E : Env}

section
variable {I : Nat → Prop} {η : Eta} {w : World} {H : List O} {keep : Bool} {J : Nat → Prop}

/-- one result -/
def resSem (tmps : Array Value) : ResultVar → Sem Value
  | .tmp t => pure (tmps.getD t undef)
  | .cell a t => do loadVar t (← asAddr (tmps.getD a undef))

theorem results_eq (fn : Func) (tmps : Array Value) : results fn tmps = (do
    let vs ← fn.results.mapM (resSem tmps)
    pure (if h : vs.size = 1 then vs[0] else .tuple vs)) := by
  unfold results
  congr 1

theorem resOne_sound (hE : EnvOk E P) (hS : Sat I η w H) {T : List V} {tmps : Array Value} (hT : SatT I η w T tmps) {rv : ResultVar} {v : V} (h : resOne E T H rv = some v) :
    ∃ x, (resSem tmps rv).run P w = .ok x w ∧ Den I η w v x := by
  cases rv with
  | tmp t => simp only [resOne, Option.some.injEq] at h; subst h; exact ⟨_, rfl, hT.2 t⟩
  | cell a t =>
    simp only [resOne] at h
    split at h
    · rename_i id off hv
      have hd := hT.2 a
      rw [hv] at hd
      have hl := loadV_sound (P := P) hE hS.obj t hd
      split at h
      · rename_i u hu
        cases h
        rw [hu] at hl
        obtain ⟨x, h1, h2⟩ := hl
        obtain ⟨b, c, _, hp⟩ := hd
        refine ⟨x, ?_, h2⟩
        rw [hp] at h1
        simpa [resSem, hp, asAddr, Instr.loadAt, Instr.sureAddr] using h1
      · cases h
    · cases h

theorem resL_sound (hE : EnvOk E P) (hS : Sat I η w H) {T : List V} {tmps : Array Value} (hT : SatT I η w T tmps) : ∀ {rs : List ResultVar} {vs : List V}, resL E T H rs = some vs →
    ∃ xs : List Value, (rs.mapM (resSem tmps)).run P w = .ok xs w ∧ DenL I η w vs xs
  | [], vs, h => by simp only [resL, Option.some.injEq] at h; subst h; exact ⟨[], by simp, rfl⟩
  | rv :: rs, vs, h => by
    simp only [resL] at h
    split at h
    · rename_i v vs' h1 h2
      cases h
      obtain ⟨x, g1, g2⟩ := resOne_sound hE hS hT h1
      obtain ⟨xs, g3, g4⟩ := resL_sound hE hS hT h2
      refine ⟨x :: xs, ?_, x, xs, rfl, g2, g4⟩
      simp only [List.mapM_cons, Sem.run_bind, g1, Result.andThen_ok, g3, Sem.run_pure]
    · cases h

theorem resK_sound (hE : EnvOk E P) (hS : Sat I η w H) {T : List V} {tmps : Array Value} (hT : SatT I η w T tmps) {fn : Func} {K : V → Prop} (h : resK E T H fn.results.toList K) :
    ∃ v x, K v ∧ (results fn tmps).run P w = .ok x w ∧ Den I η w v x := by
  unfold resK at h
  have hm : ∀ (xs : List Value), (fn.results.toList.mapM (resSem tmps)).run P w = .ok xs w →
      (fn.results.mapM (resSem tmps)).run P w = .ok xs.toArray w := by
    intro xs hx
    rw [Array.mapM_eq_mapM_toList, Sem.run_map, hx]
    rfl
  split at h
  · rename_i v hr
    obtain ⟨xs, h1, h2⟩ := resL_sound (P := P) hE hS hT hr
    obtain ⟨x, r, rfl, h3, h4⟩ := h2
    have h4 : r = [] := h4
    subst h4
    rw [force_eq] at h
    refine ⟨v, x, h, ?_, h3⟩
    rw [results_eq, Sem.run_bind, hm _ h1]
    simp
  · rename_i vs hne hr
    obtain ⟨xs, h1, h2⟩ := resL_sound (P := P) hE hS hT hr
    rw [forceL_eq] at h
    refine ⟨.tup vs, .tuple xs.toArray, h, ?_, xs, rfl, h2⟩
    rw [results_eq, Sem.run_bind, hm _ h1]
    have hl := h2.length
    have : xs.toArray.size ≠ 1 := by
      intro h1
      have hvl : vs.length = 1 := by rw [← hl]; simpa using h1
      obtain ⟨v, rfl⟩ := List.length_eq_one_iff.1 hvl
      exact hne v rfl
    simp [this]
    intro h1
    exact (this (by simpa using h1)).elim
  · exact h.elim
end

/-! ### contracts -/

theorem PureC.mono {g : FuncId} {keep : Bool} {args : List V} {R R' : V → Prop} (h : PureC P g keep args R) (hr : ∀ v, R v → R' v) : PureC P g keep args R' :=
  ⟨h.1, fun I w vals hI hd => (h.2 I w vals hI hd).mono fun _ _ ⟨ret, v, h1, h2, h3⟩ => ⟨ret, v, h1, hr _ h2, h3⟩⟩

def padT (args : List V) (n : Nat) : List V := app args (repl (n - len args))
where repl : Nat → List V
  | 0 => []
  | n + 1 => .any :: repl n

theorem padT_repl (n : Nat) : padT.repl n = List.replicate n .any := by
  induction n with
  | zero => rfl
  | succ n ih => simp [padT.repl, ih, List.replicate_succ]

theorem denL_any (I : Nat → Prop) (η : Eta) (w : World) : ∀ (vs : List Value), DenL I η w (List.replicate vs.length .any) vs
  | [] => rfl
  | v :: vs => ⟨v, vs, rfl, trivial, denL_any I η w vs⟩

/-- what is asked at a function's end -/
def retQ (E : Env) (fn : Func) (K : V → List O → Prop) : Exit → KT
  | .normal, T, H => resK E T H fn.results.toList fun v => K v H
  | .ret, T, H => resK E T H fn.results.toList fun v => K v H
  | _, _, _ => False

theorem leaves_marks {fn : Func} {tmps : Array Value} {I : Nat → Prop} {η : Eta} {H : List O} {N : Nat} {R : Ending → World → Prop} : ∀ (Ds : List Nat) (w : World), Sat I η w H → Marks N I (own η H) w Ds →
    (∀ w', w'.os = w.os → w'.tape = w.tape → w'.output = w.output → w'.heap.size = w.heap.size → (∀ b, b < N → w'.heap[b]? = w.heap[b]?) → Sat I η w' H → Mono I η w I η w' → ∃ v, (results fn tmps).run P w' = .ok v w' ∧ R (.returned v) w') →
    LeavesInM (Fw none) 0 P fn tmps R (List.map mark Ds) .returning w
  | [], w, hS, _, h => h w rfl rfl rfl rfl (fun _ _ => rfl) hS (Mono.refl _ _ _)
  | D :: Ds, w, hS, hm, h => by
    obtain ⟨h1, h2, h3, h4⟩ := hm.all D (by simp)
    obtain ⟨s1, s2⟩ := hS.putAside (.deferred none) h4 h3
    have hnd := List.nodup_cons.1 hm.nodup
    refine ⟨by simp, .inl ⟨D, w.putObj D (.deferred none), rfl, run_takeDeferred h2, leaves_marks (N := N) Ds _ s1 ⟨hnd.2, fun D' hD' => ?_⟩ ?_⟩⟩
    · obtain ⟨g1, g2, g3, g4⟩ := hm.all D' (by simp [hD'])
      have hne : D' ≠ D := fun e => hnd.1 (e ▸ hD')
      exact ⟨g1, (World.putObj_heap_other hne).trans g2, g3, g4⟩
    · intro w' e1 e2 e3 e4 e5 e6 e7
      exact h w' e1 e2 e3 (by rw [e4, World.putObj_size]) (fun b hb => (e5 b hb).trans (World.putObj_heap_other (by omega))) e6 (s2.trans e7)

theorem calls_of_exec (hE : ProgOk E P) {g : FuncId} {fn : Func} {code : Code} (hf : P.funcs[g]? = some fn) (hb : fn.body = some code) {args : List V} {H : List O} {K : V → List O → Prop}
    (hx : exec (sys P) E (len H) code (retQ E fn K) (padT args fn.ntmps) H) {I : Nat → Prop} {η : Eta} {w : World} {vals : List Value} (hS : Sat I η w H) (hd : DenL I η w args vals) :
    Calls P g vals.toArray w fun e w' => ∃ I' η' H' ret v, e = .returned v ∧ K ret H' ∧ Sat I' η' w' H' ∧ Den I' η' w' ret v ∧ Mono I η w I' η' w' ∧ Step I (own η H) w I' (own η' H') w' := by
  refine callsIn_wide (n := 0).1 (callsIn_of_wp_marks (F := Fw none) hf hb trivial ?_)
  have hT : SatT I η w (padT args fn.ntmps) (vals.toArray ++ Array.replicate (fn.ntmps - vals.toArray.size) undef) := by
    refine SatT.ofList ?_
    unfold padT
    rw [app_eq, padT_repl, len_eq]
    have hl := hd.length
    simp only [Array.toList_append, Array.toList_replicate, List.size_toArray]
    refine hd.append ?_
    have := denL_any I η w (List.replicate (fn.ntmps - vals.length) undef)
    rw [List.length_replicate, hl] at this
    rw [hl]
    exact this
  refine wpIn_mono (exec_sound (r := none) (n := 0) hE code _ _ H I η w { tmps := _, defers := [] } (.inl rfl) hx ⟨hS, hT⟩) ?_
  rintro e a' w' ⟨I', η', T', H', Ds, hds, hm, hq, hg, hr⟩
  have hds : a'.defers = List.map mark Ds := by simpa using hds
  have fin : resK E T' H' fn.results.toList (fun v => K v H') → LeavesInM (Fw none) 0 P fn a'.tmps (fun e w' => ∃ I' η' H' ret v, e = .returned v ∧ K ret H' ∧ Sat I' η' w' H' ∧ Den I' η' w' ret v ∧ Mono I η w I' η' w' ∧ Step I (own η H) w I' (own η' H') w') a'.defers .returning w' := by
    intro hk
    rw [hds]
    refine leaves_marks Ds w' hg.sat hm ?_
    intro w'' e1 e2 e3 e4 e5 e6 e7
    obtain ⟨v, x, h1, h2, h3⟩ := resK_sound (P := P) hE.env e6 (hg.tmp.mono e7) hk
    have hst : Step I (own η H) w I' (own η' H') w'' := by
      have h0 := hr.toStep (by rw [len_eq]; exact Nat.le_of_eq hS.len)
      exact ⟨e1.trans h0.os, e2.trans h0.tape, e3.trans h0.output, by rw [e4]; exact h0.size, fun b hb hw => (e5 b hb).trans (h0.block b hb hw), h0.imono, h0.inew, h0.wnew, h0.eta⟩
    exact ⟨x, h2, I', η', H', v, x, rfl, h1, e6, h3, ⟨hst.eta, hst.imono, fun b hb => hst.block b (hS.ilt b hb) (fun hw => hS.notI b hw hb)⟩, hst⟩
  cases e with
  | normal => exact fin hq
  | ret => exact fin hq
  | exit _ => exact hq.elim
  | goto _ => exact hq.elim
  | panic _ => exact hq.elim
  | outgrown => exact hq.elim

/-- a call, by execution of what is called -/
theorem callee_exec (hE : ProgOk E P) {g : FuncId} {fn : Func} {code : Code} (hf : P.funcs[g]? = some fn) (hb : fn.body = some code) (hn : (fn.name == "runtime.NumGoroutine") = false) {args : List V} {H : List O} {K : V → List O → Prop}
    (hx : exec (sys P) E (len H) code (retQ E fn K) (padT args fn.ntmps) H) : Callee P g args H K := by
  unfold Callee
  exact ⟨⟨fn, hf, hn, by rw [hb]; rfl⟩, fun I η w vals hS hd => calls_of_exec hE hf hb hx hS hd⟩

theorem sat_nil {I : Nat → Prop} {w : World} (h : ∀ b, I b → b < w.heap.size) : Sat I [] w [] where
  len := rfl
  obj := fun id e o h => by simp at h
  apart := fun id id' b c c' o o' h => by simp at h
  notI := fun b ⟨id, c, o, h, _⟩ => by simp at h
  lt := fun b ⟨id, c, o, h, _⟩ => by simp at h
  ilt := h

theorem own_nil (b : Nat) : ¬ own [] [] b := fun ⟨id, c, o, h, _⟩ => by simp at h

/-- a contract, by execution -/
theorem pureC_of_exec (hE : ProgOk E P) {g : FuncId} {fn : Func} {code : Code} (hf : P.funcs[g]? = some fn) (hb : fn.body = some code) (hn : (fn.name == "runtime.NumGoroutine") = false) {keep : Bool} {args : List V} {R : V → Prop}
    (hx : exec (sys P) E 0 code (retQ E fn fun v H => ∃ ret, R ret ∧ rEnt keep H v ret True) (padT args fn.ntmps) []) : PureC P g keep args R := by
  refine ⟨⟨fn, hf, hn, by rw [hb]; rfl⟩, fun I w vals hI hd => ?_⟩
  refine (calls_of_exec (H := []) hE hf hb hx (sat_nil hI) hd).mono ?_
  rintro e w' ⟨I', η', H', v, x, rfl, ⟨ret, hret, hent⟩, hS, hden, _, hst⟩
  have hown : ∀ b, own η' H' b → w.heap.size ≤ b := fun b hb => (hst.wnew b hb).resolve_left (own_nil b)
  obtain ⟨h1, _⟩ := rEnt_sound (J := fun b => (keep = true ∧ I b) ∨ (w.heap.size ≤ b ∧ b < w'.heap.size)) (keep := keep) hS.obj (fun b hb => .inr ⟨hown b hb, hS.lt b hb⟩)
    (fun hk b hb => by
      rcases hst.inew b hb with h | h | h
      · exact .inl ⟨hk, h⟩
      · exact (own_nil b h).elim
      · exact .inr ⟨h, hS.ilt b hb⟩) v ret True x hent hden
  exact ⟨ret, x, rfl, hret, h1, ⟨hst.os, hst.tape, hst.output, hst.size, fun b hb => hst.block b hb (own_nil b)⟩⟩

/-- a call of a function with a contract; the arguments have nothing of the caller's own -/
theorem callee_fo {g : FuncId} {keep : Bool} {args : List V} {R0 : V → Prop} {H : List O} {K : V → List O → Prop} (h : PureC P g keep args R0) (hfo : foL args = true) (hk : ∀ ret, R0 ret → K ret H) :
    Callee P g args H K := by
  unfold Callee
  refine ⟨h.1, fun I η w vals hS hd => ?_⟩
  refine (h.2 I w vals hS.ilt (fo_nil_list _ _ hfo hd)).mono ?_
  rintro e w' ⟨ret, v, rfl, hr, hden, hp⟩
  obtain ⟨s1, s2, s3⟩ := hS.pres hp
  refine ⟨grow I w w', η, H, ret, v, rfl, hk ret hr, s1, ?_, s2, s3⟩
  refine Den.mono ⟨fun _ _ he _ => by simp at he, fun b hb => ?_, fun _ _ => rfl⟩ _ _ hden
  rcases hb with hb | hb
  · exact .inl hb.2
  · exact .inr hb

/-- a call of a function whose result is new; rows of the caller's own are immutable slices to it -/
theorem callee_view {g : FuncId} {args cargs : List V} {R0 : V → Prop} {H : List O} {K : V → List O → Prop} (h : PureC P g false cargs R0) (hk : rEntL true H args cargs (∀ ret, R0 ret → K ret H)) :
    Callee P g args H K := by
  unfold Callee
  refine ⟨h.1, fun I η w vals hS hd => ?_⟩
  obtain ⟨hd', hk'⟩ := rEntL_sound (J := fun b => I b ∨ own η H b) (keep := true) hS.obj (fun b hb => .inr hb) (fun _ b hb => .inl hb) args cargs _ vals hk hd
  refine (h.2 _ w vals (fun b hb => hb.elim (hS.ilt b) (hS.lt b)) hd').mono ?_
  rintro e w' ⟨ret, v, rfl, hr, hden, hp⟩
  obtain ⟨s1, s2, s3⟩ := hS.pres hp
  refine ⟨grow I w w', η, H, ret, v, rfl, hk' ret hr, s1, ?_, s2, s3⟩
  refine Den.mono ⟨fun _ _ he _ => by simp at he, fun b hb => ?_, fun _ _ => rfl⟩ _ _ hden
  rcases hb with hb | hb
  · exact (Bool.false_ne_true hb.1).elim
  · exact .inr hb

end Go.Sx
namespace Go.Sx
theorem envOk_of {E : Env} {P : Program} {n : Nat} {mask : Nat → Bool} (h : E = (List.range n).map (fun t => bif mask t then tiOf P t else {})) : EnvOk E P := by
  intro t hk
  unfold Env.ti at hk ⊢
  rw [get_eq, h, List.getElem?_map] at hk ⊢
  by_cases ht : t < n
  · rw [List.getElem?_range ht] at hk ⊢
    simp only [Option.map_some, Option.getD_some] at hk ⊢
    cases hm : mask t with
    | true => rfl
    | false => rw [hm] at hk; cases hk
  · rw [List.getElem?_eq_none (by simpa using ht)] at hk
    cases hk
end Go.Sx
namespace Go.Sx
theorem appF_one {n : Nat} {f : Nat → List V} {c : List V} (h : f n = c) : ∀ i, i < n + 1 → appF n f (fun _ => c) i = f i := by
  intro i hi
  unfold appF
  split
  · rfl
  · rw [show i = n by omega, h]

/-- a row that grows by one element: what it is afterwards -/
theorem appF_snoc {n : Nat} {f f' : Nat → List V} {c : List V} (h : ∀ i, i < n → f i = f' i) (hn : c = f' n) : ∀ i, i < n + 1 → appF n f (fun _ => c) i = f' i := by
  intro i hi
  unfold appF
  split
  · rename_i h1; exact h i h1
  · rw [show i = n by omega, hn]

theorem inR64 {n : Int} (h1 : -9223372036854775808 ≤ n) (h2 : n ≤ 9223372036854775807) : inR .i64 n := ⟨h1, h2⟩
end Go.Sx
