/- Own work: a text of the proof of a law (SxRun). -/
import Derived.Test.YtghddmaihcjmlaaSxSide
import Derived.Scope
namespace Go.Sx
open Go
variable {P : Program} {E : Env}

theorem havK_ex : ∀ (l : List Nat) (T : List V) (K : List V → Prop), havK T l K → ∃ T₀, K T₀
  | [], T, K, h => ⟨T, h⟩
  | d :: l, T, K, h => by simp only [havK] at h; rw [setK_eq] at h; exact havK_ex l _ K h

theorem ovrVK_ex : ∀ (l : List (Nat × V)) (T : List V), ∃ T₁, ∀ K : List V → Prop, ovrVK T l K = K T₁
  | [], T => ⟨T, fun _ => rfl⟩
  | (d, v) :: l, T => by
    obtain ⟨T₁, h⟩ := ovrVK_ex l (set T d v)
    exact ⟨T₁, fun K => by simp only [ovrVK]; rw [force_eq, setK_eq]; exact h K⟩

theorem ovrHK_ex : ∀ (l : List (Nat × O)) (T : List O), ∃ T₁, ∀ K : List O → Prop, ovrHK T l K = K T₁
  | [], T => ⟨T, fun _ => rfl⟩
  | (d, v) :: l, T => by
    obtain ⟨T₁, h⟩ := ovrHK_ex l (set T d v)
    exact ⟨T₁, fun K => by simp only [ovrHK]; rw [setK_eq]; exact h K⟩

theorem appK_ex {α : Type} : ∀ (l : List α) (T : List α), ∃ T₁, ∀ K : List α → Prop, appK T l K = K T₁
  | [], T => ⟨T, fun _ => rfl⟩
  | v :: l, T => by
    obtain ⟨T₁, h⟩ := appK_ex l (T ++ [v])
    exact ⟨T₁, fun K => by simp only [appK]; rw [pushK_eq]; exact h K⟩

/-- the program is as the executor takes it -/
structure ProgOk (E : Env) (P : Program) : Prop where
  env : EnvOk E P
  mixed : P.follows .mixedOrders = true

theorem alloc_old {w : World} {o : Obj} {b : Nat} (h : b < w.heap.size) : (w.alloc o).heap[b]? = w.heap[b]? := by
  rw [World.alloc_heap, Array.getElem?_push]
  have : b ≠ w.heap.size := by omega
  simp [this]

theorem wpIn_scope_straight {F : Fence} {n : Nat} {c : Code} {Q : Exit → Act → World → Prop} {a : Act} {w : World} (h : c.wpIn F n P (Exit.noGoto Q) a w) : (Code.scope c).wpIn F n P Q a w := by
  intro b k cs hro hb hr
  have h0 : (lone (b.atR a (.code (.scope c) :: k)) cs w).fenced P F := fenced_calm hb hr rfl
  have s0 : step P (lone (b.atR a (.code (.scope c) :: k)) cs w) = .next (lone (b.atR a (.code c :: .inScope c :: k)) cs w) := step_lone_go (by simp [stepG, stepG.exec, Frame.atR])
  obtain ⟨e, a₁, w₁, hq, harr⟩ := h b (.inScope c :: k) cs hro hb hr
  cases e with
  | normal =>
    have s1 : step P (lone (b.atR a₁ (.inScope c :: k)) cs w₁) = .next (lone (b.atR a₁ k) cs w₁) := step_lone_go (by simp [stepG, stepG.exec, Frame.atR])
    exact ⟨.normal, a₁, w₁, hq, .head h0 s0 (StepsIn.trans harr (.one (fenced_calm hb hr rfl) s1))⟩
  | exit id' =>
    have hx : exitTo id' (.inScope c :: k) = exitTo id' k := by simp [exitTo]
    exact ⟨.exit id', a₁, w₁, hq, fun k' hk => .head h0 s0 (harr.1 k' (by rw [hx]; exact hk)),
      fun hr' hk => let ⟨k₁, h1, h2⟩ := harr.2 hr' (by rw [hx]; exact hk); ⟨k₁, h1, .head h0 s0 h2⟩⟩
  | goto l => exact hq.elim
  | ret => exact ⟨_, a₁, w₁, hq, .of_steps (.one h0 s0) harr⟩
  | panic ch => exact ⟨_, a₁, w₁, hq, .of_steps (.one h0 s0) harr⟩
  | outgrown => exact ⟨_, a₁, w₁, hq, .of_steps (.one h0 s0) harr⟩

section
variable (hE : ProgOk E P) {r : Option Nat} {n B : Nat}
include hE

omit hE in
theorem rangeFunc_sound {g : Operand} {ps : Array Tmp} {assign body : Code} {Q : Exit → KT} {T : List V} {H : List O} {I : Nat → Prop} {η : Eta} {w : World} {a : Act} (h : exec (sys P) E B (.rangeFunc g ps assign body) Q T H) (hg : Good I η w T H a) :
    (Code.rangeFunc g ps assign body).wpIn (Fw none) n P (fun e a' w' => AfterM B I (own η H) w a.defers (Q e) a' w') a w := by
  simp only [exec] at h
  split at h
  · rename_i f first cap hf
    rw [lenK_eq, pushK_eq, forceL_eq, app_eq] at h
    have hfd := ev0_den hg.tmp g
    rw [hf] at hfd
    obtain ⟨as, bs, hfv, had, hbd⟩ := hfd
    unfold sys Callee at h
    obtain ⟨⟨fn, hfn, hnm, hbody⟩, hcall⟩ := h
    refine wpIn_rangeFunc ?_
    intro fid _
    obtain ⟨s1, s2, s3⟩ := hg.sat.aside (.deferred (some []))
    have hsz1 : (w.alloc (.deferred (some []))).heap.size = w.heap.size + 1 := by rw [World.alloc_heap]; simp
    have hlist : ∀ st, lrec fid a.tmps ps.toList assign body w.heap.size st = lrec fid a.tmps ps.toList assign body w.heap.size st := fun _ => rfl
    obtain ⟨t1, t2, t3⟩ := s1.push (.loop (lrec fid a.tmps ps.toList assign body w.heap.size .ready)) (.loop T ps.toList assign body .ready) 0
      ⟨_, _, fid, a.tmps, w.heap.size, rfl, World.alloc_heap_new _ _, DenL.mono (s2.trans ⟨fun id e he _ => by rw [List.getElem?_append_left (List.getElem?_eq_some_iff.1 he).1]; exact he, fun _ hb => hb, fun b hb => alloc_old (by have := hg.sat.ilt b hb; rw [hsz1]; omega)⟩) _ _ hg.tmp.list⟩
    rw [hsz1] at t1 t2 t3
    obtain ⟨w1, hw1⟩ : ∃ w1, (w.alloc (.deferred (some []))).alloc (.loop (lrec fid a.tmps ps.toList assign body w.heap.size .ready)) = w1 := ⟨_, rfl⟩
    rw [hw1] at t1 t2 t3
    have hen : (Instr.enterLoop fid a.tmps ps assign body none).run P w = .ok (w.heap.size + 1, [mark w.heap.size]) w1 := by
      rw [run_enterLoop_outer, ← hw1]
      simp [lrec, mark]
    have hb' : fn.body.isNone = false := hbody
    refine ⟨w.heap.size + 1, [mark w.heap.size], w1, { target := .fn (.func f) bs.toArray, args := as.toArray ++ #[.func (.yield (w.heap.size + 1)) #[] #[]] }, w1, f,
      (as ++ (.func (.yield (w.heap.size + 1)) #[] #[] :: bs)).toArray, w1, hen, ?_, fun _ _ => trivial, ?_, fun h => by simp [Fw] at h, ?_⟩
    · simp only [resolve, hfv, Deferred.ofValue, Sem.run_pure]
      simp [go_sem]
    · simp only [invoke, callFunc, Sem.run_bind, run_program, hfn, hnm, hb', Result.andThen_ok]
      simp
    · have hall : DenL I (η ++ [(some (w.heap.size + 1), 0)]) w1 (first ++ (.yld H.length :: cap)) (as ++ (.func (.yield (w.heap.size + 1)) #[] #[] :: bs)) := by
        refine (DenL.mono (s2.trans t2) _ _ had).append ⟨_, _, rfl, ⟨w.heap.size + 1, 0, ?_, rfl⟩, DenL.mono (s2.trans t2) _ _ hbd⟩
        rw [← hg.sat.len]; simp
      refine calls_fw ((hcall I _ w1 _ t1 hall).mono ?_)
      rintro e w3 ⟨I', η', H', ret, v, rfl, hk, hs, hden, hm, hr⟩
      have hηl : η'[H.length]? = some (some (w.heap.size + 1), 0) := hm.eta _ _ (by rw [← hg.sat.len]; simp) (by simp)
      have hD1 : w1.heap[w.heap.size]? = some (.deferred (some [])) := by rw [← hw1, World.alloc_heap, World.alloc_heap]; simp [Array.getElem?_push]
      have hDW : ¬ own (η ++ [(some (w.heap.size + 1), 0)]) (H ++ [.loop T ps.toList assign body .ready]) w.heap.size := by
        intro hD
        rcases t3.wnew _ hD with hD | hD
        · have := hg.sat.lt _ hD; omega
        · rw [hsz1] at hD; omega
      have m1 : Marks w.heap.size I (own (η ++ [(some (w.heap.size + 1), 0)]) (H ++ [.loop T ps.toList assign body .ready])) w1 [w.heap.size] :=
        ⟨by simp, fun D hD => by rw [List.mem_singleton.1 hD]; exact ⟨Nat.le_refl _, hD1, hDW, fun hI => by have := hg.sat.ilt _ hI; omega⟩⟩
      have fin : ∀ (o : O) (st : LSt), get .gone H' H.length = o → (∃ T' ps' a' b', o = .loop T' ps' a' b' st) → st ≠ .busy → ∃ w4, (Instr.endLoop (w.heap.size + 1)).run P w3 = .ok (match st with | .done c => some c | _ => none) w4 ∧
          ∀ (K : KT), K T (set H' H.length .gone) → AfterM B I (own η H) w a.defers K { a with defers := [mark w.heap.size] ++ a.defers } w4 := by
        rintro o st ho ⟨T', ps', a', b', rfl⟩ hst
        have hH' := get_live ho trivial
        obtain ⟨bb, cc, fn', tmps', D', he, hbl, _⟩ := hs.obj _ _ _ hηl hH'
        cases he
        obtain ⟨k1, k2, k3⟩ := hs.kill hηl hH' trivial (.loop { lrec fn' tmps' ps' a' b' D' st with state := .exhausted })
        refine ⟨w3.putObj (w.heap.size + 1) (.loop { lrec fn' tmps' ps' a' b' D' st with state := .exhausted }), ?_, fun K hK => ?_⟩
        · have := run_endLoop (P := P) hbl (by cases st <;> simp_all [lrec])
          rw [this]
          cases st <;> simp_all [lrec]
        · rw [set_eq] at hK
          refine ⟨I', η', T, _, [w.heap.size], rfl, (m1.step (B := 0) hr.toB).step (B := 0) k3.toB, hK, ⟨k1, hg.tmp.mono (s2.trans (t2.trans (hm.trans k2)))⟩, ((s3.trans t3).trans (hr.trans k3)).toB⟩
      simp only [rangePost]
      split at hk
      · rename_i T' ps' a' b' hget
        rw [setK_eq] at hk
        obtain ⟨w4, h1, h2⟩ := fin _ .ready hget ⟨_, _, _, _, rfl⟩ (by simp)
        exact ⟨none, w4, h1, h2 _ hk⟩
      · rename_i T' ps' a' b' hget
        rw [setK_eq] at hk
        obtain ⟨w4, h1, h2⟩ := fin _ (.done .ret) hget ⟨_, _, _, _, rfl⟩ (by simp)
        exact ⟨some .ret, w4, h1, wpIn_ret (h2 _ hk)⟩
      · rename_i T' ps' a' b' id hget
        rw [setK_eq] at hk
        obtain ⟨w4, h1, h2⟩ := fin _ (.done (.exit id)) hget ⟨_, _, _, _, rfl⟩ (by simp)
        exact ⟨some (.exit id), w4, h1, wpIn_exit (h2 _ hk)⟩
      · exact hk.elim
  · exact h.elim

theorem exec_sound : ∀ (c : Code) (Q : Exit → KT) (T : List V) (H : List O) (I : Nat → Prop) (η : Eta) (w : World) (a : Act), (r = none ∨ plainC c = true) → exec (sys P) E B c Q T H → Good I η w T H a →
    c.wpIn (Fw r) n P (fun e a' w' => AfterM B I (own η H) w a.defers (Q e) a' w') a w
  | .skip, Q, T, H, I, η, w, a, _, h, hg => wpIn_skip (After.toM ⟨rfl, I, η, T, H, h, hg, (Step.refl _ _ _).toB⟩)
  | .label _, Q, T, H, I, η, w, a, _, h, hg => wpIn_label (After.toM ⟨rfl, I, η, T, H, h, hg, (Step.refl _ _ _).toB⟩)
  | .ret, Q, T, H, I, η, w, a, _, h, hg => wpIn_ret (After.toM ⟨rfl, I, η, T, H, h, hg, (Step.refl _ _ _).toB⟩)
  | .exit id, Q, T, H, I, η, w, a, _, h, hg => wpIn_exit (After.toM ⟨rfl, I, η, T, H, h, hg, (Step.refl _ _ _).toB⟩)
  | .region id ops false, Q, T, H, I, η, w, a, _, h, hg => by
    simp only [exec] at h
    exact wpIn_region_list (execOps_sound (relOk_step B) hE.env (fun a' w' hq => After.toM hq) ops.toList T H I η w a h hg rfl (Step.refl _ _ _).toB)
  | .region id ops true, Q, T, H, I, η, w, a, _, h, hg => by
    simp only [exec] at h
    exact draw_sound (relOk_step B) hE.env hE.mixed h hg (fun a' w' hq => After.toM hq)
  | .seq x y, Q, T, H, I, η, w, a, hp, h, hg => by
    simp only [exec] at h
    have hp1 : r = none ∨ plainC x = true := hp.imp id (fun h => by simp only [plainC, Bool.and_eq_true] at h; exact h.1)
    have hp2 : r = none ∨ plainC y = true := hp.imp id (fun h => by simp only [plainC, Bool.and_eq_true] at h; exact h.2)
    refine wpIn_seq (wpIn_mono (exec_sound x _ T H I η w a hp1 h hg) ?_)
    rintro e a' w' ⟨I', η', T', H', Ds, hd, hm, hq, hg', hr⟩
    cases e with
    | normal =>
      refine wpIn_mono (exec_sound y Q T' H' I' η' w' a' hp2 hq hg') ?_
      intro e a'' w'' h2
      exact AfterM.trans hd hm hr h2
    | _ => exact ⟨I', η', T', H', Ds, hd, hm, hq, hg', hr⟩
  | .cond c x y, Q, T, H, I, η, w, a, hp, h, hg => by
    have hp1 : r = none ∨ plainC x = true := hp.imp id (fun h => by simp only [plainC, Bool.and_eq_true] at h; exact h.1)
    have hp2 : r = none ∨ plainC y = true := hp.imp id (fun h => by simp only [plainC, Bool.and_eq_true] at h; exact h.2)
    simp only [exec] at h
    have hc := ev0_den hg.tmp c
    split at h
    · rename_i hv
      rw [hv] at hc
      exact wpIn_cond_true hc (exec_sound x Q T H I η w a hp1 h hg)
    · rename_i hv
      rw [hv] at hc
      exact wpIn_cond_false hc (exec_sound y Q T H I η w a hp2 h hg)
    · rename_i p d hv
      rw [hv] at hc
      refine wpIn_cond_split hc (fun ht => ?_) (fun hf => ?_)
      · exact exec_sound x Q T H I η w a hp1 (h.1 (by simpa using ht)) hg
      · exact exec_sound y Q T H I η w a hp2 (h.2 (by simpa using hf)) hg
    · exact h.elim
  | .block id c, Q, T, H, I, η, w, a, hp, h, hg => by
    simp only [exec] at h
    refine wpIn_block (wpIn_mono (exec_sound c _ T H I η w a hp h hg) ?_)
    rintro e a' w' ⟨I', η', T', H', Ds, hd, hm, hq, hg', hr⟩
    cases e with
    | exit j =>
      simp only [cond_eq_ite] at hq
      simp only [Exit.inBlock]
      split at hq
      · rename_i hj
        rw [if_pos (beq_true hj)]
        exact ⟨I', η', T', H', Ds, hd, hm, hq, hg', hr⟩
      · rename_i hj
        have : ¬ j = id := fun e => hj (by rw [e]; simp)
        rw [if_neg this]
        exact ⟨I', η', T', H', Ds, hd, hm, hq, hg', hr⟩
    | _ => exact ⟨I', η', T', H', Ds, hd, hm, hq, hg', hr⟩
  | .loop c, Q, T, H, I, η, w, a, hp, h, hg => by
    simp only [exec] at h
    obtain ⟨T₀, h⟩ := havK_ex _ T _ h
    obtain ⟨ι, inv, m, ov, oh, ex, i₀, ⟨hinv, ρ, h0⟩, hround⟩ := h
    obtain ⟨ST, hST⟩ : ∃ ST : ι → List V, ∀ i K, ovrVK T₀ (ov i) K = K (ST i) := ⟨fun i => (ovrVK_ex (ov i) T₀).choose, fun i => (ovrVK_ex (ov i) T₀).choose_spec⟩
    obtain ⟨SG, hSG⟩ : ∃ SG : ι → List O, ∀ i K, ovrHK H (oh i) K = K (SG i) := ⟨fun i => (ovrHK_ex (oh i) H).choose, fun i => (ovrHK_ex (oh i) H).choose_spec⟩
    obtain ⟨SH, hSH⟩ : ∃ SH : ι → List O, ∀ i K, appK (SG i) (ex i) K = K (SH i) := ⟨fun i => (appK_ex (ex i) (SG i)).choose, fun i => (appK_ex (ex i) (SG i)).choose_spec⟩
    simp only [hST, hSG, hSH] at h0 hround
    obtain ⟨η₁, hg₁, hs₁⟩ := Ent_sound h0 hg
    refine wpIn_loop_ghost (fun k a' w' => ∃ i, inv i ∧ m i = k ∧ ∃ I' η' Ds, a'.defers = List.map mark Ds ++ a.defers ∧ Marks w.heap.size I' (own η' (SH i)) w' Ds ∧ Good I' η' w' (ST i) (SH i) a' ∧ StepB B I (own η H) w I' (own η' (SH i)) w') (m i₀)
      ⟨i₀, hinv, rfl, I, η₁, [], rfl, Marks.nil _ _ _ _, hg₁, hs₁⟩ ?_
    rintro k a' w' ⟨i, hi, rfl, I', η', Ds, hd, hm, hg', hr⟩
    refine wpIn_mono (exec_sound c _ (ST i) (SH i) I' η' w' a' hp (hround i hi) hg') ?_
    intro e a'' w'' hq0
    cases e with
    | normal =>
      obtain ⟨I'', η'', T'', H'', Ds', hd', hm', hq, hg'', hr'⟩ := AfterM.trans hd hm hr hq0
      obtain ⟨j, ⟨hj, hlt⟩, ρ', hent⟩ := hq
      obtain ⟨η₂, hg₂, hs₂⟩ := Ent_sound hent hg''
      exact ⟨m j, hlt, j, hj, rfl, I'', η₂, Ds', hd', hm'.step hs₂, hg₂, hr'.trans hs₂⟩
    | _ => exact AfterM.trans hd hm hr hq0
  | .rangeFunc g ps assign body, Q, T, H, I, η, w, a, hp, h, hg => by
    rcases hp with rfl | hp
    · exact rangeFunc_sound h hg
    · cases hp
  | .scope c, Q, T, H, I, η, w, a, hp, h, hg => by
    simp only [exec] at h
    refine wpIn_scope_straight (wpIn_mono (exec_sound c _ T H I η w a hp h hg) ?_)
    rintro e a' w' ⟨I', η', T', H', Ds, hd, hm, hq, hg', hr⟩
    cases e with
    | goto _ => exact hq.elim
    | _ => exact ⟨I', η', T', H', Ds, hd, hm, hq, hg', hr⟩
  | .goto _, _, _, _, _, _, _, _, _, h, _ => by simp only [exec] at h
  | .refuse _, _, _, _, _, _, _, _, _, h, _ => by simp only [exec] at h
end
end Go.Sx
