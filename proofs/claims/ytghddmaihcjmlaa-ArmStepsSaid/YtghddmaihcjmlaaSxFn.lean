/- Own work: a text of the proof of a law (SxFn). -/
import Derived.Test.YtghddmaihcjmlaaSxCall
namespace Go.Sx
open Go
variable {P : Program} {E : Env}

/-! ### function values -/
/-- a function that only makes new memory: its arguments, what is known of its result -/
def FnD (P : Program) {ι : Type} (args : ι → List V) (R : ι → V → Prop) (I : Nat → Prop) (w : World) (v : Value) : Prop :=
  ∃ g as bs, v = .func (.func g) as bs ∧ Plain P g ∧ ∀ (i : ι) (vals : List Value), (∀ b, I b → b < w.heap.size) → DenL I [] w (args i) vals → Calls P g (as ++ vals.toArray ++ bs) w fun e w' =>
    ∃ ret x, e = .returned x ∧ R i ret ∧ Den (fun b => w.heap.size ≤ b ∧ b < w'.heap.size) [] w' ret x ∧ Pres w w'

theorem scall_fn {ι : Type} {args : ι → List V} {R : ι → V → Prop} (i : ι) {as : List V} {H : List O} {K : V → List O → Prop} (ha : as = args i) (hfo : foL as = true) (hk : ∀ ret, R i ret → K ret H) : SCall P (FnD P args R) as H K := by
  unfold SCall
  subst ha
  intro I η w f vals hS hf hd
  obtain ⟨g, as, bs, rfl, hp, hc⟩ := hf.2 I w (fun _ h => h) (fun _ _ => rfl)
  refine ⟨g, as, bs, rfl, hp, (hc i vals hS.ilt (fo_nil_list _ _ hfo hd)).mono ?_⟩
  rintro e w' ⟨ret, x, rfl, hr, hden, hpr⟩
  obtain ⟨s1, s2, s3⟩ := hS.pres hpr
  refine ⟨grow I w w', η, H, ret, x, rfl, hk ret hr, s1, ?_, s2, s3⟩
  exact Den.mono ⟨fun _ _ he _ => by simp at he, fun b hb => .inr hb, fun _ _ => rfl⟩ _ _ hden

/-- a function value is as told, by the contract of its function -/
theorem semOb_fn {ι : Type} {args : ι → List V} {R : ι → V → Prop} {keep : Bool} {H : List O} {g : FuncId} {a b a' b' : List V} (hc : ∀ i, PureC P g false (a' ++ (args i ++ b')) (R i)) (hne : Plain P g) (hv : rEntL keep H a a' (rEntL keep H b b' True)) :
    SemOb keep H (.fn (.func g) a b) (FnD P args R) := by
  intro I J η w v hO hJ hI hd
  obtain ⟨as, bs, rfl, h1, h2⟩ := hd
  obtain ⟨g1, g2⟩ := rEntL_sound hO hJ hI a a' _ as hv h1
  obtain ⟨g3, _⟩ := rEntL_sound hO hJ hI b b' _ bs g2 h2
  refine ⟨rfl, fun I' w' hI' hw' => ⟨g, as.toArray, bs.toArray, rfl, hne, fun i vals hlt hd => ?_⟩⟩
  have m : Mono J [] w I' [] w' := ⟨fun _ _ he _ => he, hI', hw'⟩
  have := (hc i).2 I' w' (as ++ (vals ++ bs)) hlt ((DenL.mono m _ _ g1).append (hd.append (DenL.mono m _ _ g3)))
  rw [show as.toArray ++ vals.toArray ++ bs.toArray = (as ++ (vals ++ bs)).toArray by simp]
  refine this.mono ?_
  rintro e w'' ⟨ret, x, rfl, hr, hden, hpr⟩
  exact ⟨ret, x, rfl, hr, Den.mono ⟨fun _ _ he _ => by simp at he, fun b hb => hb.elim (fun h => (Bool.false_ne_true h.1).elim) id, fun _ _ => rfl⟩ _ _ hden, hpr⟩

/-! ### rounds of loops over functions -/
def putAllK (T : List V) : List Nat → List V → (List V → Prop) → Prop
  | [], [], K => K T
  | d :: ds, v :: vs, K => setK T d v fun T => putAllK T ds vs K
  | _, _, _ => False

def loopSt (H : List O) (id : Nat) (st : LSt) (K : List O → Prop) : Prop :=
  match get .gone H id with
  | .loop T ps a b _ => setK H id (.loop T ps a b st) K
  | _ => False

def roundEnd (id : Nat) (K : V → List O → Prop) : Exit → KT
  | .normal, _, H => loopSt H id .ready fun H => K (.kb true) H
  | .ret, _, H => loopSt H id (.done .ret) fun H => K (.kb false) H
  | .exit j, _, H => loopSt H id (.done (.exit j)) fun H => K (.kb false) H
  | _, _, _ => False

def isReady (H : List O) (id : Nat) : Bool :=
  match get .gone H id with
  | .loop _ _ _ _ .ready => true
  | _ => false

/-- a round, by execution -/
def yieldX (S : Sys) (E : Env) (id : Nat) (args : List V) (H : List O) (K : V → List O → Prop) : Prop :=
  match get .gone H id with
  | .loop T ps assign body .ready => putAllK T ps args fun T' => lenK H fun B => exec S E B assign (fun e T1 H1 => match e with
      | .normal => bif isReady H1 id then loopSt H1 id .busy fun H2 => exec S E B body (roundEnd id K) T1 H2 else False
      | _ => False) T' H
  | _ => False

theorem putAllK_sound {I : Nat → Prop} {η : Eta} {w : World} : ∀ (ps : List Nat) (args : List V) (vals : List Value) (T : List V) (tmps : Array Value) (K : List V → Prop), putAllK T ps args K → DenL I η w args vals → SatT I η w T tmps →
    vals.length = ps.length ∧ ∃ T', K T' ∧ SatT I η w T' ((ps.zip vals).foldl (fun tmps (t, a) => tmps.setIfInBounds t a) tmps)
  | [], [], vals, T, tmps, K, h, hd, hT => by
    have hd : vals = [] := hd
    subst hd
    exact ⟨rfl, T, h, hT⟩
  | d :: ds, v :: vs, vals, T, tmps, K, h, hd, hT => by
    obtain ⟨x, r, rfl, h1, h2⟩ := hd
    simp only [putAllK] at h
    rw [setK_eq] at h
    have hp : SatT I η w (set T d v) (tmps.setIfInBounds d x) := by
      have := SatT.put (a := { tmps := tmps, defers := [] }) (dst := some d) hT h1
      simpa [Act.put] using this
    obtain ⟨g1, T', g2, g3⟩ := putAllK_sound ds vs r _ _ K h h2 hp
    exact ⟨by simp [g1], T', g2, by simpa using g3⟩
  | [], _ :: _, _, _, _, _, h, _, _ => h.elim
  | _ :: _, [], _, _, _, _, h, _, _ => h.elim

theorem loopSt_sound {I : Nat → Prop} {η : Eta} {w : World} {H : List O} {id b c : Nat} {st : LSt} {K : List O → Prop} (h : loopSt H id st K) (hS : Sat I η w H) (hη : η[id]? = some (some b, c)) :
    ∃ fn tmps ps assign body D st0, w.heap[b]? = some (.loop (lrec fn tmps ps assign body D st0)) ∧ (∃ T, get .gone H id = .loop T ps assign body st0) ∧ ∃ H', K H' ∧
      Sat I η (w.putObj b (.loop (lrec fn tmps ps assign body D st))) H' ∧ Mono I η w I η (w.putObj b (.loop (lrec fn tmps ps assign body D st))) ∧ Step I (own η H) w I (own η H') (w.putObj b (.loop (lrec fn tmps ps assign body D st))) := by
  unfold loopSt at h
  split at h
  · rename_i T ps a bd st0 hg
    rw [setK_eq, set_eq] at h
    have hH := get_live hg trivial
    obtain ⟨b', c', fn, tmps, D, he, hb, hd⟩ := hS.obj id _ _ hη hH
    cases he
    have hlt : b < w.heap.size := (Array.getElem?_eq_some_iff.1 hb).1
    obtain ⟨s1, s2, s3⟩ := hS.turn (w' := w.putObj b (.loop (lrec fn tmps ps a bd D st))) (o' := .loop T ps a bd st) hη hH trivial trivial rfl rfl rfl (by simp) (fun k hk => World.putObj_heap_other hk)
      (fun m => ⟨b, c, fn, tmps, D, rfl, World.putObj_heap_same hlt, DenL.mono m _ _ hd⟩)
    exact ⟨fn, tmps, ps, a, bd, D, st0, hb, ⟨T, hg⟩, _, h, s1, s2, s3⟩
  · exact h.elim

theorem ycall_exec (hE : ProgOk E P) {id : Nat} {args : List V} {H : List O} {K : V → List O → Prop} {T : List V} {ps : List Nat} {assign body : Code} (hg : get .gone H id = .loop T ps assign body .ready) (hpa : plainC assign = true) (hpb : plainC body = true)
    (hx : yieldX (sys P) E id args H K) : YCall P id args H K := by
  unfold YCall
  intro I η w vals hS hd
  unfold yieldX at hx
  rw [hg] at hx
  simp only at hx
  have hH := get_live hg trivial
  have hidl : id < H.length := (List.getElem?_eq_some_iff.1 hH).1
  have hη0 : η[id]? = some (η[id]'(by rw [hS.len]; exact hidl)) := List.getElem?_eq_getElem _
  obtain ⟨b, c, fn, tmps, D, he, hb, hdT⟩ := hS.obj id _ _ hη0 hH
  rw [he] at hη0
  have hT : SatT I η w T tmps := SatT.ofList hdT
  obtain ⟨hl, T', hx, hT'⟩ := putAllK_sound ps args vals T tmps _ hx hd hT
  refine ⟨b, c, fn, (ps.zip vals).foldl (fun tmps (t, a) => tmps.setIfInBounds t a) tmps, assign, body, hη0, ?_, ?_⟩
  · have := run_yield (P := P) (args := vals.toArray) hb (by simp [lrec, hl])
    simp only [invoke]
    rw [this]
    simp [lrec]
  · rw [lenK_eq] at hx
    refine roundIn_of_wpIn (F := Fw none) (n := 0) trivial ?_
    have h1 := exec_sound (r := some b) (n := 0) (B := H.length) hE assign _ T' H I η w { tmps := _, defers := [] } (.inr hpa) hx ⟨hS, hT'⟩
    refine wpIn_mono h1 ?_
    rintro e a1 w1 ⟨I1, η1, T1, H1, Ds, hds, hm, hq, hg1, hr1⟩
    have hη1 : η1[id]? = some (some b, c) := hr1.eta id _ hidl hη0 (by simp)
    cases e with
    | normal =>
      simp only [cond_eq_ite] at hq
      split at hq
      · rename_i hrd
        obtain ⟨fn2, tmps2, ps2, as2, bd2, D2, st2, hb2, ⟨T2, hget2⟩, H2, hx2, s1, s2, s3⟩ := loopSt_sound hq hg1.sat hη1
        have hst : st2 = .ready := by
          unfold isReady at hrd
          rw [hget2] at hrd
          cases st2 <;> first | rfl | cases hrd
        subst hst
        refine ⟨_, run_beginRound hb2 rfl, ?_⟩
        have h2 := exec_sound (r := some b) (n := 0) (B := H.length) hE body _ T1 H2 I1 η1 (w1.putObj b (.loop (lrec fn2 tmps2 ps2 as2 bd2 D2 .busy))) a1 (.inr hpb) hx2 ⟨s1, hg1.tmp.mono s2⟩
        refine wpIn_mono h2 ?_
        rintro e a3 w3 ⟨I3, η3, T3, H3, Ds3, hds3, hm3, hq3, hg3, hr3⟩
        have hη3 : η3[id]? = some (some b, c) := hr3.eta id _ hidl hη1 (by simp)
        have hB : StepB H.length I (own η H) w I3 (own η3 H3) w3 := (hr1.trans s3.toB).trans hr3
        have fin : ∀ (st : LSt) (j : Option Code) (bb : Bool), (∀ (fn : FuncId) (tmps : Array Value) (ps : List Nat) (as bd : Code) (D : Nat) (st0 : LSt), ({ lrec fn tmps ps as bd D st0 with state := if j.isNone then .ready else .done, pending := j } : Loop) = lrec fn tmps ps as bd D st) → j.isNone = bb → loopSt H3 id st (fun H => K (.kb bb) H) →
            ∃ v w', (Instr.endRound b j).run P w3 = .ok v w' ∧ (∃ I' η' H' ret v', Ending.returned v = .returned v' ∧ K ret H' ∧ Sat I' η' w' H' ∧ Den I' η' w' ret v' ∧ Mono I η w I' η' w' ∧ Step I (own η H) w I' (own η' H') w') := by
          intro st j bb hrec hbb hk
          obtain ⟨fn4, tmps4, ps4, as4, bd4, D4, st4, hb4, _, H4, hk4, t1, t2, t3⟩ := loopSt_sound hk hg3.sat hη3
          refine ⟨_, _, run_endRound j hb4, I3, η3, H4, .kb bb, .bool bb, by rw [hbb], hk4, ?_, ?_, ?_, ?_⟩
          · rw [hrec]; exact t1
          · rfl
          · rw [hrec]
            have hst := (hB.trans t3.toB).toStep (by show η.length ≤ _; rw [hS.len]; exact Nat.le_refl _)
            exact ⟨hst.eta, hst.imono, fun k hk => hst.block k (hS.ilt k hk) (fun hw => hS.notI k hw hk)⟩
          · rw [hrec]
            exact (hB.trans t3.toB).toStep (by show η.length ≤ _; rw [hS.len]; exact Nat.le_refl _)
        cases e with
        | normal => exact fin .ready none true (fun _ _ _ _ _ _ st0 => by cases st0 <;> rfl) rfl hq3
        | ret => exact fin (.done .ret) (some .ret) false (fun _ _ _ _ _ _ st0 => by cases st0 <;> rfl) rfl hq3
        | exit j => exact fin (.done (.exit j)) (some (.exit j)) false (fun _ _ _ _ _ _ st0 => by cases st0 <;> rfl) rfl hq3
        | goto _ => exact hq3.elim
        | panic _ => exact hq3.elim
        | outgrown => exact hq3.elim
      · exact hq.elim
    | _ => exact hq.elim

end Go.Sx
