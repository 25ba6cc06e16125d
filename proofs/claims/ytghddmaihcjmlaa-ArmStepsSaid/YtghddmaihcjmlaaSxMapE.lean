/- Own work: a text of the proof of a law (SxMapE). -/
import Derived.Test.YtghddmaihcjmlaaSxMapD
namespace Go.Sx
open Go
variable {P : Program} {E : Env}

theorem ksEq_spec : ∀ {a b : List IntKind}, ksEq a b = true → a = b
  | [], [], _ => rfl
  | x :: a, y :: b, h => by
    simp only [ksEq, Bool.and_eq_true, decide_eq_true_eq] at h
    rw [h.1, ksEq_spec h.2]
  | [], _ :: _, h => by cases h
  | _ :: _, [], h => by cases h

theorem bEq_spec {a b : Bool} (h : bEq a b = true) : a = b := by cases a <;> cases b <;> first | rfl | cases h

theorem mapT_spec (hE : EnvOk E P) {t et : TypeId} {ks : List IntKind} {ka va : Bool} (h : mapT E t = some (ks, ka, va, et)) : ∃ kt, P.underlying t = some (.map kt et) ∧ KeyT P kt ks ka ∧ va = (E.ti et).agg ∧ (E.ti et).known = true := by
  unfold mapT at h
  split at h
  · rename_i kt et' hk hkind
    split at h
    · rename_i ks' hks hkn
      cases h
      obtain ⟨i, d, hi, hu, _, _, hkd, _, _⟩ := hE.info hk
      rw [hkd] at hkind
      have : d = .map kt et := by cases d <;> simp [kindOf] at hkind; rw [hkind.1, hkind.2]
      subst this
      exact ⟨kt, hu, keyT_of hE (by omega) hks, rfl, hkn⟩
    · cases h
  · cases h

theorem mapOf_spec {I : Nat → Prop} {η : Eta} {w : World} {H : List O} (hS : Objs I η w H) {x : V} {v : Value} (hd : Den I η w x v) {ks : List IntKind} {ka va : Bool} {dom : List Int → Prop} {val : List Int → List V} {n : Nat} (h : mapOf H x = some (ks, ka, va, dom, val, n)) :
    ∃ b es g, v = .map (some b) ∧ w.heap[b]? = some (.map es g.clock) ∧ MapRel (fun k vs => DenL I [] w (val k) vs) ks ka va dom n g es.toList := by
  unfold mapOf at h
  split at h
  · rename_i id
    split at h
    · rename_i hgt
      cases h
      obtain ⟨b, c, hη, rfl⟩ := hd
      obtain ⟨b', c', he, es, h1, h2⟩ := hS _ _ _ hη (get_live hgt trivial)
      cases he
      exact ⟨b, es, _, rfl, h1, h2⟩
    · cases h
  · cases h
    obtain ⟨b, es, g, rfl, _, h1, h2⟩ := hd
    exact ⟨b, es, g, rfl, h1, h2⟩
  · cases h

theorem pickD_den {I : Nat → Prop} {η : Eta} {w : World} {p : Prop} {a b c : V} {v : Value} (h : pickD p a b = some c) (h1 : p → Den I η w a v) (h2 : ¬ p → Den I η w b v) : Den I η w c v := by
  unfold pickD at h
  split at h
  · rename_i q x q' y
    simp only [cond_eq_ite] at h
    split at h
    · rename_i hq
      have hq : q = q' := by simpa using hq
      subst hq
      cases h
      by_cases hp : p
      · have := h1 hp
        simp only [Den] at this ⊢
        rw [this]; simp [hp]
      · have := h2 hp
        simp only [Den] at this ⊢
        rw [this]; simp [hp]
    · cases h
  · cases h

theorem pickDL_den {I : Nat → Prop} {η : Eta} {w : World} {p : Prop} : ∀ {a b c : List V} {vs : List Value}, pickDL p a b = some c → (p → DenL I η w a vs) → (¬ p → DenL I η w b vs) → DenL I η w c vs
  | [], [], c, vs, h, h1, h2 => by
    simp [pickDL] at h
    subst h
    by_cases hp : p
    · exact h1 hp
    · exact h2 hp
  | x :: a, y :: b, c, vs, h, h1, h2 => by
    simp only [pickDL] at h
    split at h
    · rename_i c0 r hc hr
      cases h
      have hvs : ∃ v rest, vs = v :: rest := by
        by_cases hp : p
        · obtain ⟨v, rest, e, _⟩ := h1 hp; exact ⟨v, rest, e⟩
        · obtain ⟨v, rest, e, _⟩ := h2 hp; exact ⟨v, rest, e⟩
      obtain ⟨v, rest, rfl⟩ := hvs
      refine ⟨v, rest, rfl, pickD_den hc (fun hp => ?_) (fun hp => ?_), pickDL_den hr (fun hp => ?_) (fun hp => ?_)⟩
      · obtain ⟨_, _, e, e1, _⟩ := h1 hp; cases e; exact e1
      · obtain ⟨_, _, e, e1, _⟩ := h2 hp; cases e; exact e1
      · obtain ⟨_, _, e, _, e1⟩ := h1 hp; cases e; exact e1
      · obtain ⟨_, _, e, _, e1⟩ := h2 hp; cases e; exact e1
    · cases h
  | [], _ :: _, _, _, h, _, _ => by simp [pickDL] at h
  | _ :: _, [], _, _, h, _, _ => by simp [pickDL] at h

theorem encV_den {I : Nat → Prop} {η : Eta} {w : World} {va : Bool} {cs : List V} {vs : List Value} (h1 : ∀ u ∈ vs, u.oneCell' = true) (hl : va = false → vs.length = 1) (hd : DenL I η w cs vs) : Den I η w (encVV va cs) (encV va vs) := by
  cases va with
  | true => exact ⟨vs, rfl, h1, hd⟩
  | false =>
    obtain ⟨v, rfl⟩ := List.length_eq_one_iff.1 (hl rfl)
    cases cs with
    | nil => cases hd
    | cons c cs =>
      obtain ⟨v', rest, e, e1, _⟩ := hd
      cases e
      exact e1

theorem zero_enc {z : Value} {ag : Bool} (h : ag = isAggV z) : z = encV ag z.cells.toList ∧ (ag = false → z.cells.toList.length = 1) := by
  subst h
  cases z <;> simp [isAggV, encV, Value.cells]

theorem lookupV_sound (hE : EnvOk E P) {I : Nat → Prop} {η : Eta} {w : World} {H : List O} (hS : Objs I η w H) (t : TypeId) {m x : V} {mv xv : Value} (hm : Den I η w m mv) (hx : Den I η w x xv) (c : Bool) : (lookupV E H t m x c).sound P I η w (Instr.lookup t mv xv c) := by
  unfold lookupV
  split
  · rename_i ks ka va et ks' ka' va' dom val n hT hM
    split
    · rename_i z k hz hk hq
      split
      · rename_i cs hcs
        simp only [Bool.and_eq_true] at hq
        obtain rfl := ksEq_spec hq.1.1
        obtain rfl := bEq_spec hq.1.2
        obtain rfl := bEq_spec hq.2
        obtain ⟨kt, hu, K, hva, hkn⟩ := mapT_spec hE hT
        obtain ⟨b, es, g, rfl, hb, hrel⟩ := mapOf_spec hS hm hM
        obtain ⟨rfl, hkl⟩ := keyV_den hk hx
        obtain ⟨i, d, hi, _, _, _, _, hze, _⟩ := hE.info hkn
        rw [hze] at hz
        obtain ⟨zv, hzv, rfl, hz1, _, hag⟩ := zeroOf_agg hz
        have hzr : (zeroValue et).run P w = .ok zv w := by simp [zeroValue, typeInfo, hi, hzv]
        obtain ⟨v, hrun, hyes, hno⟩ := look_run hrel K hu hb hzr hkl c
        obtain ⟨hze1, hze2⟩ := zero_enc hag
        have key : ∃ vs, v = encV va vs ∧ DenL I η w cs vs ∧ (∀ u ∈ vs, u.oneCell' = true) ∧ (va = false → vs.length = 1) := by
          by_cases hd : dom k
          · obtain ⟨vs, e1, e2, e3, e4⟩ := hyes hd
            exact ⟨vs, e1, pickDL_den hcs (fun _ => DenL.mono (Mono.ofNil I η w) _ _ e2) (fun hn => (hn hd).elim), e3, e4⟩
          · refine ⟨zv.cells.toList, ?_, pickDL_den hcs (fun hp => (hd hp).elim) (fun _ => den_ofC_list I η w _), hz1, ?_⟩
            · rw [hno hd, hva]; exact hze1
            · rw [hva]; exact hze2
        obtain ⟨vs, rfl, e2, e3, e4⟩ := key
        cases c with
        | true => exact ⟨_, hrun, _, rfl, _, _, rfl, encV_den e3 e4 e2, _, _, rfl, rfl, rfl⟩
        | false => exact ⟨_, hrun, encV_den e3 e4 e2⟩
      · trivial
    · trivial
  · trivial

theorem keyCells_den (I : Nat → Prop) (η : Eta) (w : World) : ∀ (ks : List IntKind) (k : List Int), DenL I η w (keyCells ks k) (keyVals ks k)
  | [], k => by simp [keyCells, keyVals, DenL]
  | _ :: _, [] => by simp [keyCells, keyVals, DenL]
  | q :: ks, a :: k => ⟨_, _, rfl, rfl, keyCells_den I η w ks k⟩

theorem keyVals_one : ∀ (ks : List IntKind) (k : List Int), ∀ u ∈ keyVals ks k, u.oneCell' = true
  | [], k, u, h => by simp [keyVals] at h
  | _ :: _, [], u, h => by simp [keyVals] at h
  | q :: ks, a :: k, u, h => by
    simp only [keyVals, List.mem_cons] at h
    rcases h with rfl | h
    · rfl
    · exact keyVals_one ks k u h

theorem encK_den (I : Nat → Prop) (η : Eta) (w : World) {ks : List IntKind} {ka : Bool} {k : List Int} (hf : ka = false → ks.length = 1) (hk : k.length = ks.length) : Den I η w (encKV ks ka k) (encK ks ka k) :=
  encV_den (va := ka) (keyVals_one ks k) (fun h => by rw [keyVals_length hk, hf h]) (keyCells_den I η w ks k)

theorem entryV_sound {I : Nat → Prop} {η : Eta} {w : World} {H : List O} (hS : Objs I η w H) {x : V} {xv : Value} (hx : Den I η w x xv) : (entryV H x).sound P I η w (Instr.entry xv) := by
  unfold entryV
  split
  · rename_i id
    split
    · rename_i mid g dom0 done hgt
      split
      · rename_i ks ka va dom val n g' k rest hgm
        rintro ⟨rfl, hd, hk⟩
        obtain ⟨b, c, hη, rfl⟩ := hx
        obtain ⟨b', c', mb, c2, he, hm, hr, _⟩ := hS _ _ _ hη (get_live hgt trivial)
        cases he
        obtain ⟨b2, c3, he2, es, h1, h2⟩ := hS _ _ _ hm (get_live hgm trivial)
        cases he2
        rw [List.reverse_cons] at hr
        obtain ⟨vs, e1, e2, e3, e4⟩ := entry_run (P := P) h2 h1 hr hk hd
        exact ⟨_, e1, _, rfl, _, _, rfl, encK_den I η w h2.flat hk, _, _, rfl, encV_den e3 e4 (DenL.mono (Mono.ofNil I η w) _ _ e2), rfl⟩
      · trivial
    · trivial
  · trivial
end Go.Sx
