/- Own work: a text of the proof of a law (SxEnt). -/
import Derived.Test.YtghddmaihcjmlaaSxExec
namespace Go.Sx
open Go
variable {P : Program} {E : Env}

section
variable {I : Nat → Prop} {η η' : Eta} {w : World} {ρ : Rn}

theorem isRn_spec {id' id : Nat} (h : isRn ρ id' id = true) : rn ρ id' = some id := by
  unfold isRn at h
  split at h
  · rename_i j hj; rw [hj, beq_true h]
  · cases h

structure Ren (ρ : Rn) (η η' : Eta) : Prop where
  to : ∀ (id' id : Nat) (e : Option Nat × Nat), rn ρ id' = some id → η[id]? = some e → η'[id']? = some e
  nil : ∀ (id' : Nat), rn ρ id' = none → rnLt ρ id' = true → η'[id']? = some (none, 0)

mutual
theorem vEnt_sound (hρ : Ren ρ η η') : ∀ (x y : V) (K : Prop) (v : Value), vEnt ρ x y K → Den I η w x v → Den I η' w y v ∧ K
  | .int k n, y, K, v, h, hd => by
    cases y <;> simp only [vEnt] at h
    case int =>
      split at h
      · rename_i hk; subst hk; obtain ⟨rfl, h⟩ := h; exact ⟨hd, h⟩
      · exact h.elim
    case any => exact ⟨trivial, h⟩
  | .prop p d, y, K, v, h, hd => by
    cases y <;> simp only [vEnt] at h
    case prop q e =>
      refine ⟨?_, h.2⟩
      rw [show v = _ from hd]
      simp only [Den]
      congr 1
      rw [Bool.eq_iff_iff]
      simp [h.1]
    case any => exact ⟨trivial, h⟩
  | .kb b, y, K, v, h, hd => by
    cases y <;> simp only [vEnt] at h
    case kb b' =>
      cases b <;> cases b' <;> first | exact ⟨hd, h⟩ | exact h.elim
    case prop q e =>
      cases b
      · refine ⟨?_, h.2⟩
        rw [show v = _ from hd]
        simp [Den, h.1]
      · refine ⟨?_, h.2⟩
        rw [show v = _ from hd]
        simp [Den, h.1]
    case any => exact ⟨trivial, h⟩
  | .ptr id off, y, K, v, h, hd => by
    cases y <;> simp only [vEnt] at h
    case ptr id' off' =>
      simp only [cond_eq_ite, Bool.and_eq_true] at h
      split at h
      · rename_i hc
        obtain rfl := beq_true hc.2
        obtain ⟨b, c, h1, h2⟩ := hd
        exact ⟨⟨b, c, hρ.to _ _ _ (isRn_spec hc.1) h1, h2⟩, h⟩
      · exact h.elim
    case any => exact ⟨trivial, h⟩
  | .eptr _ _ _ _, y, K, v, h, hd => by
    cases y <;> simp only [vEnt] at h
    case any => exact ⟨trivial, h⟩
  | .iptr cs, y, K, v, h, hd => by
    cases y <;> simp only [vEnt] at h
    case iptr => obtain ⟨rfl, h⟩ := h; exact ⟨hd, h⟩
    case any => exact ⟨trivial, h⟩
  | .sl sz n f, y, K, v, h, hd => by
    cases y <;> simp only [vEnt] at h
    case sl sz' n' f' =>
      obtain ⟨rfl, rfl, hf, h⟩ := h
      refine ⟨?_, h⟩
      rcases hd with hd | ⟨b, o, cap, h1, h2, h3⟩
      · exact .inl hd
      · refine .inr ⟨b, o, cap, h1, h2, fun i hi => ?_⟩
        rw [← hf i hi]
        exact h3 i hi
    case any => exact ⟨trivial, h⟩
  | .osl id n, y, K, v, h, hd => by
    cases y <;> simp only [vEnt] at h
    case osl id' n' =>
      simp only [cond_eq_ite] at h
      split at h
      · rename_i hc
        obtain ⟨rfl, h⟩ := h
        obtain ⟨e, h1, h2, h3⟩ := hd
        exact ⟨⟨e, hρ.to _ _ _ (isRn_spec hc) h1, h2, h3⟩, h⟩
      · exact h.elim
    case any => exact ⟨trivial, h⟩
  | .map id, y, K, v, h, hd => by
    cases y <;> simp only [vEnt] at h
    case map id' =>
      simp only [cond_eq_ite] at h
      split at h
      · rename_i hc
        obtain ⟨b, c, h1, h2⟩ := hd
        exact ⟨⟨b, c, hρ.to _ _ _ (isRn_spec hc) h1, h2⟩, h⟩
      · exact h.elim
    case any => exact ⟨trivial, h⟩
  | .fn f a b, y, K, v, h, hd => by
    cases y <;> simp only [vEnt] at h
    case fn f' a' b' =>
      obtain ⟨rfl, h⟩ := h
      obtain ⟨as, bs, h1, h2, h3⟩ := hd
      obtain ⟨g1, g2⟩ := vEntL_sound hρ a a' _ as h h2
      obtain ⟨g3, g4⟩ := vEntL_sound hρ b b' _ bs g2 h3
      exact ⟨⟨as, bs, h1, g1, g3⟩, g4⟩
    case any => exact ⟨trivial, h⟩
  | .agg cs, y, K, v, h, hd => by
    cases y <;> simp only [vEnt] at h
    case agg cs' =>
      obtain ⟨vs, h1, h2, h3⟩ := hd
      obtain ⟨g1, g2⟩ := vEntL_sound hρ cs cs' _ vs h h3
      exact ⟨⟨vs, h1, h2, g1⟩, g2⟩
    case any => exact ⟨trivial, h⟩
  | .tup cs, y, K, v, h, hd => by
    cases y <;> simp only [vEnt] at h
    case tup cs' =>
      obtain ⟨vs, h1, h3⟩ := hd
      obtain ⟨g1, g2⟩ := vEntL_sound hρ cs cs' _ vs h h3
      exact ⟨⟨vs, h1, g1⟩, g2⟩
    case any => exact ⟨trivial, h⟩
  | .lit x, y, K, v, h, hd => by
    cases y <;> simp only [vEnt] at h
    case any => exact ⟨trivial, h⟩
    case lit x' =>
      obtain ⟨hx, hk⟩ := h
      subst hx
      exact ⟨hd, hk⟩
    case osl id' n' =>
      split at h
      · split at h
        · rename_i hr
          simp only [cond_eq_ite] at h
          split at h
          · rename_i hlt
            obtain ⟨h0, hk⟩ := h
            subst h0
            exact ⟨⟨(none, 0), hρ.nil _ hr hlt, fun _ => ⟨rfl, rfl⟩, hd⟩, hk⟩
          · exact h.elim
        · exact h.elim
      · exact h.elim
  | .ite p u, y, K, v, h, hd => by
    cases y <;> simp only [vEnt] at h
    case ite q u' =>
      obtain ⟨rfl, rfl, hfo, h⟩ := h
      refine ⟨⟨fun hp => Den.mono (Mono.ofNil I η' w) _ _ (fo_nil u v hfo (hd.1 hp)), hd.2⟩, h⟩
    case any => exact ⟨trivial, h⟩
  | .sem D, y, K, v, h, hd => by
    cases y <;> simp only [vEnt] at h
    case sem D' => obtain ⟨rfl, h⟩ := h; exact ⟨hd, h⟩
    case any => exact ⟨trivial, h⟩
  | .yld id, y, K, v, h, hd => by
    cases y <;> simp only [vEnt] at h
    case yld id' =>
      simp only [cond_eq_ite] at h
      split at h
      · rename_i hc
        obtain ⟨b, c, h1, h2⟩ := hd
        exact ⟨⟨b, c, hρ.to _ _ _ (isRn_spec hc) h1, h2⟩, h⟩
      · exact h.elim
    case any => exact ⟨trivial, h⟩
  | .imap ks ka va dom val n, y, K, v, h, hd => by
    cases y <;> simp only [vEnt] at h
    case imap => obtain ⟨rfl, rfl, rfl, rfl, rfl, rfl, h⟩ := h; exact ⟨hd, h⟩
    case any => exact ⟨trivial, h⟩
  | .any, y, K, v, h, hd => by
    cases y <;> simp only [vEnt] at h
    case any => exact ⟨trivial, h⟩
termination_by x => SizeOf.sizeOf x
theorem vEntL_sound (hρ : Ren ρ η η') : ∀ (l m : List V) (K : Prop) (vs : List Value), vEntL ρ l m K → DenL I η w l vs → DenL I η' w m vs ∧ K
  | [], m, K, vs, h, hd => by
    cases m <;> simp only [vEntL] at h
    exact ⟨hd, h⟩
  | x :: l, m, K, vs, h, hd => by
    cases m with
    | nil => simp only [vEntL] at h
    | cons y m =>
      simp only [vEntL] at h
      obtain ⟨v, r, rfl, h1, h2⟩ := hd
      obtain ⟨g1, g2⟩ := vEnt_sound hρ x y _ v h h1
      obtain ⟨g3, g4⟩ := vEntL_sound hρ l m _ r g2 h2
      exact ⟨⟨v, r, rfl, g1, g3⟩, g4⟩
termination_by l => SizeOf.sizeOf l
end

theorem isGone_live {o : O} (h : o.live) : o.isGone = false := by cases o <;> first | rfl | exact h.elim

theorem noSome_spec {j : Nat} : ∀ {l : List (Option Nat)} {H : List O}, noSome j l H = true → ∀ (k : Nat) (o : O), l[k]? = some (some j) → H[k]? = some o → ¬ o.live
  | [], _, _, k, _, h, _ => by simp at h
  | some i :: l, [], h, _, _, _, _ => by simp [noSome] at h
  | none :: l, [], h, _, _, _, _ => by simp [noSome] at h
  | some i :: l, x :: H, h, k, o, hk, ho => by
    simp only [noSome, Bool.and_eq_true, Bool.or_eq_true, Bool.not_eq_true'] at h
    cases k with
    | zero =>
      simp at hk ho
      subst hk ho
      intro hl
      rcases h.1 with h1 | h1
      · rw [isGone_live hl] at h1; cases h1
      · simp at h1
    | succ k => exact noSome_spec h.2 k o (by simpa using hk) (by simpa using ho)
  | none :: l, x :: H, h, k, o, hk, ho => by
    cases k with
    | zero => simp at hk
    | succ k => simp only [noSome] at h; exact noSome_spec h k o (by simpa using hk) (by simpa using ho)

theorem distinct_spec : ∀ {l : List (Option Nat)} {H : List O}, distinct l H = true → ∀ (i k j : Nat) (o o' : O), l[i]? = some (some j) → l[k]? = some (some j) → H[i]? = some o → H[k]? = some o' → o.live → o'.live → i = k
  | [], _, _, i, _, _, _, _, h, _, _, _, _, _ => by simp at h
  | some a :: l, [], h, _, _, _, _, _, _, _, _, _, _, _ => by simp [distinct] at h
  | none :: l, [], h, _, _, _, _, _, _, _, _, _, _, _ => by simp [distinct] at h
  | some a :: l, x :: H, h, i, k, j, o, o', hi, hk, ho, ho', hl, hl' => by
    simp only [distinct, Bool.and_eq_true, Bool.or_eq_true] at h
    cases i with
    | zero =>
      simp at hi ho
      subst hi ho
      cases k with
      | zero => rfl
      | succ k =>
        rcases h.1 with h1 | h1
        · rw [isGone_live hl] at h1; cases h1
        · exact (noSome_spec h1 k o' (by simpa using hk) (by simpa using ho') hl').elim
    | succ i =>
      cases k with
      | zero =>
        simp at hk ho'
        subst hk ho'
        rcases h.1 with h1 | h1
        · rw [isGone_live hl'] at h1; cases h1
        · exact (noSome_spec h1 i o (by simpa using hi) (by simpa using ho) hl).elim
      | succ k => rw [distinct_spec h.2 i k j o o' (by simpa using hi) (by simpa using hk) (by simpa using ho) (by simpa using ho') hl hl']
  | none :: l, x :: H, h, i, k, j, o, o', hi, hk, ho, ho', hl, hl' => by
    cases i with
    | zero => simp at hi
    | succ i =>
      cases k with
      | zero => simp at hk
      | succ k => simp only [distinct] at h; rw [distinct_spec h i k j o o' (by simpa using hi) (by simpa using hk) (by simpa using ho) (by simpa using ho') hl hl']

theorem fixed_spec : ∀ (B i : Nat) (l : List (Option Nat)), fixed B i l = true → ∀ k, k < B → l[k]? = some (some (i + k))
  | 0, _, _, _, k, hk => by omega
  | B + 1, i, [], h, _, _ => by simp [fixed] at h
  | B + 1, i, none :: l, h, _, _ => by simp [fixed] at h
  | B + 1, i, some j :: l, h, k, hk => by
    simp only [fixed, Bool.and_eq_true] at h
    cases k with
    | zero => simp [beq_true h.1]
    | succ k =>
      have := fixed_spec B (i + 1) l h.2 k (by omega)
      simp only [List.getElem?_cons_succ]
      rw [this]
      congr 2
      omega

theorem oEnt_sound (hρ : Ren ρ η η') {o o' : O} {K : Prop} (h : oEnt ρ o o' K) (e : Option Nat × Nat) (ho : SatO I η w e o) : (SatO I η' w e o') ∧ K ∧ (o'.live → o.live) := by
  cases o' with
  | gone => cases o <;> simp only [oEnt] at h <;> exact ⟨trivial, h, fun hl => hl.elim⟩
  | cells ty' vs' =>
    cases o <;> simp only [oEnt] at h
    rename_i ty vs
    simp only [cond_eq_ite] at h
    split at h
    · rename_i hc
      obtain rfl := beq_true hc
      obtain ⟨b, c, rfl, xs, h1, h2, h3⟩ := ho
      obtain ⟨g1, g2⟩ := vEntL_sound hρ vs vs' _ xs h h3
      exact ⟨⟨b, c, rfl, xs, h1, h2, g1⟩, g2, fun _ => trivial⟩
    · exact h.elim
  | row ty' sz' n' f' nz' =>
    cases o <;> simp only [oEnt] at h
    rename_i ty sz n f nz
    simp only [cond_eq_ite, Bool.and_eq_true] at h
    split at h
    · rename_i hc
      obtain ⟨⟨hc1, hc2⟩, hc3⟩ := hc
      obtain rfl := beq_true hc1
      obtain rfl := beq_true hc2
      have hc3 : nz = nz' := by simpa using hc3
      subst hc3
      obtain ⟨rfl, hf, h⟩ := h
      obtain ⟨xs, h1, h2, h3, h4⟩ := ho
      exact ⟨⟨xs, h1, h2, h3, fun i hi => by rw [← hf i hi]; exact h4 i hi⟩, h, fun _ => trivial⟩
    · exact h.elim
  | map ks' ka' va' dom' val' n' g' =>
    cases o <;> simp only [oEnt] at h
    rename_i ks ka va dom val n g
    obtain ⟨rfl, rfl, rfl, rfl, hall, rfl, h⟩ := h
    obtain ⟨b, c, rfl, es, h1, h2⟩ := ho
    exact ⟨⟨b, c, rfl, es, h1, h2.turn (fun k hk => (allInts_spec hall k hk).1) (fun k vs hkl hkd hD => by rw [← (allInts_spec hall k hkl).2 hkd]; exact hD)⟩, h, fun _ => trivial⟩
  | mapx ks' ka' va' dom' val' =>
    cases o <;> simp only [oEnt] at h
    rename_i ks ka va dom val n g
    obtain ⟨rfl, rfl, rfl, hall, h⟩ := h
    obtain ⟨b, c, rfl, es, h1, h2⟩ := ho
    exact ⟨⟨n, g, b, c, rfl, es, h1, h2.turn (fun k hk => (allInts_spec hall k hk).1) (fun k vs hkl hkd hD => by rw [← (allInts_spec hall k hkl).2 hkd]; exact hD)⟩, h, fun _ => trivial⟩
  | iter mid' g' dom' done' =>
    cases o <;> simp only [oEnt] at h
    rename_i mid g dom done
    simp only [cond_eq_ite] at h
    split at h
    · rename_i hc
      obtain ⟨rfl, rfl, rfl, h⟩ := h
      obtain ⟨b, c, mb, c', rfl, h1, h2⟩ := ho
      exact ⟨⟨b, c, mb, c', rfl, hρ.to _ _ _ (isRn_spec hc) h1, h2⟩, h, fun _ => trivial⟩
    · exact h.elim
  | loop T' ps' a' b' st' =>
    cases o <;> simp only [oEnt] at h
    rename_i T ps a b st
    obtain ⟨rfl, rfl, rfl, rfl, h⟩ := h
    obtain ⟨b', c, fn, tmps, D, rfl, h1, h2⟩ := ho
    obtain ⟨g1, g2⟩ := vEntL_sound hρ T T' _ _ h h2
    exact ⟨⟨b', c, fn, tmps, D, rfl, h1, g1⟩, g2, fun _ => trivial⟩

theorem hEnt_sound (hρ : Ren ρ η η') {H : List O} (hS : Sat I η w H) : ∀ (r : List (Option Nat)) (l : List O) (K : Prop), hEnt ρ H r l K → r.length = l.length ∧ K ∧
    ∀ (k : Nat) (o' : O), l[k]? = some o' → (∀ (id : Nat), r[k]? = some (some id) → (o'.live → ∃ o, H[id]? = some o ∧ o.live) ∧ (∀ e, η[id]? = some e → SatO I η' w e o')) ∧ (r[k]? = some none → SatO I η' w (none, 0) o' )
  | [], [], K, h => ⟨rfl, h, fun k o' hk => by simp at hk⟩
  | [], _ :: _, K, h => by simp only [hEnt] at h
  | some id :: r, [], K, h => by simp only [hEnt] at h
  | none :: r, [], K, h => by simp only [hEnt] at h
  | some id :: r, o' :: l, K, h => by
    simp only [hEnt] at h
    have hk : hEnt ρ H r l K := by
      cases hid : η[id]? with
      | some e =>
        have : id < H.length := by rw [← hS.len]; exact (List.getElem?_eq_some_iff.1 hid).1
        have hH : H[id]? = some (get .gone H id) := by rw [get_eq]; simp [this]
        exact (oEnt_sound hρ h e (hS.obj id e _ hid hH)).2.1
      | none =>
        have : ¬ id < H.length := by rw [← hS.len]; intro hl; rw [List.getElem?_eq_getElem hl] at hid; cases hid
        have hg : get .gone H id = .gone := by rw [get_eq]; simp [List.getElem?_eq_none (Nat.le_of_not_lt this)]
        rw [hg] at h
        cases o' <;> simp only [oEnt] at h
        exact h
    obtain ⟨h1, h2, h3⟩ := hEnt_sound hρ hS r l K hk
    refine ⟨by simp [h1], h2, fun k o'' hk' => ?_⟩
    cases k with
    | succ k => simpa using h3 k o'' (by simpa using hk')
    | zero =>
      simp at hk'
      subst hk'
      refine ⟨fun id' hid' => ?_, fun hid' => by simp at hid'⟩
      simp at hid'
      subst hid'
      refine ⟨fun hl => ?_, fun e he => ?_⟩
      · cases hid : H[id]? with
        | some o =>
          have hlt : id < η.length := by rw [hS.len]; exact (List.getElem?_eq_some_iff.1 hid).1
          have hgo : get .gone H id = o := by rw [get_eq, hid]; rfl
          rw [hgo] at h
          exact ⟨o, rfl, (oEnt_sound hρ h η[id] (hS.obj id _ o (by simp [hlt]) hid)).2.2 hl⟩
        | none =>
          have hg : get .gone H id = .gone := by rw [get_eq, hid]; rfl
          rw [hg] at h
          cases o' <;> simp only [oEnt] at h
          exact hl.elim
      · have hlt : id < H.length := by rw [← hS.len]; exact (List.getElem?_eq_some_iff.1 he).1
        have hH : H[id]? = some (get .gone H id) := by rw [get_eq]; simp [hlt]
        exact (oEnt_sound hρ h e (hS.obj id e _ he hH)).1
  | none :: r, o' :: l, K, h => by
    simp only [hEnt] at h
    have hk : hEnt ρ H r l K ∧ SatO I η' w (none, 0) o' := by
      cases o' <;> simp only [oNew] at h
      · obtain ⟨rfl, rfl, h⟩ := h
        refine ⟨h, [], ⟨by simp, .inl ⟨rfl, rfl⟩⟩, by simp, by simp, fun i hi => by omega⟩
      · exact ⟨h, trivial⟩
    obtain ⟨h1, h2, h3⟩ := hEnt_sound hρ hS r l K hk.1
    refine ⟨by simp [h1], h2, fun k o'' hk' => ?_⟩
    cases k with
    | succ k => simpa using h3 k o'' (by simpa using hk')
    | zero =>
      simp at hk'
      subst hk'
      exact ⟨fun id' hid' => by simp at hid', fun _ => hk.2⟩

def renEta (η : Eta) (ρ : List (Option Nat)) : Eta := ρ.map fun
  | some id => (η[id]?).getD (none, 0)
  | none => (none, 0)

theorem ren_renEta (η : Eta) (ρ : List (Option Nat)) : Ren (some ρ) η (renEta η ρ) := by
  constructor
  · intro id' id e h1 h2
    simp only [rn] at h1
    rw [get_eq] at h1
    have : ρ[id']? = some (some id) := by
      cases hx : ρ[id']? with
      | none => rw [hx] at h1; simp at h1
      | some y => rw [hx] at h1; simp at h1; rw [h1]
    simp [renEta, this, h2]
  · intro id' h1 h2
    simp only [rnLt] at h2
    have h2 := Nat.le_of_ble_eq_true h2
    rw [len_eq] at h2
    have h2 : id' < ρ.length := h2
    simp only [rn] at h1
    rw [get_eq] at h1
    have : ρ[id']? = some none := by
      rw [List.getElem?_eq_getElem h2] at h1 ⊢
      simp at h1
      rw [h1]
    simp [renEta, this]

theorem vEntL_k : ∀ (l m : List V) (K : Prop), (∀ vs, ¬ DenL I η w l vs) ∨ (∃ vs, DenL I η w l vs) := by
  intro l m K
  exact (Classical.em (∃ vs, DenL I η w l vs)).symm.imp (fun h vs hv => h ⟨vs, hv⟩) id

theorem denL_of : ∀ (T : List V) (l : List Value), T.length = l.length → (∀ i, Den I η w (get .any T i) ((l[i]?).getD undef)) → DenL I η w T l
  | [], l, hl, _ => by have : l = [] := List.eq_nil_of_length_eq_zero hl.symm; subst this; rfl
  | x :: T, [], hl, _ => by simp at hl
  | x :: T, v :: l, hl, h => ⟨v, l, rfl, by simpa [get] using h 0, denL_of T l (by simpa using hl) (fun i => by simpa [get] using h (i + 1))⟩

theorem SatT.list {T : List V} {tmps : Array Value} (h : SatT I η w T tmps) : DenL I η w T tmps.toList := by
  refine denL_of T tmps.toList (by simpa using h.1) (fun i => ?_)
  have := h.2 i
  rw [Array.getD_eq_getD_getElem?] at this
  simpa using this

theorem SatT.ofList {T : List V} {tmps : Array Value} (h : DenL I η w T tmps.toList) : SatT I η w T tmps := by
  refine ⟨by have := h.length; simpa using this.symm, fun i => ?_⟩
  rw [get_eq]
  cases hi : T[i]? with
  | none => simp [Den]
  | some c =>
    obtain ⟨v, h1, h2⟩ := h.getElem? i c hi
    have : tmps.getD i undef = v := by
      rw [Array.getD_eq_getD_getElem?, ← Array.getElem?_toList, h1]; rfl
    rw [this]
    exact h2

theorem Ent_sound {B : Nat} {T T' : List V} {H H' : List O} {a : Act} (h : Ent B ρ T H T' H') (hg : Good I η w T H a) : ∃ η', Good I η' w T' H' a ∧ StepB B I (own η H) w I (own η' H') w := by
  cases ρ with
  | none =>
    simp only [Ent] at h
    have hρ : Ren none η η := ⟨fun id' id e h1 h2 => by simp only [rn, Option.some.injEq] at h1; subst h1; exact h2, fun id' h1 => by simp [rn] at h1⟩
    obtain ⟨hT, rfl⟩ := vEntL_sound hρ T T' _ _ h hg.tmp.list
    exact ⟨η, ⟨hg.sat, SatT.ofList hT⟩, (Step.refl _ _ _).toB⟩
  | some ρ =>
  simp only [Ent, cond_eq_ite, Bool.and_eq_true] at h
  split at h
  · rename_i hdis
    obtain ⟨hfix, hdis⟩ := hdis
    have hfix := fixed_spec _ _ _ hfix
    have hρ := ren_renEta η ρ
    obtain ⟨hT, hH⟩ := vEntL_sound hρ T T' _ _ h hg.tmp.list
    obtain ⟨h1, _, h3⟩ := hEnt_sound hρ hg.sat ρ H' _ hH
    have hlen : (renEta η ρ).length = H'.length := by simp [renEta, h1]
    -- what stands behind an entry of the new state
    have back : ∀ (id' b c : Nat), (renEta η ρ)[id']? = some (some b, c) → ∃ id, ρ[id']? = some (some id) ∧ η[id]? = some (some b, c) := by
      intro id' b c hb
      simp only [renEta, List.getElem?_map, Option.map_eq_some_iff] at hb
      obtain ⟨x, hx, hb⟩ := hb
      cases x with
      | none => simp at hb
      | some id =>
        refine ⟨id, hx, ?_⟩
        simp only at hb
        cases he : η[id]? with
        | none => rw [he] at hb; simp at hb
        | some e => rw [he] at hb; simp at hb; rw [hb]
    have hown : ∀ b, own (renEta η ρ) H' b → own η H b := by
      rintro b ⟨id', c, o', g1, g2, g3⟩
      obtain ⟨id, k1, k2⟩ := back id' b c g1
      obtain ⟨o, k3, k4⟩ := ((h3 id' o' g2).1 id k1).1 g3
      exact ⟨id, c, o, k2, k3, k4⟩
    refine ⟨renEta η ρ, ⟨⟨hlen, ?_, ?_, fun b hb => hg.sat.notI b (hown b hb), fun b hb => hg.sat.lt b (hown b hb), hg.sat.ilt⟩, SatT.ofList hT⟩,
      ⟨rfl, rfl, rfl, Nat.le_refl _, fun _ _ _ => rfl, fun _ hb => hb, fun _ hb => .inl hb, fun b hb => .inl (hown b hb), fun id e hB he _ => by
        have := hfix id hB
        rw [Nat.zero_add] at this
        have he : η[id]? = some e := he
        show (renEta η ρ)[id]? = some e
        simp [renEta, this, he]⟩⟩
    · intro id' e o' g1 g2
      obtain ⟨k1, k2⟩ := h3 id' o' g2
      simp only [renEta, List.getElem?_map, Option.map_eq_some_iff] at g1
      obtain ⟨x, hx, g1⟩ := g1
      cases x with
      | none => simp at g1; subst g1; exact k2 hx
      | some id =>
        simp only at g1
        cases he : η[id]? with
        | some e' =>
          rw [he] at g1
          simp at g1
          subst g1
          exact (k1 id hx).2 e' he
        | none =>
          rw [he] at g1
          simp at g1
          subst g1
          by_cases hl : o'.live
          · obtain ⟨o, k3, k4⟩ := (k1 id hx).1 hl
            have : id < η.length := by rw [hg.sat.len]; exact (List.getElem?_eq_some_iff.1 k3).1
            rw [List.getElem?_eq_getElem this] at he
            cases he
          · cases o' <;> first | exact (hl trivial).elim | trivial
    · intro j j' b c c' o o' g1 g2 g3 g4 l1 l2
      obtain ⟨id, k1, k2⟩ := back j b c g1
      obtain ⟨id2, k3, k4⟩ := back j' b c' g2
      obtain ⟨o1, m1, m2⟩ := ((h3 j o g3).1 id k1).1 l1
      obtain ⟨o2, m3, m4⟩ := ((h3 j' o' g4).1 id2 k3).1 l2
      have := hg.sat.apart id id2 b c c' o1 o2 k2 k4 m1 m3 m2 m4
      subst this
      exact distinct_spec hdis j j' id o o' k1 k3 g3 g4 l1 l2
  · exact h.elim
end
end Go.Sx
