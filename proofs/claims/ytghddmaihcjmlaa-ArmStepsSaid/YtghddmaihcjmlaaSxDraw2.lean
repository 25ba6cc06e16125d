/- Own work: a text of the proof of a law (SxDraw2). -/
import Derived.Test.YtghddmaihcjmlaaSxDraw
import Derived.OrdersIn
namespace Go.Sx
open Go
variable {P : Program} {E : Env}

theorem appK_eq {α : Type} : ∀ (l H : List α) (K : List α → Prop), appK H l K = K (H ++ l)
  | [], H, K => by simp [appK]
  | o :: l, H, K => by simp only [appK]; rw [pushK_eq, appK_eq l]; simp

theorem drawOp_ext {S : Sys} {ops : List Oper} {H : List O} {T : List V} {id : Nat} {o : Oper} {v : V} {ob : Option O} (h : drawOp S E ops H T id o (fun v' ob' => v' = v ∧ ob' = ob)) {x : Operand} {i : Nat} (hop : o.op = .extract x i) : ob = none := by
  unfold drawOp at h
  split at h
  · exact h.elim
  · exact h.2.symm
  · split at h
    · have hk := conds_k h
      rw [force_eq] at hk
      exact hk.2.symm
    · have hk := conds_k h.2
      rw [force_eq] at hk
      exact hk.2.symm
    · have hk := conds_k h
      rw [hop] at hk
      exact (show False from hk).elim
  · split at h
    · have hk := conds_k h
      unfold softV at hk
      split at hk
      · simp only [force_eq] at hk; exact hk.2.2.symm
      · simp only [force_eq] at hk; exact hk.2.symm
    · have hk := conds_k h.2
      unfold softV at hk
      split at hk
      · simp only [force_eq] at hk; exact hk.2.2.symm
      · simp only [force_eq] at hk; exact hk.2.symm
    · have hk := conds_k h
      rw [hop] at hk
      exact (show False from hk).elim

/-- the run of the first phase in the order of the text -/
theorem drawOps_tr {R : Rel} (hR : RelOk R) (hE : EnvOk E P) {ops : Array Oper} {H : List O} {K : List V → List O → Prop} : ∀ (rest : List Oper) (id : Nat) (T : List V) (L : List O), drawOps (sys P) E ops.toList H K rest id T L → id = H.length + L.length →
    ∃ (Ts : Nat → List V) (Ls : Nat → List O) (val : Nat → V) (ob : Nat → Option O), Ts 0 = T ∧ Ls 0 = L ∧ K (Ts rest.length) (Ls rest.length) ∧
      ∀ i o, rest[i]? = some o → ∃ d, o.dst = some d ∧ OpFact P R ops H o (Ts i) (H.length + (Ls i).length) (val i) (ob i) ∧ Ts (i + 1) = set (Ts i) d (val i) ∧ Ls (i + 1) = Ls i ++ (ob i).toList ∧ (∀ x k, o.op = .extract x k → ob i = none)
  | [], id, T, L, h, _ => ⟨fun _ => T, fun _ => L, fun _ => .any, fun _ => none, rfl, rfl, h, fun i o hi => by simp at hi⟩
  | o :: rest, id, T, L, h, hid => by
    unfold drawOps at h
    obtain ⟨v, ob, h1, h2⟩ := drawOp_ex h
    have hf := drawOp_fact hR hE h2
    cases hd : o.dst with
    | none => rw [hd] at h1; exact h1.elim
    | some d =>
      rw [hd] at h1
      simp only [setK_eq] at h1
      have fin : ∀ (id' : Nat) (L' : List O), drawOps (sys P) E ops.toList H K rest id' (set T d v) L' → id' = H.length + L'.length → L' = L ++ ob.toList → ∃ (Ts : Nat → List V) (Ls : Nat → List O) (val : Nat → V) (ob : Nat → Option O), Ts 0 = T ∧ Ls 0 = L ∧ K (Ts (o :: rest).length) (Ls (o :: rest).length) ∧
          ∀ i o', (o :: rest)[i]? = some o' → ∃ d, o'.dst = some d ∧ OpFact P R ops H o' (Ts i) (H.length + (Ls i).length) (val i) (ob i) ∧ Ts (i + 1) = set (Ts i) d (val i) ∧ Ls (i + 1) = Ls i ++ (ob i).toList ∧ (∀ x k, o'.op = .extract x k → ob i = none) := by
        intro id' L' h' hid' hL
        obtain ⟨Ts, Ls, val, obs, t0, l0, hk, hs⟩ := drawOps_tr hR hE rest id' (set T d v) L' h' hid'
        refine ⟨fun | 0 => T | i + 1 => Ts i, fun | 0 => L | i + 1 => Ls i, fun | 0 => v | i + 1 => val i, fun | 0 => ob | i + 1 => obs i, rfl, rfl, hk, ?_⟩
        intro i o' hi
        cases i with
        | zero =>
          simp at hi
          subst hi
          exact ⟨d, hd, by rw [← hid]; exact hf, t0, l0.trans hL, fun x k hx => drawOp_ext h2 hx⟩
        | succ i => exact hs i o' (by simpa using hi)
      cases ob with
      | none => exact fin id L h1 hid (by simp)
      | some b =>
        simp only [pushK_eq] at h1
        exact fin (id + 1) (L ++ [b]) h1 (by simp; omega) (by simp)

structure DOk (ops : Array Oper) (p : Nat) (zs : List Nat) : Prop where
  back : ∀ (i : Nat) (o : Oper), ops[i]? = some o → ∀ e ∈ o.after, Region.binds .any e = true → e.on < i
  apart : ∀ (i j : Nat) (o o' : Oper), i < p → j < p → ops[i]? = some o → ops[j]? = some o' → i ≠ j → o.dst ≠ o'.dst
  look : ∀ (i j : Nat) (o o' : Oper), i < p → j < p → ops[i]? = some o → ops[j]? = some o' → ∀ t ∈ looks ops.toList o, o'.dst = some t → j < i ∧ ∃ e ∈ o.after, Region.binds .any e = true ∧ e.on = j
  tail : ∀ j, j < ops.size → p ≤ j → ∀ i, i < j → i ∈ closure ops.toList (j + 1) j ∨ i ∈ zs
  le : p ≤ ops.size
  zlt : ∀ z ∈ zs, z < p
  zop : ∀ z ∈ zs, ∀ o, ops[z]? = some o → o.guard = none ∧ ∃ x i, o.op = .extract x i

theorem drawOk_spec {ops : Array Oper} {p : Nat} {zs : List Nat} (h : drawOkZ ops.toList p zs = true) : DOk ops p zs := by
  unfold drawOkZ at h
  simp only [Bool.and_eq_true, List.all_eq_true, List.mem_range] at h
  obtain ⟨⟨⟨⟨⟨h1, h2⟩, h3⟩, h4⟩, _⟩, h6⟩ := h
  refine ⟨?_, ?_, ?_, ?_, ?_, ?_, ?_⟩
  · intro i o hi e he hb
    have hlt : i < ops.toList.length := by simpa using (Array.getElem?_eq_some_iff.1 hi).1
    have := h1 i hlt
    have hi' : ops.toList[i]? = some o := by simpa using hi
    rw [hi'] at this
    simp only [List.all_eq_true] at this
    have := this e (by simpa using he)
    simpa [hb] using this
  · intro i j o o' hi hj ho ho' hne
    have := h2 i hi
    have ho1 : ops.toList[i]? = some o := by simpa using ho
    have ho2 : ops.toList[j]? = some o' := by simpa using ho'
    rw [ho1] at this
    simp only [List.all_eq_true, List.mem_range] at this
    have := this j hj
    rw [ho2] at this
    simp only [Bool.and_eq_true, Bool.or_eq_true] at this
    rcases this.1 with hh | hh
    · exact (hne (beq_true hh)).elim
    · intro heq; rw [heq] at hh; simp at hh
  · intro i j o o' hi hj ho ho' t ht hd
    have := h2 i hi
    have ho1 : ops.toList[i]? = some o := by simpa using ho
    have ho2 : ops.toList[j]? = some o' := by simpa using ho'
    rw [ho1] at this
    simp only [List.all_eq_true, List.mem_range] at this
    have := this j hj
    rw [ho2] at this
    simp only [Bool.and_eq_true, Bool.or_eq_true, List.all_eq_true] at this
    have := this.2 t ht
    rw [hd] at this
    simp only [beq_self_eq_true, Bool.not_true, Bool.false_eq_true, false_or, decide_eq_true_eq] at this
    refine ⟨this.1, ?_⟩
    have hh := this.2
    unfold hasEdge at hh
    simp only [List.any_eq_true, Bool.and_eq_true] at hh
    obtain ⟨e, he, hb, hon⟩ := hh
    exact ⟨e, by simpa using he, hb, beq_true hon⟩
  · intro j hj hp i hi
    have := h3 j (by simpa using hj)
    simp only [Bool.or_eq_true, decide_eq_true_eq, List.all_eq_true, List.mem_range] at this
    rcases this with hh | hh
    · omega
    · simpa using hh i hi
  · simpa using Nat.le_of_ble_eq_true h4
  · intro z hz
    simpa using (h6 z hz).1
  · intro z hz o ho
    have h7 := (h6 z hz).2
    have ho1 : ops.toList[z]? = some o := by simpa using ho
    rw [ho1] at h7
    simp only [isLazy, Bool.and_eq_true, Option.isNone_iff_eq_none] at h7
    refine ⟨h7.1, ?_⟩
    have h8 := h7.2
    cases hop : o.op <;> rw [hop] at h8 <;> first | exact ⟨_, _, rfl⟩ | cases h8

/-- closed under what must come before -/
def Down (ops : Array Oper) (l : Array Bool) : Prop := ∀ (i : Nat) (o : Oper), ops[i]? = some o → l.getD i false = true → ∀ e ∈ o.after, Region.binds .any e = true → l.getD e.on false = true

theorem closure_sub {ops : Array Oper} {l : Array Bool} (hd : Down ops l) : ∀ (n j : Nat) (o : Oper), ops[j]? = some o → (∀ e ∈ o.after, Region.binds .any e = true → l.getD e.on false = true) → ∀ i ∈ closure ops.toList n j, l.getD i false = true
  | 0, j, o, ho, he, i, hi => by simp [closure] at hi
  | n + 1, j, o, ho, he, i, hi => by
    unfold closure at hi
    have ho1 : ops.toList[j]? = some o := by simpa using ho
    rw [ho1] at hi
    simp only [List.mem_flatMap, List.mem_filter, List.mem_cons] at hi
    obtain ⟨e, ⟨he1, he2⟩, hi⟩ := hi
    have hl := he e (by simpa using he1) he2
    rcases hi with rfl | hi
    · exact hl
    · cases hoe : ops[e.on]? with
      | none =>
        cases n with
        | zero => simp [closure] at hi
        | succ n =>
          unfold closure at hi
          have : ops.toList[e.on]? = none := by simpa using hoe
          rw [this] at hi
          simp at hi
      | some o' => exact closure_sub hd n e.on o' hoe (hd e.on o' hoe hl) i hi

theorem count_set {l : Array Bool} {i m : Nat} (h : l.getD i true = false) (hc : l.count false = m + 1) : (l.setIfInBounds i true).count false = m := by
  have hlt : i < l.size := by
    rcases Nat.lt_or_ge i l.size with h' | h'
    · exact h'
    · simp [Array.getElem?_eq_none h'] at h
  have hi : l[i] = false := by simpa [hlt] using h
  rw [Array.setIfInBounds, dif_pos hlt, Array.count_set]
  simp [hi, hc]

theorem count_zero {l : Array Bool} (hc : l.count false = 0) (i : Nat) (hi : i < l.size) : l.getD i false = true := by
  rw [Array.count_eq_zero] at hc
  have : l[i] ≠ false := fun h => hc (by rw [← h]; exact Array.getElem_mem hi)
  simpa [hi] using this

theorem getD_tf {l : Array Bool} {i : Nat} (hi : i < l.size) : (l.getD i true = false ↔ ¬ l.getD i false = true) := by
  simp [hi]

theorem getD_set {l : Array Bool} {i j : Nat} (hi : i < l.size) : (l.setIfInBounds i true).getD j false = true ↔ j = i ∨ l.getD j false = true := by
  by_cases h : i = j
  · subst h; simp [hi]
  · rw [getD_set_ne false h]
    constructor
    · exact .inr
    · rintro (rfl | h'); exact (h rfl).elim; exact h'

/-- the least that is not listed is ready -/
theorem least_ready {ops : Array Oper} {p : Nat} {zs : List Nat} (hok : DOk ops p zs) {l : Array Bool} (hs : l.size = ops.size) : ∀ (i : Nat), i < ops.size → ¬ l.getD i false = true → Region.ready .any ops l ≠ [] := by
  intro i
  induction i using Nat.strongRecOn with
  | _ i ih =>
    intro hi hn
    by_cases hall : ∀ j, j < i → l.getD j false = true
    · have : i ∈ Region.ready .any ops l := by
        rw [mem_ready]
        refine ⟨(getD_tf (by omega)).2 hn, ops[i], by simp [hi], fun e he hb => ?_⟩
        exact hall _ (hok.back i ops[i] (by simp [hi]) e he hb)
      intro hnil
      rw [hnil] at this
      simp at this
    · simp only [Classical.not_forall] at hall
      obtain ⟨j, hj, hnj⟩ := hall
      exact ih j hj (by omega) hnj

/-- nothing is known of what may still come -/
def Clear (zo : List Oper) (T : List V) : Prop := ∀ o ∈ zo, ∀ d, o.dst = some d → get .any T d = .any

theorem get_set' {T : List V} {d : Nat} {v : V} {x : Nat} : get .any (set T d v) x = if x = d ∧ d < T.length then v else get .any T x := by
  rw [set_eq, get_eq, get_eq, List.getElem?_set]
  by_cases h : d = x
  · subst h
    by_cases hl : d < T.length
    · simp [hl]
    · simp [hl]
  · have : ¬ x = d := fun e => h e.symm
    simp [h, this]

theorem set_any {T : List V} {d : Nat} (h : get .any T d = .any) : set T d .any = T := by
  rw [set_eq]
  apply List.ext_getElem (by simp)
  intro x h1 h2
  rw [List.getElem_set]
  split
  · rename_i hx
    subst hx
    rw [get_eq, List.getElem?_eq_getElem h2] at h
    exact h.symm
  · rfl

theorem clrK_spec : ∀ {zo : List Oper} {T : List V} {K : List V → Prop}, clrK zo T K → ∃ T', K T' ∧ T'.length = T.length ∧ Clear zo T' ∧ (∀ x, get .any T' x = .any ∨ get .any T' x = get .any T x) ∧ (∀ x, get .any T x = .any → get .any T' x = .any)
  | [], T, K, h => ⟨T, h, rfl, fun o ho => by simp at ho, fun _ => .inr rfl, fun _ hx => hx⟩
  | o :: zo, T, K, h => by
    unfold clrK at h
    rw [putK_eq] at h
    obtain ⟨T', h1, h2, h3, h4, h5⟩ := clrK_spec h
    cases hd : o.dst with
    | none =>
      simp only [hd] at h2 h4 h5
      refine ⟨T', h1, h2, fun o' ho' d hd' => ?_, h4, h5⟩
      rcases List.mem_cons.1 ho' with rfl | ho'
      · rw [hd] at hd'; cases hd'
      · exact h3 o' ho' d hd'
    | some d =>
      simp only [hd] at h2 h4 h5
      have ha : get .any (set T d .any) d = .any := by
        rw [get_set']
        split
        · rfl
        · rename_i hn
          rw [get_eq, List.getElem?_eq_none (by omega)]
          rfl
      refine ⟨T', h1, h2.trans (by rw [set_eq]; simp), fun o' ho' d' hd' => ?_, fun x => ?_, fun x hx => h5 x ?_⟩
      · rcases List.mem_cons.1 ho' with rfl | ho'
        · rw [hd] at hd'
          cases hd'
          exact h5 d ha
        · exact h3 o' ho' d' hd'
      · by_cases hx : x = d
        · subst hx; exact .inl (h5 x ha)
        · rcases h4 x with g | g
          · exact .inl g
          · refine .inr (g.trans ?_)
            rw [get_set', if_neg (fun hh => hx hh.1)]
      · rw [get_set']
        split
        · rfl
        · exact hx

theorem SatT.loose {I : Nat → Prop} {η : Eta} {w : World} {T T' : List V} {tmps : Array Value} (h : SatT I η w T tmps) (hl : T'.length = T.length) (hx : ∀ x, get .any T' x = .any ∨ get .any T' x = get .any T x) : SatT I η w T' tmps := by
  refine ⟨by rw [hl]; exact h.1, fun i => ?_⟩
  rcases hx i with g | g
  · rw [g]; trivial
  · rw [g]; exact h.2 i

theorem zOk_k {T : List V} {H : List O} {K : Prop} : ∀ {zo : List Oper}, zOk E T H K zo → K
  | [], h => h
  | o :: zo, h => by
    unfold zOk at h
    split at h
    · exact zOk_k (conds_k h)
    · exact h.elim

theorem zOk_mem {T : List V} {H : List O} {K : Prop} : ∀ {zo : List Oper}, zOk E T H K zo → ∀ o ∈ zo, ∃ v, pureOp E T H o.op = .ok v ∧ ∀ x ∈ condOps o.op, There T x
  | [], _, o, ho => by simp at ho
  | o' :: zo, h, o, ho => by
    unfold zOk at h
    split at h
    · rename_i v hv
      obtain ⟨h1, h2⟩ := conds_true trivial h
      rcases List.mem_cons.1 ho with rfl | ho
      · exact ⟨v, hv, h1⟩
      · exact zOk_mem h2 o ho
    · exact h.elim

theorem execOpsZ_nil {S : Sys} {ops : List Oper} {K : KT} : ∀ (rest : List Oper), execOpsZ S E ops [] K rest = execOps S E ops K rest
  | [] => rfl
  | o :: rest => by
    have ih := execOpsZ_nil (S := S) (ops := ops) (K := K) rest
    funext T H
    have : execOpsZ S E ops [] K (o :: rest) T H = execOps S E ops (fun T' H' => execOpsZ S E ops [] K rest T' H') [o] T H := rfl
    rw [this, ih]
    rfl

section
variable {r : Option Nat} {n : Nat} {Q : Exit → Act → World → Prop}

/-- the tail, in the order of the text; in between, what none waits for -/
theorem tail_sound {R : Rel} (hR : RelOk R) (hE : EnvOk E P) {ops : Array Oper} {p : Nat} {zs : List Nat} {zo : List Oper} (hok : DOk ops p zs) (hzo : ∀ z ∈ zs, ∀ o, ops[z]? = some o → o ∈ zo) {K : KT} {I₀ : Nat → Prop} {W₀ : Own} {w₀ : World} {ds : List Deferred} (hQ : ∀ a w, After R I₀ W₀ w₀ ds K a w → Q .normal a w) :
    ∀ (m k : Nat) (l : Array Bool) (T : List V) (H : List O) (I : Nat → Prop) (η : Eta) (a : Act) (w : World), p ≤ k → k ≤ ops.size → l.size = ops.size → l.count false = m → Down ops l → (∀ j, j < ops.size → j ∉ zs → (l.getD j false = true ↔ j < k)) →
      execOpsZ (sys P) E ops.toList zo K (ops.toList.drop k) T H → Clear zo T → Good I η w T H a → a.defers = ds → R I₀ W₀ w₀ I (own η H) w → wpAnyIn (Fw r) n P .any ops Q m l a w
  | 0, k, l, T, H, I, η, a, w, hp, hk, hs, hc, hdn, hl, h, hcl, hg, hds, hr => by
    have hkn : k = ops.size := by
      rcases Nat.lt_or_ge k ops.size with h1 | h1
      · have := (hl k h1 (fun hz => by have := hok.zlt k hz; omega)).1 (count_zero hc k (by omega)); omega
      · omega
    subst hkn
    have : ops.toList.drop ops.size = [] := by simp
    rw [this] at h
    refine ⟨?_, hQ a w ⟨hds, I, η, T, H, zOk_k h, hg, hr⟩⟩
    apply List.eq_nil_iff_forall_not_mem.2
    intro j hj
    rw [mem_ready] at hj
    obtain ⟨h0, o, ho, _⟩ := hj
    have hlt := (Array.getElem?_eq_some_iff.1 ho).1
    exact (getD_tf (by omega)).1 h0 (count_zero hc j (by omega))
  | m + 1, k, l, T, H, I, η, a, w, hp, hk, hs, hc, hdn, hl, h, hcl, hg, hds, hr => by
    constructor
    · intro hnil
      have : ∃ i, i < ops.size ∧ ¬ l.getD i false = true := by
        have hm : false ∈ l := by
          apply Classical.byContradiction
          intro hm
          rw [← Array.count_eq_zero] at hm
          omega
        obtain ⟨i, hi, he⟩ := Array.mem_iff_getElem.1 hm
        exact ⟨i, by omega, by simp [hi, he]⟩
      obtain ⟨i, hi, hn⟩ := this
      exact (least_ready hok hs i hi hn hnil).elim
    · intro i hi
      rw [mem_ready] at hi
      obtain ⟨h0, o, ho, hall⟩ := hi
      have hlt := (Array.getElem?_eq_some_iff.1 ho).1
      have hdn' : Down ops (l.setIfInBounds i true) := by
        intro j o2 ho2 hj e he hb
        rw [getD_set (by omega)] at hj ⊢
        rcases hj with rfl | hj
        · rw [ho] at ho2; cases ho2
          exact .inr (hall e he hb)
        · exact .inr (hdn j o2 ho2 hj e he hb)
      unfold wpOpIn
      simp only [ho]
      by_cases hz : i ∈ zs
      · obtain ⟨hgd, x, ix, hop⟩ := hok.zop i hz o ho
        have hw : Region.wanted o (yielded ops a.tmps) = true := by simp [Region.wanted, hgd]
        rw [if_pos hw]
        have hzk : ∃ K', zOk E T H K' zo := by
          cases hrest : ops.toList.drop k with
          | nil => rw [hrest] at h; exact ⟨_, h⟩
          | cons o' rest => rw [hrest] at h; exact ⟨_, h⟩
        obtain ⟨K', hzk⟩ := hzk
        obtain ⟨v, hv, hth⟩ := zOk_mem hzk o (hzo i hz o ho)
        have hps := pureOp_sound (P := P) hE hg.sat.obj hg.tmp o hth
        rw [hv] at hps
        obtain ⟨y, e1, _⟩ := hps
        refine wpIn_value (by intro c hcd; rw [hop] at hcd; cases hcd) e1 ?_
        refine tail_sound hR hE hok hzo hQ m k (l.setIfInBounds i true) T H I η _ w hp hk (by simpa using hs) (count_set h0 hc) hdn' (fun j hj hjz => ?_) h hcl ⟨hg.sat, ?_⟩ ((Act.put_defers' _ _ _).trans hds) hr
        · rw [getD_set (by omega), hl j hj hjz]
          constructor
          · rintro (rfl | hh)
            · exact (hjz hz).elim
            · exact hh
          · exact .inr
        · have := hg.tmp.put (dst := o.dst) (v := .any) (x := y) trivial
          cases hd : o.dst with
          | none => rw [hd] at this; exact this
          | some d =>
            rw [hd] at this
            simp only [set_any (hcl o (hzo i hz o ho) d hd)] at this
            exact this
      · have hki : k ≤ i := by
          rcases Nat.lt_or_ge i k with h1 | h1
          · exact ((getD_tf (by omega)).1 h0 ((hl i hlt hz).2 h1)).elim
          · exact h1
        have hik : i = k := by
          rcases Nat.lt_or_ge k i with h1 | h1
          · have hkz : k ∉ zs := fun hh => by have := hok.zlt k hh; omega
            have := closure_sub hdn (i + 1) i o ho hall k ((hok.tail i hlt (by omega) k h1).resolve_right hkz)
            have := (hl k (by omega) hkz).1 this
            omega
          · omega
        subst hik
        have hdrop : ops.toList.drop i = o :: ops.toList.drop (i + 1) := by
          have hil : i < ops.toList.length := by simpa using hlt
          rw [List.drop_eq_getElem_cons hil]
          congr 1
          have : ops.toList[i]? = some o := by simpa using ho
          rw [List.getElem?_eq_getElem hil] at this
          exact Option.some.inj this
        rw [hdrop] at h
        have h1 := exec1_sound hR hE (r := r) (n := n) (Q := Q) (zOk_k h) hg
        have next : ∀ a' w', After R I (own η H) w a.defers (fun T' H' => clrK zo T' fun T'' => execOpsZ (sys P) E ops.toList zo K (ops.toList.drop (i + 1)) T'' H') a' w' → wpAnyIn (Fw r) n P .any ops Q m (l.setIfInBounds i true) a' w' := by
          rintro a' w' ⟨g1, I', η', T', H', g2, g3, g4⟩
          obtain ⟨T2, t1, t2, t3, t4, _⟩ := clrK_spec g2
          refine tail_sound hR hE hok hzo hQ m (i + 1) (l.setIfInBounds i true) T2 H' I' η' a' w' (by omega) (by omega) (by simpa using hs) (count_set h0 hc) hdn' (fun j hj hjz => ?_) t1 t3 ⟨g3.sat, g3.tmp.loose t2 t4⟩ (g1.trans hds) (hR.trans hr g4)
          rw [getD_set (by omega), hl j hj hjz]
          omega
        unfold Fin1 at h1
        split
        · rename_i hw
          rw [if_pos hw] at h1
          exact Oper.wpIn_mono next h1
        · rename_i hw
          rw [if_neg hw] at h1
          exact ⟨fun _ _ => trivial, next _ _ h1⟩
end

/-! ### what the state is when a set of the first phase has been carried out -/
section
variable {p : Nat} {dst : Nat → Nat} {val : Nat → V} {ob : Nat → Option O} {idn : Nat → Nat}

structure IsT (p : Nat) (dst : Nat → Nat) (val : Nat → V) (T₀ : List V) (S : Nat → Prop) (T : List V) : Prop where
  len : T.length = T₀.length
  on : ∀ i, i < p → S i → dst i < T₀.length → get .any T (dst i) = val i
  off : ∀ x, (∀ i, i < p → S i → dst i ≠ x) → get .any T x = get .any T₀ x

theorem IsT.zero {T₀ : List V} {S : Nat → Prop} (h : ∀ i, i < p → ¬ S i) : IsT p dst val T₀ S T₀ := ⟨rfl, fun i hi hs => (h i hi hs).elim, fun _ _ => rfl⟩

theorem IsT.add {T₀ T : List V} {S S' : Nat → Prop} (h : IsT p dst val T₀ S T) {i : Nat} (hi : i < p) (hap : ∀ j, j < p → j ≠ i → dst j ≠ dst i) (hS : ∀ j, S' j ↔ j = i ∨ S j) : IsT p dst val T₀ S' (set T (dst i) (val i)) := by
  refine ⟨by rw [set_eq]; simpa using h.len, ?_, ?_⟩
  · intro j hj hs hl
    rw [get_set']
    by_cases hji : j = i
    · subst hji; rw [if_pos ⟨rfl, by rw [h.len]; exact hl⟩]
    · rw [if_neg (fun hh => hap j hj hji hh.1)]
      exact h.on j hj (((hS j).1 hs).resolve_left hji) hl
  · intro x hx
    rw [get_set', if_neg (fun hh => hx i hi ((hS i).2 (.inl rfl)) hh.1.symm)]
    exact h.off x (fun j hj hs => hx j hj ((hS j).2 (.inr hs)))

theorem IsT.same {T₀ T T' : List V} {S S' : Nat → Prop} (h : IsT p dst val T₀ S T) (h' : IsT p dst val T₀ S' T') {x : Nat} (hS : ∀ i, i < p → dst i = x → (S i ↔ S' i)) : get .any T x = get .any T' x := by
  by_cases hx : ∃ i, i < p ∧ S i ∧ dst i = x
  · obtain ⟨i, hi, hs, rfl⟩ := hx
    by_cases hl : dst i < T₀.length
    · rw [h.on i hi hs hl, h'.on i hi ((hS i hi rfl).1 hs) hl]
    · rw [get_eq, get_eq, List.getElem?_eq_none (by rw [h.len]; omega), List.getElem?_eq_none (by rw [h'.len]; omega)]
  · have hx1 : ∀ i, i < p → S i → dst i ≠ x := fun i hi hs he => hx ⟨i, hi, hs, he⟩
    rw [h.off x hx1, h'.off x (fun i hi hs he => hx ⟨i, hi, (hS i hi he).2 hs, he⟩)]

theorem IsT.eq {T₀ T T' : List V} {S S' : Nat → Prop} (h : IsT p dst val T₀ S T) (h' : IsT p dst val T₀ S' T') (hS : ∀ i, i < p → (S i ↔ S' i)) : T = T' := by
  apply List.ext_getElem (by rw [h.len, h'.len])
  intro x h1 h2
  have := h.same h' (x := x) (fun i hi _ => hS i hi)
  rw [get_eq, get_eq, List.getElem?_eq_getElem h1, List.getElem?_eq_getElem h2] at this
  exact this

/-- the objects: those of before, and a place for each new one -/
structure IsH (p : Nat) (ob : Nat → Option O) (idn : Nat → Nat) (H₀ : List O) (N : Nat) (S : Nat → Prop) (H : List O) : Prop where
  len : H.length = H₀.length + N
  old : ∀ j, j < H₀.length → H[j]? = H₀[j]?
  on : ∀ i b, i < p → ob i = some b → S i → H[idn i]? = some b
  off : ∀ i b, i < p → ob i = some b → ¬ S i → H[idn i]? = some .gone

theorem IsH.eq {H₀ H H' : List O} {N : Nat} {S S' : Nat → Prop} (hcov : ∀ j, H₀.length ≤ j → j < H₀.length + N → ∃ i b, i < p ∧ ob i = some b ∧ idn i = j)
    (h : IsH p ob idn H₀ N S H) (h' : IsH p ob idn H₀ N S' H') (hS : ∀ i b, i < p → ob i = some b → S i) (hS' : ∀ i, i < p → S' i) : H = H' := by
  apply List.ext_getElem (by rw [h.len, h'.len])
  intro j h1 h2
  have : H[j]? = H'[j]? := by
    rcases Nat.lt_or_ge j H₀.length with hj | hj
    · rw [h.old j hj, h'.old j hj]
    · obtain ⟨i, b, hi, hb, rfl⟩ := hcov j hj (by rw [← h.len]; exact h1)
      rw [h.on i b hi hb (hS i b hi hb), h'.on i b hi hb (hS' i hi)]
  rw [List.getElem?_eq_getElem h1, List.getElem?_eq_getElem h2] at this
  exact Option.some.inj this
end
end Go.Sx
