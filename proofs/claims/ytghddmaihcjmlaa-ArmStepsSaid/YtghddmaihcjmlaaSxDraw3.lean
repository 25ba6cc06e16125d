/- Own work: a text of the proof of a law (SxDraw3). -/
import Derived.Test.YtghddmaihcjmlaaSxDraw2
namespace Go.Sx
open Go
variable {P : Program} {E : Env}

theorem draw_soundZ {R : Rel} (hR : RelOk R) (hE : EnvOk E P) (hm : P.follows .mixedOrders = true) {r : Option Nat} {n rid : Nat} {ops : Array Oper} {K : KT} {T : List V} {H : List O} {I : Nat → Prop} {η : Eta} {w : World} {a : Act} {Q : Exit → Act → World → Prop}
    {p : Nat} {zs : List Nat} {zo : List Oper} (hok : DOk ops p zs) (hzo : ∀ z ∈ zs, ∀ o, ops[z]? = some o → o ∈ zo)
    (h : drawOps (sys P) E ops.toList H (fun T' L => appK H L fun H' => openK H' fun H' => clrK zo T' fun T' => execOpsZ (sys P) E ops.toList zo K (drop p ops.toList) T' H') (take p ops.toList) H.length T [])
    (hg : Good I η w T H a) (hQ : ∀ a' w', After R I (own η H) w a.defers K a' w' → Q .normal a' w') : (Code.region rid ops true).wpIn (Fw r) n P Q a w := by
  obtain ⟨Ts, Ls, val, ob, t0, l0, hK, hstep⟩ := drawOps_tr hR hE _ _ T [] h (by simp)
  have hplen : (take p ops.toList).length = p := by rw [take_eq, List.length_take]; have := hok.le; simp; omega
  rw [hplen, appK_eq, drop_eq] at hK
  have hstep' : ∀ i, i < p → ∃ o d, ops[i]? = some o ∧ o.dst = some d ∧ OpFact P R ops H o (Ts i) (H.length + (Ls i).length) (val i) (ob i) ∧ Ts (i + 1) = set (Ts i) d (val i) ∧ Ls (i + 1) = Ls i ++ (ob i).toList ∧ (∀ x k, o.op = .extract x k → ob i = none) := by
    intro i hi
    have hlt : i < ops.size := by have := hok.le; omega
    obtain ⟨d, h1, h2, h3, h4, h5⟩ := hstep i ops[i] (by rw [take_eq, List.getElem?_take, if_pos hi]; simp [hlt])
    exact ⟨ops[i], d, by simp [hlt], h1, h2, h3, h4, h5⟩
  clear hstep h
  -- the destinations
  let dst : Nat → Nat := fun i => ((ops[i]?).bind (·.dst)).getD 0
  have hdst : ∀ i, i < p → ∃ o, ops[i]? = some o ∧ o.dst = some (dst i) ∧ OpFact P R ops H o (Ts i) (H.length + (Ls i).length) (val i) (ob i) ∧ Ts (i + 1) = set (Ts i) (dst i) (val i) ∧ Ls (i + 1) = Ls i ++ (ob i).toList ∧ (∀ x k, o.op = .extract x k → ob i = none) := by
    intro i hi
    obtain ⟨o, d, h1, h2, h3, h4, h5, h6⟩ := hstep' i hi
    have : dst i = d := by simp only [dst, h1]; simp [h2]
    exact ⟨o, h1, by rw [this]; exact h2, h3, by rw [this]; exact h4, h5, h6⟩
  clear hstep'
  have hap : ∀ i j, i < p → j < p → j ≠ i → dst j ≠ dst i := by
    intro i j hi hj hne he
    obtain ⟨o, h1, h2, _⟩ := hdst i hi
    obtain ⟨o', g1, g2, _⟩ := hdst j hj
    exact hok.apart j i o' o hj hi g1 h1 hne (by rw [h2, g2, he])
  have hTs : ∀ k, k ≤ p → IsT p dst val T (fun i => i < k) (Ts k) := by
    intro k
    induction k with
    | zero => intro _; rw [t0]; exact IsT.zero (fun i _ hi => by omega)
    | succ k ih =>
      intro hk
      obtain ⟨o, h1, h2, _, h4, _⟩ := hdst k (by omega)
      rw [h4]
      exact (ih (by omega)).add (by omega) (fun j hj hne => hap k j (by omega) hj hne) (fun j => by omega)
  let idn : Nat → Nat := fun i => H.length + (Ls i).length
  let N := (Ls p).length
  have hpre : ∀ i k, i ≤ k → k ≤ p → ∃ L, Ls k = Ls i ++ L := by
    intro i k
    induction k with
    | zero => intro hik _; have : i = 0 := by omega
              subst this; exact ⟨[], by simp⟩
    | succ k ih =>
      intro hik hk
      rcases Nat.lt_or_ge k i with h1 | h1
      · have : i = k + 1 := by omega
        subst this; exact ⟨[], by simp⟩
      · obtain ⟨L, hL⟩ := ih h1 (by omega)
        obtain ⟨o, _, _, _, _, h5, _⟩ := hdst k (by omega)
        exact ⟨L ++ (ob k).toList, by rw [h5, hL]; simp⟩
  have hidlt : ∀ i b, i < p → ob i = some b → ∀ k, i < k → k ≤ p → (Ls i).length < (Ls k).length := by
    intro i b hi hb k hik hk
    obtain ⟨L, hL⟩ := hpre (i + 1) k (by omega) hk
    obtain ⟨o, _, _, _, _, h5, _⟩ := hdst i hi
    rw [hL, h5, hb]
    simp
  have hidinj : ∀ i j b b', i < p → j < p → ob i = some b → ob j = some b' → idn i = idn j → i = j := by
    intro i j b b' hi hj hb hb' he
    simp only [idn] at he
    rcases Nat.lt_trichotomy i j with h1 | h1 | h1
    · have := hidlt i b hi hb j h1 (by omega); omega
    · exact h1
    · have := hidlt j b' hj hb' i h1 (by omega); omega
  have hcov : ∀ k, k ≤ p → ∀ j, j < (Ls k).length → ∃ i b, i < k ∧ ob i = some b ∧ (Ls i).length = j := by
    intro k
    induction k with
    | zero => intro _ j hj; rw [l0] at hj; simp at hj
    | succ k ih =>
      intro hk j hj
      obtain ⟨o, _, _, _, _, h5, _⟩ := hdst k (by omega)
      rw [h5] at hj
      rcases Nat.lt_or_ge j (Ls k).length with h1 | h1
      · obtain ⟨i, b, hi, hb, he⟩ := ih (by omega) j h1
        exact ⟨i, b, by omega, hb, he⟩
      · cases hb : ob k with
        | none => rw [hb] at hj; simp at hj; omega
        | some b => rw [hb] at hj; simp at hj; exact ⟨k, b, by omega, hb, by omega⟩
  have hcov' : ∀ j, H.length ≤ j → j < H.length + N → ∃ i b, i < p ∧ ob i = some b ∧ idn i = j := by
    intro j h1 h2
    obtain ⟨i, b, hi, hb, he⟩ := hcov p (Nat.le_refl _) (j - H.length) (by simp only [N] at h2; omega)
    exact ⟨i, b, hi, hb, by simp only [idn]; omega⟩
  have hfull : IsH p ob idn H N (fun _ => True) (H ++ Ls p) := by
    refine ⟨by simp [N], fun j hj => List.getElem?_append_left hj, ?_, fun i b _ _ hn => (hn trivial).elim⟩
    intro i b hi hb _
    obtain ⟨L, hL⟩ := hpre (i + 1) p (by omega) (Nat.le_refl _)
    obtain ⟨o, _, _, _, _, h5, _⟩ := hdst i hi
    rw [hL, h5, hb]
    simp only [idn]
    rw [List.getElem?_append_right (by omega)]
    simp
  have hzob : ∀ i, i < p → i ∈ zs → ob i = none := by
    intro i hi hz
    obtain ⟨o, h1, _, _, _, _, h6⟩ := hdst i hi
    obtain ⟨_, x, k, hop⟩ := hok.zop i hz o h1
    exact h6 x k hop
  -- the end of the phase
  have fin : ∀ (m : Nat) (l : Array Bool) (a' : Act) (w' : World) (I' : Nat → Prop) (η' : Eta) (T' : List V) (H' : List O), l.size = ops.size → l.count false = m → Down ops l → (∀ j, p ≤ j → j < ops.size → ¬ l.getD j false = true) → a'.defers = a.defers →
      (∀ i, i < p → i ∉ zs → l.getD i false = true) → Good I' η' w' T' H' a' → R I (own η H) w I' (own η' H') w' → IsT p dst val T (fun i => l.getD i false = true) T' → IsH p ob idn H N (fun i => l.getD i false = true) H' →
      wpAnyIn (Fw r) n P .any ops Q m l a' w' := by
    intro m l a' w' I' η' T' H' hs hc hdn htl hds hall hg' hr' hT hH
    have e2 : H' = H ++ Ls p := hH.eq hcov' hfull (fun i b hi hb => hall i hi (fun hz => by rw [hzob i hi hz] at hb; cases hb)) (fun _ _ => trivial)
    rw [e2] at hg' hr'
    obtain ⟨H2, hK2, hS2, how⟩ := openK_sound hg'.sat hK
    have heq : own η' H2 = own η' (H ++ Ls p) := by
      unfold own
      congr 1
      funext b
      exact propext (how b)
    obtain ⟨T2, k1, k2, k3, k4, _⟩ := clrK_spec hK2
    refine tail_sound hR hE hok hzo hQ m p l T2 H2 I' η' a' w' (Nat.le_refl _) hok.le hs hc hdn (fun j hj hjz => ⟨fun hh => ?_, fun hh => hall j hh hjz⟩) k1 k3 ⟨hS2, hg'.tmp.loose (k2.trans ((hTs p (Nat.le_refl _)).len.trans hT.len.symm)) (fun x => ?_)⟩ hds (by rw [heq]; exact hr')
    · rcases Nat.lt_or_ge j p with h1 | h1
      · exact h1
      · exact (htl j h1 hj hh).elim
    · by_cases hx : ∃ o ∈ zo, o.dst = some x
      · obtain ⟨o, ho, hd⟩ := hx
        exact .inl (k3 o ho x hd)
      · rcases k4 x with g | g
        · exact .inl g
        · refine .inr (g.trans ((hTs p (Nat.le_refl _)).same hT (fun i hi hix => ⟨fun _ => hall i hi (fun hz => ?_), fun _ => hi⟩)))
          obtain ⟨o, h1, h2, _⟩ := hdst i hi
          exact hx ⟨o, hzo i hz o h1, by rw [h2, hix]⟩
  -- the phase
  have phase : ∀ (m : Nat) (l : Array Bool) (a' : Act) (w' : World), l.size = ops.size → l.count false = m → Down ops l → (∀ j, p ≤ j → j < ops.size → ¬ l.getD j false = true) → a'.defers = a.defers →
      (∃ I' η' T' H', Good I' η' w' T' H' a' ∧ R I (own η H) w I' (own η' H') w' ∧ IsT p dst val T (fun i => l.getD i false = true) T' ∧ IsH p ob idn H N (fun i => l.getD i false = true) H' ∧ (∀ i b, i < p → ob i = some b → ¬ l.getD i false = true → η'[idn i]? = some (none, 1))) →
      wpAnyIn (Fw r) n P .any ops Q m l a' w' := by
    intro m
    induction m with
    | zero =>
      rintro l a' w' hs hc hdn htl hds ⟨I', η', T', H', hg', hr', hT, hH, _⟩
      exact fin 0 l a' w' I' η' T' H' hs hc hdn htl hds (fun i hi _ => count_zero hc i (by have := hok.le; omega)) hg' hr' hT hH
    | succ m ih =>
      rintro l a' w' hs hc hdn htl hds ⟨I', η', T', H', hg', hr', hT, hH, hη⟩
      by_cases hall : ∀ i, i < p → i ∉ zs → l.getD i false = true
      · exact fin (m + 1) l a' w' I' η' T' H' hs hc hdn htl hds hall hg' hr' hT hH
      · constructor
        · intro hnil
          simp only [Classical.not_forall] at hall
          obtain ⟨j, hj, _, hnj⟩ := hall
          exact (least_ready hok hs j (by have := hok.le; omega) hnj hnil).elim
        · intro i hi
          rw [mem_ready] at hi
          obtain ⟨h0, o, ho, hbefore⟩ := hi
          have hlt := (Array.getElem?_eq_some_iff.1 ho).1
          have hnl : ¬ l.getD i false = true := (getD_tf (by omega)).1 h0
          have hip : i < p := by
            rcases Nat.lt_or_ge i p with h1 | h1
            · exact h1
            · exfalso
              apply hall
              intro j hj hjz
              exact closure_sub hdn (i + 1) i o ho hbefore j ((hok.tail i hlt h1 j (by omega)).resolve_right hjz)
          obtain ⟨o', ho', hd, hfact, _, _, _⟩ := hdst i hip
          rw [ho] at ho'
          cases ho'
          have hag : ∀ x ∈ looks ops.toList o, get .any T' x = get .any (Ts i) x := by
            intro x hx
            refine hT.same (hTs i (by omega)) ?_
            intro j hj hjx
            obtain ⟨o2, k1, k2, _⟩ := hdst j hj
            obtain ⟨hji, e, he, hb, hon⟩ := hok.look i j o o2 hip hj ho k1 x hx (by rw [k2, hjx])
            exact ⟨fun _ => hji, fun _ => by rw [← hon]; exact hbefore e he hb⟩
          have hold : ∀ (j : Nat) (oo : O), H[j]? = some oo → H'[j]? = some oo := by
            intro j oo hj
            rw [hH.old j (List.getElem?_eq_some_iff.1 hj).1]; exact hj
          have := hfact r n Q I' η' w' a' T' H' hag hold hg' (fun hs => by
            cases hb : ob i with
            | none => rw [hb] at hs; cases hs
            | some b => exact ⟨hη i b hip hb hnl, hH.off i b hip hb hnl⟩)
          have next : ∀ (a'' : Act) (w'' : World), (a''.defers = a'.defers ∧ ∃ I'' η'', Good I'' η'' w'' (match o.dst with | some d => set T' d (val i) | none => T') (match ob i with | some b => H'.set (H.length + (Ls i).length) b | none => H') a'' ∧
              (∀ (j : Nat), j ≠ H.length + (Ls i).length → η''[j]? = η'[j]?) ∧ (ob i = none → η'' = η') ∧ R I' (own η' H') w' I'' (own η'' (match ob i with | some b => H'.set (H.length + (Ls i).length) b | none => H')) w'') → wpAnyIn (Fw r) n P .any ops Q m (l.setIfInBounds i true) a'' w'' := by
            rintro a'' w'' ⟨hds', I'', η'', hg'', hη1, hη2, hr''⟩
            refine ih (l.setIfInBounds i true) a'' w'' (by simpa using hs) (count_set h0 hc) ?_ ?_ (hds'.trans hds) ⟨I'', η'', _, _, hg'', hR.trans hr' hr'', ?_, ?_, ?_⟩
            · intro j o2 ho2 hj e he hb
              rw [getD_set (by omega)] at hj ⊢
              rcases hj with rfl | hj
              · rw [ho] at ho2; cases ho2
                exact .inr (hbefore e he hb)
              · exact .inr (hdn j o2 ho2 hj e he hb)
            · intro j h1 h2 h3
              rw [getD_set (by omega)] at h3
              rcases h3 with rfl | h3
              · omega
              · exact htl j h1 h2 h3
            · rw [hd]
              exact hT.add hip (fun j hj hne => hap i j hip hj hne) (fun j => getD_set (by omega))
            · cases hb : ob i with
              | none =>
                refine ⟨hH.len, hH.old, ?_, ?_⟩
                · intro j b hj hbj hsj
                  rw [getD_set (by omega)] at hsj
                  rcases hsj with rfl | hsj
                  · rw [hb] at hbj; cases hbj
                  · exact hH.on j b hj hbj hsj
                · intro j b hj hbj hsj
                  rw [getD_set (by omega)] at hsj
                  exact hH.off j b hj hbj (fun hh => hsj (.inr hh))
              | some b =>
                refine ⟨by simpa using hH.len, ?_, ?_, ?_⟩
                · intro j hj
                  rw [List.getElem?_set, if_neg (by omega)]
                  exact hH.old j hj
                · intro j b' hj hbj hsj
                  rw [getD_set (by omega)] at hsj
                  rw [List.getElem?_set]
                  by_cases hji : j = i
                  · subst hji
                    rw [hb] at hbj; cases hbj
                    have hlen : H.length + (Ls j).length < H'.length := by
                      rw [hH.len]; have := hidlt j b hj hb p hj (Nat.le_refl _); simp only [N]; omega
                    rw [if_pos rfl, if_pos hlen]
                  · rw [if_neg (fun he => hji (hidinj i j b b' hip hj hb hbj he).symm)]
                    exact hH.on j b' hj hbj (hsj.resolve_left hji)
                · intro j b' hj hbj hsj
                  rw [getD_set (by omega)] at hsj
                  have hji : j ≠ i := fun he => hsj (.inl he)
                  rw [List.getElem?_set, if_neg (fun he => hji (hidinj i j b b' hip hj hb hbj he).symm)]
                  exact hH.off j b' hj hbj (fun hh => hsj (.inr hh))
            · intro j b' hj hbj hsj
              rw [getD_set (by omega)] at hsj
              have hji : j ≠ i := fun he => hsj (.inl he)
              cases hb : ob i with
              | none => rw [hη2 hb]; exact hη j b' hj hbj (fun hh => hsj (.inr hh))
              | some b => rw [hη1 _ (fun he => hji (hidinj i j b b' hip hj hb hbj he.symm).symm)]; exact hη j b' hj hbj (fun hh => hsj (.inr hh))
          unfold wpOpIn
          simp only [ho]
          split
          · rename_i hw
            rw [if_pos hw] at this
            exact Oper.wpIn_mono next this
          · rename_i hw
            rw [if_neg hw] at this
            exact ⟨fun _ _ => trivial, next _ _ this⟩
  -- the start
  refine wpIn_region_any hm ?_
  obtain ⟨hg1, hs1⟩ := hg.drew
  obtain ⟨r1, r2, r3⟩ := hg1.sat.reserve N
  have hfalse : ∀ i, ¬ (Array.replicate ops.size false).getD i false = true := by
    intro i
    by_cases hi : i < ops.size
    · simp [hi]
    · simp [hi]
  refine phase ops.size (Array.replicate ops.size false) a _ (by simp) (by simp) ?_ (fun j _ _ => hfalse j) rfl ⟨I, _, T, _, ⟨r1, hg1.tmp.mono r2⟩, ?_, IsT.zero (fun i _ => hfalse i), ?_, ?_⟩
  · intro i o _ hi
    exact (hfalse i hi).elim
  · refine hR.trans (hR.step hs1) (hR.step ?_)
    exact ⟨rfl, rfl, rfl, Nat.le_refl _, fun _ _ _ => rfl, fun _ hb => hb, fun _ hb => .inl hb, fun b hb => .inl ((r3 b).1 hb), r2.eta⟩
  · refine ⟨by simp, fun j hj => List.getElem?_append_left hj, fun i b _ _ hi => (hfalse i hi).elim, ?_⟩
    intro i b hi hb _
    have := hidlt i b hi hb p hi (Nat.le_refl _)
    rw [List.getElem?_append_right (by simp only [idn]; omega)]
    simp only [idn, N]
    rw [List.getElem?_replicate, if_pos (by omega)]
  · intro i b hi hb _
    have := hidlt i b hi hb p hi (Nat.le_refl _)
    rw [List.getElem?_append_right (by simp only [idn]; rw [hg.sat.len]; omega)]
    simp only [idn, N]
    rw [hg.sat.len, List.getElem?_replicate, if_pos (by omega)]

theorem draw_sound {R : Rel} (hR : RelOk R) (hE : EnvOk E P) (hm : P.follows .mixedOrders = true) {r : Option Nat} {n rid : Nat} {ops : Array Oper} {K : KT} {T : List V} {H : List O} {I : Nat → Prop} {η : Eta} {w : World} {a : Act} {Q : Exit → Act → World → Prop}
    (h : DrawVC (sys P) E ops.toList K T H) (hg : Good I η w T H a) (hQ : ∀ a' w', After R I (own η H) w a.defers K a' w' → Q .normal a' w') : (Code.region rid ops true).wpIn (Fw r) n P Q a w := by
  obtain ⟨p, hok, h⟩ := h
  unfold drawOk at hok
  cases hb : Nat.blt p 1000 with
  | true =>
    rw [hb] at h hok
    simp only [cond_true, lenK_eq] at h hok
    refine draw_soundZ hR hE hm (zo := []) (drawOk_spec hok) (fun z hz => by cases hz) ?_ hg hQ
    simp only [execOpsZ_nil]
    exact h
  | false =>
    rw [hb] at h hok
    simp only [cond_false, lenK_eq] at h hok
    generalize p - 1000 = p' at h hok
    refine draw_soundZ hR hE hm (drawOk_spec hok) (fun z hz o ho => ?_) h hg hQ
    rw [List.mem_filterMap]
    exact ⟨z, hz, by simpa using ho⟩
end Go.Sx
