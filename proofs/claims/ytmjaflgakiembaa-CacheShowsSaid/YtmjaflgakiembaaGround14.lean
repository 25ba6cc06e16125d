/- Own work: texts of the proof of a law (CaC15, CaC16, CaC18, CaC17A). No condition. -/
import Derived.Test.YtmjaflgakiembaaGround13
namespace Go.Proofs
open Go Go.Sx
set_option maxRecDepth 100000
set_option maxHeartbeats 4000000
noncomputable def shS (s : PS) : List Int := shF (shf s)
structure Closed (x : Cache) (k : Nat) (l l' : List Trip) : Prop where
  pre : l <+: l'
  good : ∀ t ∈ l', t.Good x k
  nd : (l'.map Trip.sh).Nodup
  all : ∀ t ∈ l', ∀ b : Nat, (b : Int) < x.n → t.s.can b → ∃ t' ∈ l', t'.sh = shS (t.s.drain b)
structure Closed' (x : Cache) (k : Nat) (l l' : List Trip) (i : Nat) : Prop where
  pre : l <+: l'
  good : ∀ t ∈ l', t.Good x k
  nd : (l'.map Trip.sh).Nodup
  le : i ≤ l'.length
  all : ∀ j (h : j < l'.length), j < i → ∀ b : Nat, (b : Int) < x.n → l'[j].s.can b → ∃ t' ∈ l', t'.sh = shS (l'[j].s.drain b)
theorem Closed'.start {x : Cache} {k : Nat} {l : List Trip} (hl : ∀ t ∈ l, t.Good x k) (hnd : (l.map Trip.sh).Nodup) : Closed' x k l l 0 :=
  ⟨List.prefix_rfl, hl, hnd, by omega, fun j _ h => by omega⟩
theorem seen_snoc {l : List Trip} {i : Nat} (hi : i < l.length) (key : List Int) : (key = (l.getD i Trip.none).sh ∨ ∃ t ∈ l.take i, t.sh = key) ↔ ∃ t ∈ l.take (i + 1), t.sh = key := by
  have e : l.getD i Trip.none = l[i] := by simp [List.getD_eq_getElem?_getD, hi]
  have e2 := List.take_succ_eq_append_getElem hi
  rw [e]
  constructor
  · rintro (rfl | ⟨t, h, rfl⟩)
    · exact ⟨l[i], e2 ▸ List.mem_append_right _ (List.mem_singleton.2 rfl), rfl⟩
    · exact ⟨t, e2 ▸ List.mem_append_left _ h, rfl⟩
  · rintro ⟨t, h, rfl⟩
    rw [e2] at h
    rcases List.mem_append.1 h with h | h
    · exact .inr ⟨t, h, rfl⟩
    · exact .inl (by rw [List.mem_singleton.1 h])
structure Inner (x : Cache) (k : Nat) (l l1 l2 : List Trip) (i b : Nat) : Prop where
  cl : Closed' x k l l2 i
  pre : l1 <+: l2
  lt : i < l2.length
  at' : ∀ b' : Nat, b' < b → (b' : Int) < x.n → (l2.getD i Trip.none).s.can b' → ∃ t' ∈ l2, t'.sh = shS ((l2.getD i Trip.none).s.drain b')
theorem Inner.start {x : Cache} {k : Nat} {l l1 : List Trip} {i : Nat} (h : Closed' x k l l1 i) (hi : i < l1.length) : Inner x k l l1 l1 i 0 :=
  ⟨h, List.prefix_rfl, hi, fun b' hb => by omega⟩
theorem Inner.skip {x : Cache} {k : Nat} {l l1 l2 : List Trip} {i b : Nat} (h : Inner x k l l1 l2 i b) (hc : ¬ (l2.getD i Trip.none).s.can b) : Inner x k l l1 l2 i (b + 1) :=
  ⟨h.cl, h.pre, h.lt, fun b' hb hn hcan => by
    rcases Nat.lt_or_eq_of_le (show b' ≤ b by omega) with h1 | rfl
    · exact h.at' b' h1 hn hcan
    · exact absurd hcan hc⟩
theorem getD_at {l : List Trip} {i : Nat} (h : i < l.length) : l.getD i Trip.none = l[i] := by simp [List.getD_eq_getElem?_getD, h]
theorem Inner.done {x : Cache} {k : Nat} {l l1 l2 : List Trip} {i : Nat} (h : Inner x k l l1 l2 i x.n.toNat) (hx : x.Ok) : Closed' x k l l2 (i + 1) :=
  ⟨h.cl.pre, h.cl.good, h.cl.nd, h.lt, fun j hj hji b hb hcan => by
    rcases Nat.lt_or_eq_of_le (show j ≤ i by omega) with h1 | rfl
    · exact h.cl.all j hj h1 b hb hcan
    · rw [← getD_at hj] at hcan ⊢
      have := hx.n
      exact h.at' b (by omega) hb hcan⟩
theorem Closed'.end' {x : Cache} {k : Nat} {l l1 : List Trip} (h : Closed' x k l l1 l1.length) : Closed x k l l1 :=
  ⟨h.pre, h.good, h.nd, fun t ht b hb hc => by
    obtain ⟨j, hj, rfl⟩ := List.getElem_of_mem ht
    exact h.all j hj hj b hb hc⟩
theorem Inner.old {x : Cache} {k : Nat} {l l1 l2 : List Trip} {i b : Nat} (h : Inner x k l l1 l2 i b) (hd : ∃ t' ∈ l2, t'.sh = shS ((l2.getD i Trip.none).s.drain b)) : Inner x k l l1 l2 i (b + 1) :=
  ⟨h.cl, h.pre, h.lt, fun b' hb hn hcan => by
    rcases Nat.lt_or_eq_of_le (show b' ≤ b by omega) with h1 | rfl
    · exact h.at' b' h1 hn hcan
    · exact hd⟩
theorem Inner.add {x : Cache} {k : Nat} {l l1 l2 : List Trip} {i b : Nat} (h : Inner x k l l1 l2 i b) {t : Trip} (ht : t.Good x k) (hs : t.sh = shS ((l2.getD i Trip.none).s.drain b)) (hn : ¬ ∃ t' ∈ l2, t'.sh = t.sh) : Inner x k l l1 (l2 ++ [t]) i (b + 1) := by
  have hlt := h.lt
  have e : (l2 ++ [t]).getD i Trip.none = l2.getD i Trip.none := by simp only [List.getD_eq_getElem?_getD]; rw [List.getElem?_append_left hlt]
  refine ⟨⟨h.cl.pre.trans (List.prefix_append _ _), fun t' ht' => ?_, ?_, by simp; omega, fun j hj hji b' hb' hcan => ?_⟩, h.pre.trans (List.prefix_append _ _), by simp; omega, fun b' hb hn' hcan => ?_⟩
  · rcases List.mem_append.1 ht' with h1 | h1
    · exact h.cl.good t' h1
    · rw [List.mem_singleton.1 h1]; exact ht
  · rw [List.map_append, List.nodup_append]
    refine ⟨h.cl.nd, by simp, fun a ha c hc => ?_⟩
    simp only [List.map_cons, List.map_nil, List.mem_singleton] at hc
    subst hc
    intro hac
    obtain ⟨t', ht', rfl⟩ := List.mem_map.1 ha
    exact hn ⟨t', ht', hac⟩
  · have hjl : j < l2.length := by omega
    have e2 : (l2 ++ [t])[j] = l2[j] := List.getElem_append_left hjl
    rw [e2] at hcan ⊢
    obtain ⟨t', h1, h2⟩ := h.cl.all j hjl hji b' hb' hcan
    exact ⟨t', List.mem_append_left _ h1, h2⟩
  · rw [e] at hcan ⊢
    rcases Nat.lt_or_eq_of_le (show b' ≤ b by omega) with h1 | rfl
    · obtain ⟨t', h3, h4⟩ := h.at' b' h1 hn' hcan
      exact ⟨t', List.mem_append_left _ h3, h4⟩
    · exact ⟨t, by simp, hs⟩
theorem dom_snoc {dom : List Int → Prop} {l : List Trip} (h : ∀ k, dom k ↔ ∃ t ∈ l, t.sh = k) (t : Trip) : ∀ k, domPut dom t.sh k ↔ ∃ t' ∈ l ++ [t], t'.sh = k := by
  intro k
  unfold domPut
  rw [h]
  constructor
  · rintro (rfl | ⟨t', h1, rfl⟩)
    · exact ⟨t, by simp, rfl⟩
    · exact ⟨t', List.mem_append_left _ h1, rfl⟩
  · rintro ⟨t', h1, rfl⟩
    rcases List.mem_append.1 h1 with h1 | h1
    · exact .inr ⟨t', h1, rfl⟩
    · exact .inl (by rw [List.mem_singleton.1 h1])
theorem dom_same {dom : List Int → Prop} {l : List Trip} (h : ∀ k, dom k ↔ ∃ t ∈ l, t.sh = k) {key : List Int} (hk : dom key) : ∀ k, domPut dom key k ↔ ∃ t' ∈ l, t'.sh = k := by
  intro k
  unfold domPut
  rw [← h]
  exact ⟨fun g => g.elim (fun e => e ▸ hk) id, .inr⟩
theorem drained74 (x : Cache) (hx : x.Ok) (k : Nat) (_hk : k ≤ x.l.length) (hgood : ∀ s D, Rch x k s D → (⟨s, D⟩ : Trip).Good x k)
    (hcap : ∀ l : List Trip, (∀ t ∈ l, t.Good x k) → (l.map Trip.sh).Nodup → l.length ≤ 65536)
    (l : List Trip) (h0 : 0 < l.length) (hl : ∀ t ∈ l, t.Good x k) (hnd : (l.map Trip.sh).Nodup) :
    Sx.Callee Try.prog 74 [.osl 0 l.length, .int .i64 k, .int .i64 x.n] [.row 84 2 l.length (rowOf trC Trip.none l) false]
      (fun v H => ∃ l' : List Trip, Closed x k l l' ∧ v = .osl 1 l'.length ∧ H = [.gone, .row 84 2 l'.length (rowOf trC Trip.none l') false]) := by
  have hn6 := hx.n
  have hl16 := hx.len
  have hlc := hcap l hl hnd
  refine callee_ent Try.E_ok Try.func74 rfl (by kernel_rfl) ?_
  (repeat' ((conv => whnf); (first | (with_reducible first | apply spl | apply spl') <;> intro hc <;> try (exfalso; omega) | with_reducible refine iJ fun hc => ?_ | refine vcq (k := ?_) | refine dr 2009 (k := ?_)))); all_goals ((try conv => whnf); try with_reducible exact trivial)
  intro g0
  (repeat' ((conv => whnf); (first | (with_reducible first | apply spl | apply spl') <;> intro hc <;> try (exfalso; omega) | with_reducible refine iJ fun hc => ?_ | refine vcq (k := ?_) | refine dr 2009 (k := ?_)))); all_goals ((try conv => whnf); try with_reducible exact trivial)
  refine ⟨Nat × (List Int → Prop) × (List Int → Int) × Nat × MG, fun q => q.1 ≤ l.length ∧ (∀ k, q.2.1 k ↔ ∃ t ∈ l.take q.1, t.sh = k) ∧ ∀ k, q.2.1 k → 1 ≤ q.2.2.1 k ∧ q.2.2.1 k ≤ q.1, fun q => l.length - q.1, fun q => [(8, .int .i64 (q.1 : Nat))],
    fun q => [(1, .map K109 true false q.2.1 (fun k => [.int .i64 (q.2.2.1 k)]) q.2.2.2.1 q.2.2.2.2)], fun _ => [], (0, (fun _ => False), (fun _ => 0), 0, g0), ⟨⟨by dsimp only; omega, by simp, by simp⟩, some [some 0, some 1], ?_⟩, ?_⟩
  · (repeat' ((conv => whnf); (first | (with_reducible first | apply spl | apply spl') <;> intro hc <;> try (exfalso; omega) | with_reducible refine iJ fun hc => ?_ | refine vcq (k := ?_) | refine dr 2004 (k := ?_) | refine dr 2009 (k := ?_)))); all_goals ((try conv => whnf); try with_reducible exact trivial)
    refine ⟨allInts_all (fun k _ => ⟨Iff.rfl, fun h => h.elim⟩), ?_⟩
    (repeat' ((conv => whnf); (first | (with_reducible first | apply spl | apply spl') <;> intro hc <;> try (exfalso; omega) | with_reducible refine iJ fun hc => ?_ | refine vcq (k := ?_) | refine dr 2004 (k := ?_) | refine dr 2009 (k := ?_)))); all_goals ((try conv => whnf); try with_reducible exact trivial)
  · rintro ⟨i, dom, c, m, g⟩ ⟨h1, h2, h3⟩
    dsimp only at h1 h2 h3
    (repeat' ((conv => whnf); (first | (with_reducible first | apply spl | apply spl') <;> intro hc <;> try (exfalso; omega) | with_reducible refine iJ fun hc => ?_ | refine vcq (k := ?_) | refine dr 2009 (k := ?_)))); all_goals ((try conv => whnf); try with_reducible exact trivial)
    · have hi : i < l.length := by dsimp only at hc; omega
      have htm : l.getD i Trip.none ∈ l := by simp [List.getD_eq_getElem?_getD, hi]
      have htg := hl _ htm
      have e0 : ((i : Nat) : Int).toNat = i := by omega
      refine pcall_intro (shape76f (l.getD i Trip.none).s htg.sm.len) rfl ?_
      have hsh : (l.getD i Trip.none).sh = shF (shf (l.getD i Trip.none).s) := rfl
      generalize shf (l.getD i Trip.none).s = f at hsh ⊢
      have hq : ∀ key, inR .i64 (cntV dom c key + 1) := fun key => by
        unfold cntV
        split
        · rename_i h; have := h3 key h; show (-9223372036854775808 : Int) ≤ _ ∧ _ ≤ (9223372036854775807 : Int); omega
        · show (-9223372036854775808 : Int) ≤ _ ∧ _ ≤ (9223372036854775807 : Int); omega
      have hlk := cntV_again dom c
      have hst : ∀ t ∈ l.take (i + 1), t ∈ l := fun t ht => List.mem_of_mem_take ht
      (repeat' ((conv => whnf); (first | (with_reducible first | apply spl | apply spl') <;> intro hc <;> try (exfalso; omega) | with_reducible refine iJ fun hc => ?_ | refine vcq (k := ?_) | refine dr 2009 (k := ?_)))); all_goals ((try conv => whnf); try with_reducible exact trivial)
      (repeat' ((first | (refine And.intro (hq _) ?_) | (refine And.intro (hlk _) ?_) | (refine And.intro ⟨rfl, .inl rfl, rfl⟩ ?_)); (repeat' ((conv => whnf); (first | (with_reducible first | apply spl | apply spl') <;> intro hc <;> try (exfalso; omega) | with_reducible refine iJ fun hc => ?_ | refine vcq (k := ?_) | refine dr 2009 (k := ?_)))); all_goals ((try conv => whnf); try with_reducible exact trivial)))
      intro g1
      (repeat' ((conv => whnf); (first | (with_reducible first | apply spl | apply spl') <;> intro hc <;> try (exfalso; omega) | with_reducible refine iJ fun hc => ?_ | refine vcq (k := ?_) | refine dr 2009 (k := ?_)))); all_goals ((try conv => whnf); try with_reducible exact trivial)
      (repeat' ((first | (refine And.intro (hq _) ?_) | (refine And.intro (hlk _) ?_) | (refine And.intro ⟨rfl, .inl rfl, rfl⟩ ?_)); (repeat' ((conv => whnf); (first | (with_reducible first | apply spl | apply spl') <;> intro hc <;> try (exfalso; omega) | with_reducible refine iJ fun hc => ?_ | refine vcq (k := ?_) | refine dr 2009 (k := ?_)))); all_goals ((try conv => whnf); try with_reducible exact trivial)))
      have hmem : ∀ key, domPut dom (l.getD i Trip.none).sh key ↔ ∃ t ∈ l.take (i + 1), t.sh = key := fun key => by
        unfold domPut
        rw [h2]
        exact seen_snoc hi key
      rw [hsh] at hmem
      refine ⟨(i + 1, domPut dom (shF f), cntUp dom c (shF f), nPut dom m (shF f), g1), ⟨⟨by dsimp only; omega, hmem, cntUp_le h3⟩, by dsimp only; omega⟩, some [some 0, some 1], ?_⟩
      (repeat' ((conv => whnf); (first | (with_reducible first | apply spl | apply spl') <;> intro hc <;> try (exfalso; omega) | with_reducible refine iJ fun hc => ?_ | refine vcq (k := ?_) | refine dr 2004 (k := ?_) | refine dr 2009 (k := ?_)))); all_goals ((try conv => whnf); try with_reducible exact trivial)
      refine ⟨allInts_all (fun key _ => ⟨Iff.rfl, fun h => cntUp_eq dom c _ key h⟩), ?_⟩
      (repeat' ((conv => whnf); (first | (with_reducible first | apply spl | apply spl') <;> intro hc <;> try (exfalso; omega) | with_reducible refine iJ fun hc => ?_ | refine vcq (k := ?_) | refine dr 2004 (k := ?_) | refine dr 2009 (k := ?_)))); all_goals ((try conv => whnf); try with_reducible exact trivial)
    · have hi : i = l.length := by dsimp only at hc; omega
      subst hi
      rw [List.take_length] at h2
      refine ⟨Nat × List Trip × (List Int → Prop) × (List Int → Int) × Nat × MG × Nat, fun q => Closed' x k l q.2.1 q.1 ∧ (∀ k, q.2.2.1 k ↔ ∃ t ∈ q.2.1, t.sh = k) ∧ q.2.2.2.2.2.2 ≤ 65536 + 6 * q.1 ∧ ∀ k, q.2.2.1 k → 1 ≤ q.2.2.2.1 k ∧ q.2.2.2.1 k ≤ q.2.2.2.2.2.2, fun q => 65536 - q.1, fun q => [(9, .int .i64 (q.1 : Nat)), (0, .osl 2 q.2.1.length)],
        fun q => [(0, .gone), (1, .map K109 true false q.2.2.1 (fun k => [.int .i64 (q.2.2.2.1 k)]) q.2.2.2.2.1 q.2.2.2.2.2.1)], fun q => [.row 84 2 q.2.1.length (rowOf trC Trip.none q.2.1) false], (0, l, dom, c, m, g, l.length), ⟨⟨Closed'.start hl hnd, h2, by dsimp only; omega, h3⟩, some [some 0, some 1, some 0], ?_⟩, ?_⟩
      · (repeat' ((conv => whnf); (first | (with_reducible first | apply spl | apply spl') <;> intro hc <;> try (exfalso; omega) | with_reducible refine iJ fun hc => ?_ | refine vcq (k := ?_) | refine dr 2004 (k := ?_) | refine dr 2009 (k := ?_)))); all_goals ((try conv => whnf); try with_reducible exact trivial)
        refine ⟨allInts_all (fun k _ => ⟨Iff.rfl, fun _ => rfl⟩), ?_⟩
        (repeat' ((conv => whnf); (first | (with_reducible first | apply spl | apply spl') <;> intro hc <;> try (exfalso; omega) | with_reducible refine iJ fun hc => ?_ | refine vcq (k := ?_) | refine dr 2004 (k := ?_) | refine dr 2009 (k := ?_)))); all_goals ((try conv => whnf); try with_reducible exact trivial)
      · rintro ⟨i, l1, dom, c, m, g, cc⟩ ⟨h1, h2, h3, h4⟩
        dsimp only at h1 h2 h3 h4
        have hlc1 := hcap l1 h1.good h1.nd
        (repeat' ((conv => whnf); (first | (with_reducible first | apply spl | apply spl') <;> intro hc <;> try (exfalso; omega) | with_reducible refine iJ fun hc => ?_ | refine vcq (k := ?_) | refine dr 2004 (k := ?_)))); all_goals ((try conv => whnf); try with_reducible exact trivial)
        · have hi : i < l1.length := by dsimp only at hc; omega
          refine ⟨Nat × List Trip × (List Int → Prop) × (List Int → Int) × Nat × MG × Nat, fun q => q.1 ≤ x.n ∧ Inner x k l l1 q.2.1 i q.1 ∧ (∀ k, q.2.2.1 k ↔ ∃ t ∈ q.2.1, t.sh = k) ∧ q.2.2.2.2.2.2 ≤ 65536 + 6 * i + q.1 ∧ ∀ k, q.2.2.1 k → 1 ≤ q.2.2.2.1 k ∧ q.2.2.2.1 k ≤ q.2.2.2.2.2.2, fun q => x.n.toNat - q.1, fun q => [(38, .int .i64 (q.1 : Nat)), (0, .osl 3 q.2.1.length)],
            fun q => [(1, .map K109 true false q.2.2.1 (fun k => [.int .i64 (q.2.2.2.1 k)]) q.2.2.2.2.1 q.2.2.2.2.2.1), (2, .gone)], fun q => [.row 84 2 q.2.1.length (rowOf trC Trip.none q.2.1) false], (0, l1, dom, c, m, g, cc), ⟨⟨by dsimp only; omega, Inner.start h1 hi, h2, by dsimp only; omega, h4⟩, some [some 0, some 1, some 2, some 2], ?_⟩, ?_⟩
          · (repeat' ((conv => whnf); (first | (with_reducible first | apply spl | apply spl') <;> intro hc <;> try (exfalso; omega) | with_reducible refine iJ fun hc => ?_ | refine vcq (k := ?_) | refine dr 2004 (k := ?_) | refine dr 2009 (k := ?_)))); all_goals ((try conv => whnf); try with_reducible exact trivial)
            refine ⟨allInts_all (fun k _ => ⟨Iff.rfl, fun _ => rfl⟩), ?_⟩
            (repeat' ((conv => whnf); (first | (with_reducible first | apply spl | apply spl') <;> intro hc <;> try (exfalso; omega) | with_reducible refine iJ fun hc => ?_ | refine vcq (k := ?_) | refine dr 2004 (k := ?_) | refine dr 2009 (k := ?_)))); all_goals ((try conv => whnf); try with_reducible exact trivial)
          · clear h1 h2 h3 h4 hc
            rintro ⟨b, l2, dom, c, m, g, cc⟩ ⟨hb, h1, h2, h3, h4⟩
            dsimp only at hb h1 h2 h3 h4
            have hlc2 := hcap l2 h1.cl.good h1.cl.nd
            have hi2 : i < l2.length := h1.lt
            have htm : l2.getD i Trip.none ∈ l2 := by simp [List.getD_eq_getElem?_getD, hi2]
            have htg := h1.cl.good _ htm
            (repeat' ((conv => whnf); (first | (with_reducible first | apply spl | apply spl') <;> intro hc <;> try (exfalso; omega) | with_reducible refine iJ fun hc => ?_ | refine vcq (k := ?_) | refine dr 2004 (k := ?_)))); all_goals ((try conv => whnf); try with_reducible exact trivial)
            · have hbn : b < x.n := by dsimp only at hc; omega
              refine callee_fo (can52 (l2.getD i Trip.none).s htg.sm.len b (by omega)) rfl ?_
              rintro _ rfl
              have hin := h1.at'
              have hq : ∀ key, inR .i64 (cntV dom c key + 1) := fun key => by
                unfold cntV
                split
                · rename_i h; have := h4 key h; show (-9223372036854775808 : Int) ≤ _ ∧ _ ≤ (9223372036854775807 : Int); omega
                · show (-9223372036854775808 : Int) ≤ _ ∧ _ ≤ (9223372036854775807 : Int); omega
              have hlk := cntV_again dom c
              (repeat' ((conv => whnf); (first | (with_reducible first | apply spl | apply spl') <;> intro hc <;> try (exfalso; omega) | with_reducible refine iJ fun hc => ?_ | refine vcq (k := ?_) | refine dr 2004 (k := ?_)))); all_goals ((try conv => whnf); try with_reducible exact trivial)
              · refine ⟨(b + 1, l2, dom, c, m, g, cc), ⟨⟨by dsimp only; omega, h1.skip hc, h2, by dsimp only; omega, h4⟩, by dsimp only; omega⟩, some [some 0, some 1, some 2, some 3], ?_⟩
                (repeat' ((conv => whnf); (first | (with_reducible first | apply spl | apply spl') <;> intro hc <;> try (exfalso; omega) | with_reducible refine iJ fun hc => ?_ | refine vcq (k := ?_) | refine dr 2004 (k := ?_) | refine dr 2009 (k := ?_)))); all_goals ((try conv => whnf); try with_reducible exact trivial)
                refine ⟨allInts_all (fun k _ => ⟨Iff.rfl, fun _ => rfl⟩), ?_⟩
                (repeat' ((conv => whnf); (first | (with_reducible first | apply spl | apply spl') <;> intro hc <;> try (exfalso; omega) | with_reducible refine iJ fun hc => ?_ | refine vcq (k := ?_) | refine dr 2004 (k := ?_) | refine dr 2009 (k := ?_)))); all_goals ((try conv => whnf); try with_reducible exact trivial)
              · have hcan : (l2.getD i Trip.none).s.can b := Classical.not_not.1 hc
                have hnew : ((l2.getD i Trip.none).with ((k : Int), (b : Int))).Good x k := hgood _ _ (Rch.drain htg.r hbn hcan)
                refine callee_fo (with78 (l2.getD i Trip.none) htg.sm (by have := htg.D; omega) (by have := htg.W; omega) k b (by omega) hcan.1) rfl ?_
                rintro _ rfl
                (repeat' ((conv => whnf); (first | (with_reducible first | apply spl | apply spl') <;> intro hc <;> try (exfalso; omega) | with_reducible refine iJ fun hc => ?_ | refine vcq (k := ?_) | refine dr 2004 (k := ?_)))); all_goals ((try conv => whnf); try with_reducible exact trivial)
                refine callee_fo (shape76f ((l2.getD i Trip.none).with ((k : Int), (b : Int))).s hnew.sm.len) rfl ?_
                rintro _ rfl
                have hsh : ((l2.getD i Trip.none).with ((k : Int), (b : Int))).sh = shF (shf ((l2.getD i Trip.none).with ((k : Int), (b : Int))).s) := rfl
                have hsd : shF (shf ((l2.getD i Trip.none).with ((k : Int), (b : Int))).s) = shS ((l2.getD i Trip.none).s.drain b) := rfl
                generalize shf ((l2.getD i Trip.none).with ((k : Int), (b : Int))).s = f at hsh hsd ⊢
                (repeat' ((conv => whnf); (first | (with_reducible first | apply spl | apply spl') <;> intro hc <;> try (exfalso; omega) | with_reducible refine iJ fun hc => ?_ | refine vcq (k := ?_) | refine dr 2004 (k := ?_)))); all_goals ((try conv => whnf); try with_reducible exact trivial)
                (repeat' ((first | (refine And.intro (hq _) ?_) | (refine And.intro (hlk _) ?_) | (refine And.intro ⟨rfl, .inl rfl, rfl⟩ ?_)); (repeat' ((conv => whnf); (first | (with_reducible first | apply spl | apply spl') <;> intro hc <;> try (exfalso; omega) | with_reducible refine iJ fun hc => ?_ | refine vcq (k := ?_) | refine dr 2004 (k := ?_)))); all_goals ((try conv => whnf); try with_reducible exact trivial)))
                intro g1
                (repeat' ((conv => whnf); (first | (with_reducible first | apply spl | apply spl') <;> intro hc <;> try (exfalso; omega) | with_reducible refine iJ fun hc => ?_ | refine vcq (k := ?_) | refine dr 2004 (k := ?_)))); all_goals ((try conv => whnf); try with_reducible exact trivial)
                (repeat' ((first | (refine And.intro (hq _) ?_) | (refine And.intro (hlk _) ?_) | (refine And.intro ⟨rfl, .inl rfl, rfl⟩ ?_)); (repeat' ((conv => whnf); (first | (with_reducible first | apply spl | apply spl') <;> intro hc <;> try (exfalso; omega) | with_reducible refine iJ fun hc => ?_ | refine vcq (k := ?_) | refine dr 2004 (k := ?_)))); all_goals ((try conv => whnf); try with_reducible exact trivial)))
                · have hno : ¬ dom (shF f) := (cnt_new (fun k h => (h4 k h).1)).1 hc
                  clear hc
                  refine ⟨(b + 1, l2 ++ [(l2.getD i Trip.none).with ((k : Int), (b : Int))], domPut dom (shF f), cntUp dom c (shF f), nPut dom m (shF f), g1, cc + 1), ⟨⟨by dsimp only; omega, h1.add hnew (hsh.trans hsd) (fun h => hno ((h2 _).2 (hsh ▸ h))), (hsh ▸ dom_snoc h2 ((l2.getD i Trip.none).with ((k : Int), (b : Int)))), by dsimp only; omega, cntUp_le h4⟩, by dsimp only; omega⟩, some [some 0, some 1, some 2, some 7], ?_⟩
                  (repeat' ((conv => whnf); (first | (with_reducible first | apply spl | apply spl') <;> intro hc <;> try (exfalso; omega) | with_reducible refine iJ fun hc => ?_ | refine vcq (k := ?_) | refine dr 2004 (k := ?_) | refine dr 2009 (k := ?_)))); all_goals ((try conv => whnf); try with_reducible exact trivial)
                  refine ⟨by simp, ?_⟩
                  (repeat' ((conv => whnf); (first | (with_reducible first | apply spl | apply spl') <;> intro hc <;> try (exfalso; omega) | with_reducible refine iJ fun hc => ?_ | refine vcq (k := ?_) | refine dr 2004 (k := ?_) | refine dr 2009 (k := ?_)))); all_goals ((try conv => whnf); try with_reducible exact trivial)
                  refine ⟨allInts_all (fun key _ => ⟨Iff.rfl, fun h => cntUp_eq dom c _ key h⟩), ?_⟩
                  (repeat' ((conv => whnf); (first | (with_reducible first | apply spl | apply spl') <;> intro hc <;> try (exfalso; omega) | with_reducible refine iJ fun hc => ?_ | refine vcq (k := ?_) | refine dr 2004 (k := ?_) | refine dr 2009 (k := ?_)))); all_goals ((try conv => whnf); try with_reducible exact trivial)
                  refine ⟨by simp, rowOf_snoc (c := trC) (a := (l2.getD i Trip.none).with ((k : Int), (b : Int))) (l := l2) rfl (fun _ _ => rfl), ?_⟩
                  (repeat' ((conv => whnf); (first | (with_reducible first | apply spl | apply spl') <;> intro hc <;> try (exfalso; omega) | with_reducible refine iJ fun hc => ?_ | refine vcq (k := ?_) | refine dr 2004 (k := ?_) | refine dr 2009 (k := ?_)))); all_goals ((try conv => whnf); try with_reducible exact trivial)
                · have hyes : dom (shF f) := Classical.byContradiction fun h => hc ((cnt_new (fun k h => (h4 k h).1)).2 h)
                  clear hc
                  refine ⟨(b + 1, l2, domPut dom (shF f), cntUp dom c (shF f), nPut dom m (shF f), g1, cc + 1), ⟨⟨by dsimp only; omega, h1.old (hsd ▸ (h2 _).1 hyes), dom_same h2 hyes, by dsimp only; omega, cntUp_le h4⟩, by dsimp only; omega⟩, some [some 0, some 1, some 2, some 3], ?_⟩
                  (repeat' ((conv => whnf); (first | (with_reducible first | apply spl | apply spl') <;> intro hc <;> try (exfalso; omega) | with_reducible refine iJ fun hc => ?_ | refine vcq (k := ?_) | refine dr 2004 (k := ?_) | refine dr 2009 (k := ?_)))); all_goals ((try conv => whnf); try with_reducible exact trivial)
                  refine ⟨allInts_all (fun key _ => ⟨Iff.rfl, fun h => cntUp_eq dom c _ key h⟩), ?_⟩
                  (repeat' ((conv => whnf); (first | (with_reducible first | apply spl | apply spl') <;> intro hc <;> try (exfalso; omega) | with_reducible refine iJ fun hc => ?_ | refine vcq (k := ?_) | refine dr 2004 (k := ?_) | refine dr 2009 (k := ?_)))); all_goals ((try conv => whnf); try with_reducible exact trivial)
            · obtain rfl : b = x.n.toNat := by dsimp only at hc; omega
              refine ⟨(i + 1, l2, dom, c, m, g, cc), ⟨⟨h1.done hx, h2, by dsimp only; omega, h4⟩, by dsimp only; omega⟩, some [some 0, some 1, some 3], ?_⟩
              (repeat' ((conv => whnf); (first | (with_reducible first | apply spl | apply spl') <;> intro hc <;> try (exfalso; omega) | with_reducible refine iJ fun hc => ?_ | refine vcq (k := ?_) | refine dr 2004 (k := ?_) | refine dr 2009 (k := ?_)))); all_goals ((try conv => whnf); try with_reducible exact trivial)
              refine ⟨allInts_all (fun k _ => ⟨Iff.rfl, fun _ => rfl⟩), ?_⟩
              (repeat' ((conv => whnf); (first | (with_reducible first | apply spl | apply spl') <;> intro hc <;> try (exfalso; omega) | with_reducible refine iJ fun hc => ?_ | refine vcq (k := ?_) | refine dr 2004 (k := ?_) | refine dr 2009 (k := ?_)))); all_goals ((try conv => whnf); try with_reducible exact trivial)
        · have hil : i = l1.length := by have := h1.le; dsimp only at hc; omega
          subst hil
          refine ⟨_, _, ⟨l1, h1.end', rfl, rfl⟩, some [some 0, some 2], ?_⟩
          (repeat' ((conv => whnf); (first | (with_reducible first | apply spl | apply spl') <;> intro hc <;> try (exfalso; omega) | with_reducible refine iJ fun hc => ?_ | refine vcq (k := ?_) | refine dr 2004 (k := ?_) | refine dr 2009 (k := ?_)))); all_goals ((try conv => whnf); try with_reducible exact trivial)
end Go.Proofs


namespace Go.Proofs
open Go Go.Sx
set_option maxRecDepth 100000
set_option maxHeartbeats 4000000
structure Img where
  t : Trip
  h : C6
  torn : Bool
def imC (i : Img) : List V := [stI i.t.s, drV i.t.D, .int .i64 i.h.a0, .int .i64 i.h.a1, .int .i64 i.h.a2, .int .i64 i.h.a3, .int .i64 i.h.a4, .int .i64 i.h.a5, .prop (i.torn = true) inferInstance]
def Img.none : Img := ⟨Trip.none, C6.all 0, false⟩
def keyH (h : C6) : List Int := [h.a0, h.a1, h.a2, h.a3, h.a4, h.a5]
def K6 : List IntKind := List.replicate 6 .i64
theorem keyH_inj {a b : C6} (h : keyH a = keyH b) : a = b := by
  cases a; cases b
  simp only [keyH, List.cons.injEq] at h
  simp [h]
open Classical in
noncomputable def addI (L : List Img) (dom : List Int → Prop) (i : Img) : List Img := if dom (keyH i.h) then L else L ++ [i]
theorem add77 (i : Img) (L : List Img) (hL : L.length ≤ 1000000) (dom : List Int → Prop) (c : List Int → Int) (cc : Nat) (hcc : cc ≤ 1000000000) (h4 : ∀ k, dom k → 1 ≤ c k ∧ c k ≤ cc) (m : Nat) (g : MG) :
    Sx.Callee Try.prog 77 [.agg (imC i), .ptr 0 0, .ptr 1 0] [.cells 112 [.map 2], .cells 90 [.osl 3 L.length], .map K6 true false dom (fun k => [.int .i64 (c k)]) m g, .row 86 9 L.length (rowOf imC Img.none L) true]
    (fun v H => ∃ m' g', v = .tup [] ∧ H = [.cells 112 [.map 2], .cells 90 [.osl 4 (addI L dom i).length], .map K6 true false (domPut dom (keyH i.h)) (fun k => [.int .i64 (cntUp dom c (keyH i.h) k)]) m' g', .gone, .row 86 9 (addI L dom i).length (rowOf imC Img.none (addI L dom i)) true]) := by
  have hq : ∀ key, inR .i64 (cntV dom c key + 1) := fun key => by
    unfold cntV
    split
    · rename_i h; have := h4 key h; show (-9223372036854775808 : Int) ≤ _ ∧ _ ≤ (9223372036854775807 : Int); omega
    · show (-9223372036854775808 : Int) ≤ _ ∧ _ ≤ (9223372036854775807 : Int); omega
  have hlk := cntV_again dom c
  refine callee_ent Try.E_ok Try.func77 rfl (by kernel_rfl) ?_
  (repeat' ((conv => whnf); (first | (with_reducible first | apply spl | apply spl') <;> intro hc <;> try (exfalso; omega) | with_reducible refine iJ fun hc => ?_ | refine vcq (k := ?_) | refine dr 2005 (k := ?_)))); all_goals ((try conv => whnf); try with_reducible exact trivial)
  (repeat' ((first | (refine And.intro (hq _) ?_) | (refine And.intro (hlk _) ?_) | (refine And.intro ⟨rfl, .inl rfl, rfl⟩ ?_)); (repeat' ((conv => whnf); (first | (with_reducible first | apply spl | apply spl') <;> intro hc <;> try (exfalso; omega) | with_reducible refine iJ fun hc => ?_ | refine vcq (k := ?_) | refine dr 2005 (k := ?_)))); all_goals ((try conv => whnf); try with_reducible exact trivial)))
  intro g1
  (repeat' ((conv => whnf); (first | (with_reducible first | apply spl | apply spl') <;> intro hc <;> try (exfalso; omega) | with_reducible refine iJ fun hc => ?_ | refine vcq (k := ?_) | refine dr 2005 (k := ?_)))); all_goals ((try conv => whnf); try with_reducible exact trivial)
  (repeat' ((first | (refine And.intro (hq _) ?_) | (refine And.intro (hlk _) ?_) | (refine And.intro ⟨rfl, .inl rfl, rfl⟩ ?_)); (repeat' ((conv => whnf); (first | (with_reducible first | apply spl | apply spl') <;> intro hc <;> try (exfalso; omega) | with_reducible refine iJ fun hc => ?_ | refine vcq (k := ?_) | refine dr 2005 (k := ?_)))); all_goals ((try conv => whnf); try with_reducible exact trivial)))
  · have hno : ¬ dom (keyH i.h) := (cnt_new (fun k h => (h4 k h).1)).1 hc
    clear hc
    have e : addI L dom i = L ++ [i] := if_neg hno
    rw [e]
    refine ⟨_, _, ⟨nPut dom m (keyH i.h), g1, rfl, rfl⟩, some [some 0, some 1, some 2, some 3, some 6], ?_⟩
    (repeat' ((conv => whnf); (first | (with_reducible first | apply spl | apply spl') <;> intro hc <;> try (exfalso; omega) | with_reducible refine iJ fun hc => ?_ | refine vcq (k := ?_) | refine dr 2005 (k := ?_)))); all_goals ((try conv => whnf); try with_reducible exact trivial)
    refine ⟨by simp, ?_⟩
    (repeat' ((conv => whnf); (first | (with_reducible first | apply spl | apply spl') <;> intro hc <;> try (exfalso; omega) | with_reducible refine iJ fun hc => ?_ | refine vcq (k := ?_) | refine dr 2005 (k := ?_)))); all_goals ((try conv => whnf); try with_reducible exact trivial)
    refine ⟨allInts_all (fun key _ => ⟨Iff.rfl, fun h => cntUp_eq dom c _ key h⟩), ?_⟩
    (repeat' ((conv => whnf); (first | (with_reducible first | apply spl | apply spl') <;> intro hc <;> try (exfalso; omega) | with_reducible refine iJ fun hc => ?_ | refine vcq (k := ?_) | refine dr 2005 (k := ?_)))); all_goals ((try conv => whnf); try with_reducible exact trivial)
    refine ⟨by simp, rowOf_snoc (c := imC) (a := i) (l := L) rfl (fun _ _ => rfl), ?_⟩
    (repeat' ((conv => whnf); (first | (with_reducible first | apply spl | apply spl') <;> intro hc <;> try (exfalso; omega) | with_reducible refine iJ fun hc => ?_ | refine vcq (k := ?_) | refine dr 2005 (k := ?_)))); all_goals ((try conv => whnf); try with_reducible exact trivial)
  · have hyes : dom (keyH i.h) := Classical.byContradiction fun h => hc ((cnt_new (fun k h => (h4 k h).1)).2 h)
    clear hc
    have e : addI L dom i = L := if_pos hyes
    rw [e]
    refine ⟨_, _, ⟨nPut dom m (keyH i.h), g1, rfl, rfl⟩, some [some 0, some 1, some 2, some 3, some 3], ?_⟩
    (repeat' ((conv => whnf); (first | (with_reducible first | apply spl | apply spl') <;> intro hc <;> try (exfalso; omega) | with_reducible refine iJ fun hc => ?_ | refine vcq (k := ?_) | refine dr 2005 (k := ?_)))); all_goals ((try conv => whnf); try with_reducible exact trivial)
    refine ⟨allInts_all (fun key _ => ⟨Iff.rfl, fun h => cntUp_eq dom c _ key h⟩), ?_⟩
    (repeat' ((conv => whnf); (first | (with_reducible first | apply spl | apply spl') <;> intro hc <;> try (exfalso; omega) | with_reducible refine iJ fun hc => ?_ | refine vcq (k := ?_) | refine dr 2005 (k := ?_)))); all_goals ((try conv => whnf); try with_reducible exact trivial)
theorem add77' (i : Img) (L : List Img) (hL : L.length ≤ 1000000) (dom : List Int → Prop) (c : List Int → Int) (cc : Nat) (hcc : cc ≤ 1000000000) (h4 : ∀ k, dom k → 1 ≤ c k ∧ c k ≤ cc) (m : Nat) (g : MG) :
    Sx.Callee Try.prog 77 [.agg (imC i), .ptr 0 0, .ptr 1 0] [.cells 112 [.map 2], .cells 90 [.osl 3 L.length], .map K6 true false dom (fun k => [.int .i64 (c k)]) m g, .row 86 9 L.length (rowOf imC Img.none L) true]
    (fun v H => ∃ (L' : List Img) (dom' : List Int → Prop) (c' : List Int → Int) (m' : Nat) (g' : MG), (L' = addI L dom i ∧ dom' = domPut dom (keyH i.h) ∧ ∀ k, dom' k → 1 ≤ c' k ∧ c' k ≤ (cc + 1 : Nat)) ∧ v = .tup [] ∧
      H = [.cells 112 [.map 2], .cells 90 [.osl 4 L'.length], .map K6 true false dom' (fun k => [.int .i64 (c' k)]) m' g', .gone, .row 86 9 L'.length (rowOf imC Img.none L') true]) := by
  refine Callee.mono (add77 i L hL dom c cc hcc h4 m g) ?_
  rintro _ _ ⟨m', g', rfl, rfl⟩
  exact ⟨_, _, _, m', g', ⟨rfl, rfl, cntUp_le h4⟩, rfl, rfl⟩
end Go.Proofs


namespace Go.Proofs
open Go Go.Sx
set_option maxRecDepth 100000
set_option maxHeartbeats 4000000
def PS.same (s s' : PS) : Prop := s.M = s'.M ∧ s.E = s'.E
namespace PS.same
theorem wr {s s' : PS} (h : s.same s') (e b : Nat) : (s.wr e b).same (s'.wr e b) := by
  obtain ⟨M, E, W⟩ := s
  obtain ⟨M', E', W'⟩ := s'
  obtain ⟨h1, h2⟩ := h
  dsimp only at h1 h2
  subst h1 h2
  unfold PS.wr PS.ep
  dsimp only
  split
  · exact ⟨rfl, rfl⟩
  · exact ⟨rfl, rfl⟩
theorem wrB {s s' : PS} (h : s.same s') (e : Nat) : ∀ b, (s.wrB e b).same (s'.wrB e b)
  | 0 => h
  | b + 1 => (wrB h e b).wr e b
theorem wrE {s s' : PS} (h : s.same s') : ∀ e, (s.wrE e).same (s'.wrE e)
  | 0 => h
  | e + 1 => (wrE h e).wrB e 6
theorem put {s s' : PS} (h : s.same s') (b : Nat) (n : Int) : (s.put b n).same (s'.put b n) := by
  obtain ⟨h1, h2⟩ := h
  unfold PS.put PS.ep
  rw [h2]
  exact ⟨h1, rfl⟩
theorem tidy {s s' : PS} (h : s.same s') : s.tidy.same s'.tidy := by
  obtain ⟨h1, h2⟩ := h
  unfold PS.tidy PS.ep
  rw [h2]
  exact ⟨h1, rfl⟩
theorem len {s s' : PS} (h : s.same s') : s.E.length = s'.E.length := by rw [h.2]
theorem order {s s' : PS} (h : s.same s') (n : Int) (o : Int × Int) : (s.order n o).same (s'.order n o) := by
  unfold PS.order
  rw [h.len]
  split
  · exact (h.put _ _).tidy
  split
  · exact (((h.put _ _).wrE _).wr _ _).tidy
  split
  · exact tidy ⟨h.1, by show s.E ++ _ = s'.E ++ _; rw [h.2]⟩
  split
  · exact (h.wrE _).tidy
  · exact h.tidy
theorem can {s s' : PS} (h : s.same s') {b : Nat} : s.can b ↔ s'.can b := by
  unfold PS.can PS.ep
  rw [h.2]
theorem drain {s s' : PS} (h : s.same s') (b : Nat) : (s.drain b).same (s'.drain b) := by
  unfold PS.drain
  rw [h.2]
  exact (h.wr _ _).tidy
theorem symm {s s' : PS} (h : s.same s') : s'.same s := ⟨h.1.symm, h.2.symm⟩
theorem trans {s s' s'' : PS} (h : s.same s') (g : s'.same s'') : s.same s'' := ⟨h.1.trans g.1, h.2.trans g.2⟩
theorem shS {s s' : PS} (h : s.same s') : Go.Proofs.shS s = Go.Proofs.shS s' := by
  show shI s = shI s'
  unfold shI
  rw [h.1, h.2]
end PS.same
theorem shIE_inj {E E' : List C6} {K : Nat} : ∀ (r i : Nat), shIE E K r i = shIE E' K r i → ∀ j, i ≤ j → j < i + r → j < K → E.getD j (C6.all (-3)) = E'.getD j (C6.all (-3))
  | 0, i, _, j, h1, h2, _ => by omega
  | r + 1, i, h, j, h1, h2, h3 => by
    simp only [shIE, List.cons.injEq] at h
    obtain ⟨a0, a1, a2, a3, a4, a5, h⟩ := h
    rcases Nat.lt_or_eq_of_le h1 with h4 | rfl
    · exact shIE_inj r (i + 1) h j h4 (by omega) h3
    · unfold iteI at a0 a1 a2 a3 a4 a5
      rw [if_pos h3, if_pos h3] at a0 a1 a2 a3 a4 a5
      generalize E.getD i (C6.all (-3)) = c at *
      generalize E'.getD i (C6.all (-3)) = c' at *
      cases c; cases c'
      simp_all
theorem shS_inj {s s' : PS} (h1 : s.E.length ≤ 17) (h : shS s = shS s') : s.same s' := by
  have h : shI s = shI s' := h
  unfold shI at h
  simp only [List.cons.injEq] at h
  obtain ⟨a0, a1, a2, a3, a4, a5, al, h⟩ := h
  have al : s.E.length = s'.E.length := by omega
  refine ⟨?_, ?_⟩
  · obtain ⟨M, _, _⟩ := s
    obtain ⟨M', _, _⟩ := s'
    cases M; cases M'
    simp_all
  · rw [← al] at h
    have key := shIE_inj 17 0 h
    refine List.ext_getElem al fun j g1 g2 => ?_
    have := key j (Nat.zero_le _) (by omega) (by omega)
    simpa [List.getD_eq_getElem?_getD, g1, g2] using this
def Cover (x : Cache) (k : Nat) (l : List Trip) : Prop := ∀ s D, Rch x k s D → ∃ t ∈ l, t.s.same s
theorem cover_of {x : Cache} {k : Nat} {l l' : List Trip} (hc : Closed x k l l')
    (he : ∀ s D, Rch x k s D → (k = 0 ∧ s = PS.begin) ∨ (∃ k' s' D', k = k' + 1 ∧ Rch x k' s' D' ∧ k' < x.l.length ∧ s = s'.order k' (x.l.getD k' (0, 0))) → ∃ t ∈ l, t.s.same s) : Cover x k l' := by
  intro s D h
  induction h with
  | begin =>
    obtain ⟨t, h1, h2⟩ := he _ _ .begin (.inl ⟨rfl, rfl⟩)
    exact ⟨t, hc.pre.subset h1, h2⟩
  | @drain k s D b hr hb hcan ih =>
    obtain ⟨t, h1, h2⟩ := ih hc he
    obtain ⟨t', h3, h4⟩ := hc.all t h1 b hb (h2.can.2 hcan)
    have hg := hc.good t' h3
    exact ⟨t', h3, (shS_inj hg.len h4).trans (h2.drain b)⟩
  | @order k s D hr hk ih =>
    obtain ⟨t, h1, h2⟩ := he _ _ (.order hr hk) (.inr ⟨k, s, D, rfl, hr, hk, rfl⟩)
    exact ⟨t, hc.pre.subset h1, h2⟩
end Go.Proofs


namespace Go.Proofs
open Go Go.Sx
set_option maxRecDepth 100000
set_option maxHeartbeats 40000000
structure NextOk (x : Cache) (k : Nat) (l nx : List Trip) (j : Nat) : Prop where
  good : ∀ t ∈ nx, t.Good x (k + 1)
  nd : (nx.map Trip.sh).Nodup
  all : ∀ i, i < j → ∃ t ∈ nx, t.sh = shS ((l.getD i Trip.none).s.order k (x.l.getD k (0, 0)))
structure Entry (x : Cache) (k : Nat) (l : List Trip) : Prop where
  good : ∀ t ∈ l, t.Good x k
  nd : (l.map Trip.sh).Nodup
  ne : 0 < l.length
  all : ∀ l', Closed x k l l' → Cover x k l'
def FitT (f : Nat → List V) (l : List Trip) : Prop := ∀ i, i < l.length → ∀ (I : Nat → Prop) (w : World) (vs : List Value), DenL I [] w (f i) vs → DenL I [] w (rowOf trC Trip.none l i) vs
theorem own_fit (η : Eta) (ty : TypeId) (sz n : Nat) (f f' : Nat → List V) (nz : Bool) : own η [.row ty sz n f nz] = own η [.row ty sz n f' nz] := by
  have key : ∀ (f f' : Nat → List V) (b : Nat), (∃ (id : Nat) (e : Option Nat × Nat) (o : O), η[id]? = some e ∧ [O.row ty sz n f nz][id]? = some o ∧ o.has e b) → (∃ (id : Nat) (e : Option Nat × Nat) (o : O), η[id]? = some e ∧ [O.row ty sz n f' nz][id]? = some o ∧ o.has e b) := by
    rintro f f' b ⟨id, e, o, h1, h2, h3⟩
    match id, h2 with
    | 0, h2 =>
      cases h2
      exact ⟨0, e, _, h1, rfl, h3.elim (fun g => .inl ⟨trivial, g.2⟩) (fun g => g.elim)⟩
  unfold own
  congr 1
  funext b
  exact propext ⟨key f f' b, key f' f b⟩
theorem sat_fit {I : Nat → Prop} {η : Eta} {w : World} {ty : TypeId} {sz n : Nat} {f f' : Nat → List V} {nz : Bool} (h : Sat I η w [.row ty sz n f nz])
    (hf : ∀ i, i < n → ∀ (I : Nat → Prop) (w : World) (vs : List Value), DenL I [] w (f i) vs → DenL I [] w (f' i) vs) : Sat I η w [.row ty sz n f' nz] := by
  have ho := own_fit η ty sz n f' f nz
  refine ⟨by simpa using h.len, fun id e o h1 h2 => ?_, fun id id' b e e' o o' _ _ h3 h4 _ _ => ?_, fun b hb => h.notI b (ho ▸ hb), fun b hb => h.lt b (ho ▸ hb), h.ilt⟩
  · match id, h2 with
    | 0, h2 =>
      cases h2
      obtain ⟨xs, g1, g2, g3, g4⟩ := h.obj 0 e _ h1 rfl
      exact ⟨xs, g1, g2, g3, fun i hi => hf i hi _ _ _ (g4 i hi)⟩
  · have q1 := (List.getElem?_eq_some_iff.1 h3).1
    have q2 := (List.getElem?_eq_some_iff.1 h4).1
    simp at q1 q2
    omega
theorem Callee.fit {P : Program} {g : FuncId} {args : List V} {ty : TypeId} {sz n : Nat} {f f' : Nat → List V} {nz : Bool} {R : V → List O → Prop} (h : Sx.Callee P g args [.row ty sz n f' nz] R)
    (hf : ∀ i, i < n → ∀ (I : Nat → Prop) (w : World) (vs : List Value), DenL I [] w (f i) vs → DenL I [] w (f' i) vs) : Sx.Callee P g args [.row ty sz n f nz] R := by
  unfold Sx.Callee at h ⊢
  refine ⟨h.1, fun I η w vals hS hd => ?_⟩
  have := h.2 I η w vals (sat_fit hS hf) hd
  rw [own_fit η ty sz n f f' nz]
  exact this
theorem FitT.own (l : List Trip) : FitT (rowOf trC Trip.none l) l := fun _ _ _ _ _ h => h
theorem FitT.begin : FitT (fun _ => [stI PS.begin, .lit (.slice none 0 0)]) [⟨PS.begin, []⟩] := by
  intro i hi I w vs h
  obtain rfl : i = 0 := by simp at hi; omega
  obtain ⟨v, r, rfl, h1, v2, r2, rfl, h2, rfl⟩ := h
  exact ⟨v, _, rfl, h1, v2, _, rfl, .inl ⟨rfl, none, 0, h2⟩, rfl⟩
theorem NextOk.start {x : Cache} {k : Nat} {l : List Trip} : NextOk x k l [] 0 := ⟨by simp, by simp, fun i hi => by omega⟩
theorem NextOk.add {x : Cache} {k : Nat} {l nx : List Trip} {i : Nat} (h : NextOk x k l nx i) {t : Trip} (ht : t.Good x (k + 1)) (hs : t.sh = shS ((l.getD i Trip.none).s.order k (x.l.getD k (0, 0)))) (hn : ¬ ∃ t' ∈ nx, t'.sh = t.sh) : NextOk x k l (nx ++ [t]) (i + 1) := by
  refine ⟨fun t' ht' => ?_, ?_, fun j hj => ?_⟩
  · rcases List.mem_append.1 ht' with h1 | h1
    · exact h.good t' h1
    · rw [List.mem_singleton.1 h1]; exact ht
  · rw [List.map_append, List.nodup_append]
    refine ⟨h.nd, by simp, fun a ha c hc => ?_⟩
    simp only [List.map_cons, List.map_nil, List.mem_singleton] at hc
    subst hc
    intro hac
    obtain ⟨t', ht', rfl⟩ := List.mem_map.1 ha
    exact hn ⟨t', ht', hac⟩
  · rcases Nat.lt_or_eq_of_le (show j ≤ i by omega) with h1 | rfl
    · obtain ⟨t', h3, h4⟩ := h.all j h1
      exact ⟨t', List.mem_append_left _ h3, h4⟩
    · exact ⟨t, by simp, hs⟩
theorem NextOk.old {x : Cache} {k : Nat} {l nx : List Trip} {i : Nat} (h : NextOk x k l nx i) (hs : ∃ t' ∈ nx, t'.sh = shS ((l.getD i Trip.none).s.order k (x.l.getD k (0, 0)))) : NextOk x k l nx (i + 1) :=
  ⟨h.good, h.nd, fun j hj => by
    rcases Nat.lt_or_eq_of_le (show j ≤ i by omega) with h1 | rfl
    · exact h.all j h1
    · exact hs⟩
theorem NextOk.entry {x : Cache} {k : Nat} {l' nx : List Trip} (h : NextOk x k l' nx l'.length) (hk : k < x.l.length) (hpos : 0 < l'.length) (hcov : Cover x k l') : Entry x (k + 1) nx := by
  refine ⟨h.good, h.nd, ?_, fun l'' hc => cover_of hc ?_⟩
  · obtain ⟨t, h1, _⟩ := h.all 0 (by
      have := hcov
      have hne : 0 < l'.length := hpos
      exact hne)
    exact List.length_pos_of_mem h1
  · rintro s D hr (⟨h0, _⟩ | ⟨k', s', D', h0, hr', hk', rfl⟩)
    · omega
    · obtain rfl : k' = k := by omega
      obtain ⟨t, h1, h2⟩ := hcov s' D' hr'
      obtain ⟨i, hi, rfl⟩ := List.getElem_of_mem h1
      obtain ⟨t2, h3, h4⟩ := h.all i hi
      rw [getD_at hi] at h4
      exact ⟨t2, h3, (shS_inj (h.good t2 h3).len h4).trans (h2.order _ _)⟩
def ImgOk (x : Cache) (im : Img) : Prop :=
  (im.torn = false ∧ Rch x x.l.length im.t.s im.t.D ∧ im.h = im.t.s.M) ∨
  (im.torn = true ∧ ∃ (s : PS) (D : List (Int × Int)) (b : Nat), Rch x x.l.length s D ∧ (b : Int) < x.n ∧ s.can b ∧ im.h = s.M.set b (-2) ∧ im.t = ⟨s.drain b, D ++ [((x.l.length : Int), (b : Int))]⟩)
structure ImgsOk (x : Cache) (L : List Img) (dom : List Int → Prop) : Prop where
  ok : ∀ im ∈ L, ImgOk x im
  dom : ∀ k, dom k ↔ ∃ im ∈ L, keyH im.h = k
def HasI (x : Cache) (L : List Img) (s : PS) (b : Nat) : Prop := (∃ im ∈ L, im.h = s.M) ∧ ∀ b' : Nat, b' < b → (b' : Int) < x.n → s.can b' → ∃ im ∈ L, im.h = s.M.set b' (-2)
def Done (x : Cache) (l : List Trip) (L : List Img) (i : Nat) : Prop := ∀ j, j < i → HasI x L (l.getD j Trip.none).s 6
theorem ImgsOk.nil (x : Cache) : ImgsOk x [] (fun _ => False) := ⟨by simp, by simp⟩
theorem Done.zero (x : Cache) (l : List Trip) : Done x l [] 0 := fun j hj => by omega
structure Imgs (x : Cache) (L : List Img) : Prop where
  ok : ∀ im ∈ L, ImgOk x im
  all : ∀ s D, Rch x x.l.length s D → HasI x L s 6
  len : L.length ≤ 458752
theorem HasI.sub {x : Cache} {L L' : List Img} {s : PS} {b : Nat} (h : HasI x L s b) (hs : ∀ im ∈ L, im ∈ L') : HasI x L' s b :=
  ⟨h.1.imp fun _ g => ⟨hs _ g.1, g.2⟩, fun b' h1 h2 h3 => (h.2 b' h1 h2 h3).imp fun _ g => ⟨hs _ g.1, g.2⟩⟩
theorem Done.sub {x : Cache} {l : List Trip} {L L' : List Img} {i : Nat} (h : Done x l L i) (hs : ∀ im ∈ L, im ∈ L') : Done x l L' i := fun j hj => (h j hj).sub hs
theorem Done.step {x : Cache} {l : List Trip} {L : List Img} {i : Nat} (h : Done x l L i) (hi : HasI x L (l.getD i Trip.none).s 6) : Done x l L (i + 1) := fun j hj => by
  rcases Nat.lt_or_eq_of_le (show j ≤ i by omega) with h1 | rfl
  · exact h j h1
  · exact hi
theorem HasI.full {x : Cache} {L : List Img} {s : PS} (h : HasI x L s x.n.toNat) (hx : x.Ok) : HasI x L s 6 := ⟨h.1, fun b' _ h2 h3 => h.2 b' (by have := hx.n; omega) h2 h3⟩
theorem HasI.skip {x : Cache} {L : List Img} {s : PS} {b : Nat} (h : HasI x L s b) (hc : ¬ s.can b) : HasI x L s (b + 1) := ⟨h.1, fun b' h1 h2 h3 => by
  rcases Nat.lt_or_eq_of_le (show b' ≤ b by omega) with h4 | rfl
  · exact h.2 b' h4 h2 h3
  · exact absurd h3 hc⟩
theorem HasI.add {x : Cache} {L : List Img} {s : PS} {b : Nat} (h : HasI x L s b) (hc : ∃ im ∈ L, im.h = s.M.set b (-2)) : HasI x L s (b + 1) := ⟨h.1, fun b' h1 h2 h3 => by
  rcases Nat.lt_or_eq_of_le (show b' ≤ b by omega) with h4 | rfl
  · exact h.2 b' h4 h2 h3
  · exact hc⟩
theorem ImgsOk.add {x : Cache} {L : List Img} {dom : List Int → Prop} (h : ImgsOk x L dom) {im : Img} (hi : ImgOk x im) :
    ImgsOk x (addI L dom im) (domPut dom (keyH im.h)) ∧ (∀ y ∈ L, y ∈ addI L dom im) ∧ (∃ y ∈ addI L dom im, y.h = im.h) ∧ (addI L dom im).length ≤ L.length + 1 := by
  unfold addI
  split
  · rename_i hd
    refine ⟨⟨h.ok, fun k => ?_⟩, fun y hy => hy, ?_, by omega⟩
    · unfold domPut
      rw [← h.dom]
      exact ⟨fun g => g.elim (fun e => e ▸ hd) id, .inr⟩
    · obtain ⟨y, h1, h2⟩ := (h.dom _).1 hd
      exact ⟨y, h1, keyH_inj h2⟩
  · refine ⟨⟨fun y hy => ?_, fun k => ?_⟩, fun y hy => List.mem_append_left _ hy, ⟨im, by simp, rfl⟩, by simp⟩
    · rcases List.mem_append.1 hy with h1 | h1
      · exact h.ok y h1
      · rw [List.mem_singleton.1 h1]; exact hi
    · unfold domPut
      rw [h.dom]
      constructor
      · rintro (rfl | ⟨y, h1, rfl⟩)
        · exact ⟨im, by simp, rfl⟩
        · exact ⟨y, List.mem_append_left _ h1, rfl⟩
      · rintro ⟨y, h1, rfl⟩
        rcases List.mem_append.1 h1 with h1 | h1
        · exact .inr ⟨y, h1, rfl⟩
        · exact .inl (by rw [List.mem_singleton.1 h1])
theorem ImgsOk.imgs {x : Cache} {L : List Img} {dom : List Int → Prop} {l : List Trip} (h : ImgsOk x L dom) (hd : Done x l L l.length) (hc : Cover x x.l.length l) (hl : L.length ≤ 458752) : Imgs x L := by
  refine ⟨h.ok, fun s D hr => ?_, hl⟩
  obtain ⟨t, h1, h2⟩ := hc s D hr
  obtain ⟨i, hi, rfl⟩ := List.getElem_of_mem h1
  have h3 := hd i hi
  rw [getD_at hi] at h3
  obtain ⟨h4, h5⟩ := h3
  rw [h2.1] at h4 h5
  exact ⟨h4, fun b' g1 g2 g3 => h5 b' g1 g2 (h2.can.2 g3)⟩
noncomputable def images56A (x : Cache) (hx : x.Ok) (hgood : ∀ k s D, Rch x k s D → (⟨s, D⟩ : Trip).Good x k)
    (hcap : ∀ k, ∀ l : List Trip, (∀ t ∈ l, t.Good x k) → (l.map Trip.sh).Nodup → l.length ≤ 65536) :
    { G : List Trip → (Nat → List V) → Prop // (∀ l f, Entry x x.l.length l → FitT f l → l.length ≤ 65536 → G l f) → PureC Try.prog 56 true [x.v] (fun r => ∃ L : List Img, Imgs x L ∧ r = .sl 9 L.length (rowOf imC Img.none L)) } := by
  constructor
  case property =>
    intro hG
    have hn6 := hx.n
    have hl16 := hx.len
    refine pureC_of_exec Try.E_ok Try.func56 rfl (by kernel_rfl) ?_
    (repeat' ((conv => whnf); (first | (with_reducible first | apply spl | apply spl') <;> intro hc <;> try (exfalso; omega) | with_reducible refine iJ fun hc => ?_ | refine vcq (k := ?_) | refine dr 2004 (k := ?_) | refine dr 8 (k := ?_) | refine dr 10 (k := ?_)))); all_goals ((try conv => whnf); try with_reducible exact trivial)
    refine callee_new begin42 rfl ?_
    rintro _ _ ⟨rfl, rfl⟩
    (repeat' ((conv => whnf); (first | (with_reducible first | apply spl | apply spl') <;> intro hc <;> try (exfalso; omega) | with_reducible refine iJ fun hc => ?_ | refine vcq (k := ?_) | refine dr 2004 (k := ?_) | refine dr 8 (k := ?_) | refine dr 10 (k := ?_)))); all_goals ((try conv => whnf); try with_reducible exact trivial)
    refine ⟨Nat × List Trip × (Nat → List V), fun q => q.1 ≤ x.l.length ∧ Entry x q.1 q.2.1 ∧ FitT q.2.2 q.2.1, fun q => x.l.length - q.1, fun q => [(24, .int .i64 (q.1 : Nat)), (3, .osl 4 q.2.1.length)],
      fun q => [(3, .gone)], fun q => [.row 84 2 q.2.1.length q.2.2 false], (0, [⟨PS.begin, []⟩], fun _ => [stI PS.begin, .lit (.slice none 0 0)]), ⟨⟨by dsimp only; omega, ?_, ?_⟩, some [some 0, some 1, some 2, some 3, some 3], ?_⟩, ?_⟩
    · refine ⟨fun t ht => ?_, by simp, by simp, fun l' hc => cover_of hc ?_⟩
      · rw [List.mem_singleton.1 ht]; exact hgood 0 _ _ .begin
      · rintro s D hr (⟨_, rfl⟩ | ⟨k', s', D', h0, _⟩)
        · exact ⟨⟨PS.begin, []⟩, by simp, rfl, rfl⟩
        · omega
    · exact FitT.begin
    · (repeat' ((conv => whnf); (first | (with_reducible first | apply spl | apply spl') <;> intro hc <;> try (exfalso; omega) | with_reducible refine iJ fun hc => ?_ | refine vcq (k := ?_) | refine dr 2004 (k := ?_)))); all_goals ((try conv => whnf); try with_reducible exact trivial)
    · rintro ⟨k, l, f⟩ ⟨hk, hent, hfit⟩
      dsimp only at hk hent hfit
      have hlc := hcap k l hent.good hent.nd
      (repeat' ((conv => whnf); (first | (with_reducible first | apply spl | apply spl') <;> intro hc <;> try (exfalso; omega) | with_reducible refine iJ fun hc => ?_ | refine vcq (k := ?_) | refine dr 2004 (k := ?_) | refine dr 8 (k := ?_) | refine dr 10 (k := ?_)))); all_goals ((try conv => whnf); try with_reducible exact trivial)
      · have hk1 : k < x.l.length := by dsimp only at hc; omega
        refine callee_frame [4] (Callee.fit (drained74 x hx k (by omega) (hgood k) (hcap k) l hent.ne hent.good hent.nd) hfit) rfl ?_ ?_
        · (repeat' ((conv => whnf); (first | (with_reducible first | apply spl | apply spl') <;> intro hc <;> try (exfalso; omega) | with_reducible refine iJ fun hc => ?_ | refine vcq (k := ?_) | refine dr 2004 (k := ?_)))); all_goals ((try conv => whnf); try with_reducible exact trivial)
        · rintro _ _ ⟨l', hcl, rfl, rfl⟩
          have hlc' := hcap k l' hcl.good hcl.nd
          have hcov := hent.all l' hcl
          have hpos : 0 < l'.length := Nat.lt_of_lt_of_le hent.ne hcl.pre.length_le
          (repeat' ((conv => whnf); (first | (with_reducible first | apply spl | apply spl') <;> intro hc <;> try (exfalso; omega) | with_reducible refine iJ fun hc => ?_ | refine vcq (k := ?_) | refine dr 2004 (k := ?_) | refine dr 8 (k := ?_) | refine dr 10 (k := ?_)))); all_goals ((try conv => whnf); try with_reducible exact trivial)
          intro g0
          (repeat' ((conv => whnf); (first | (with_reducible first | apply spl | apply spl') <;> intro hc <;> try (exfalso; omega) | with_reducible refine iJ fun hc => ?_ | refine vcq (k := ?_) | refine dr 2004 (k := ?_) | refine dr 8 (k := ?_) | refine dr 10 (k := ?_)))); all_goals ((try conv => whnf); try with_reducible exact trivial)
          refine ⟨Nat × List Trip × (List Int → Prop) × (List Int → Int) × Nat × MG, fun q => q.1 ≤ l'.length ∧ NextOk x k l' q.2.1 q.1 ∧ (∀ k, q.2.2.1 k ↔ ∃ t ∈ q.2.1, t.sh = k) ∧ ∀ k, q.2.2.1 k → 1 ≤ q.2.2.2.1 k ∧ q.2.2.2.1 k ≤ q.1, fun q => l'.length - q.1, fun q => [(37, .int .i64 (q.1 : Nat)), (7, .osl 8 q.2.1.length)],
            fun q => [(7, .map K109 true false q.2.2.1 (fun k => [.int .i64 (q.2.2.2.1 k)]) q.2.2.2.2.1 q.2.2.2.2.2)], fun q => [.row 84 2 q.2.1.length (rowOf trC Trip.none q.2.1) true], (0, [], (fun _ => False), (fun _ => 0), 0, g0), ⟨⟨by dsimp only; omega, NextOk.start, by simp, by simp⟩, some [some 0, some 1, some 2, some 3, some 4, some 5, some 6, some 7, none], ?_⟩, ?_⟩
          · (repeat' ((conv => whnf); (first | (with_reducible first | apply spl | apply spl') <;> intro hc <;> try (exfalso; omega) | with_reducible refine iJ fun hc => ?_ | refine vcq (k := ?_) | refine dr 2004 (k := ?_)))); all_goals ((try conv => whnf); try with_reducible exact trivial)
            refine ⟨allInts_all (fun k _ => ⟨Iff.rfl, fun h => h.elim⟩), ?_⟩
            (repeat' ((conv => whnf); (first | (with_reducible first | apply spl | apply spl') <;> intro hc <;> try (exfalso; omega) | with_reducible refine iJ fun hc => ?_ | refine vcq (k := ?_) | refine dr 2004 (k := ?_)))); all_goals ((try conv => whnf); try with_reducible exact trivial)
          · rintro ⟨i, nx, dom, c, m, g⟩ ⟨h1, h2, h3, h4⟩
            dsimp only at h1 h2 h3 h4
            have hlcn := hcap (k + 1) nx h2.good h2.nd
            have hq : ∀ key, inR .i64 (cntV dom c key + 1) := fun key => by
              unfold cntV
              split
              · rename_i h; have := h4 key h; show (-9223372036854775808 : Int) ≤ _ ∧ _ ≤ (9223372036854775807 : Int); omega
              · show (-9223372036854775808 : Int) ≤ _ ∧ _ ≤ (9223372036854775807 : Int); omega
            have hlk := cntV_again dom c
            (repeat' ((conv => whnf); (first | (with_reducible first | apply spl | apply spl') <;> intro hc <;> try (exfalso; omega) | with_reducible refine iJ fun hc => ?_ | refine vcq (k := ?_) | refine dr 2004 (k := ?_) | refine dr 8 (k := ?_) | refine dr 10 (k := ?_)))); all_goals ((try conv => whnf); try with_reducible exact trivial)
            · have hi : i < l'.length := by dsimp only at hc; omega
              have htm : l'.getD i Trip.none ∈ l' := by simp [List.getD_eq_getElem?_getD, hi]
              have htg := hcl.good _ htm
              refine callee_new (clone75 (l'.getD i Trip.none).s htg.sm) rfl ?_
              rintro _ _ ⟨rfl, rfl⟩
              (repeat' ((conv => whnf); (first | (with_reducible first | apply spl | apply spl') <;> intro hc <;> try (exfalso; omega) | with_reducible refine iJ fun hc => ?_ | refine vcq (k := ?_) | refine dr 2004 (k := ?_) | refine dr 8 (k := ?_) | refine dr 10 (k := ?_)))); all_goals ((try conv => whnf); try with_reducible exact trivial)
              refine callee_frame [10, 11] (order43 (l'.getD i Trip.none).s htg.sm (by have := htg.len; omega) (by have := htg.W; omega) k (x.l.getD k (0, 0)) (hx.blk hk1)) rfl ?_ ?_
              · (repeat' ((conv => whnf); (first | (with_reducible first | apply spl | apply spl') <;> intro hc <;> try (exfalso; omega) | with_reducible refine iJ fun hc => ?_ | refine vcq (k := ?_) | refine dr 2004 (k := ?_)))); all_goals ((try conv => whnf); try with_reducible exact trivial)
              · rintro _ _ ⟨rfl, rfl⟩
                (repeat' ((conv => whnf); (first | (with_reducible first | apply spl | apply spl') <;> intro hc <;> try (exfalso; omega) | with_reducible refine iJ fun hc => ?_ | refine vcq (k := ?_) | refine dr 2004 (k := ?_) | refine dr 8 (k := ?_) | refine dr 10 (k := ?_)))); all_goals ((try conv => whnf); try with_reducible exact trivial)
                have hnew : (⟨(l'.getD i Trip.none).s.order k (x.l.getD k (0, 0)), (l'.getD i Trip.none).D⟩ : Trip).Good x (k + 1) := hgood _ _ _ (Rch.order htg.r hk1)
                refine callee_view (shape76f ((l'.getD i Trip.none).s.order k (x.l.getD k (0, 0))) hnew.sm.len) ?_
                (repeat' ((conv => whnf); (first | (with_reducible first | apply spl | apply spl') <;> intro hc <;> try (exfalso; omega) | with_reducible refine iJ fun hc => ?_ | refine vcq (k := ?_) | refine dr 2004 (k := ?_)))); all_goals ((try conv => whnf); try with_reducible exact trivial)
                rintro _ rfl
                have hsh : (⟨(l'.getD i Trip.none).s.order k (x.l.getD k (0, 0)), (l'.getD i Trip.none).D⟩ : Trip).sh = shF (shf ((l'.getD i Trip.none).s.order k (x.l.getD k (0, 0)))) := rfl
                have hsd : shF (shf ((l'.getD i Trip.none).s.order k (x.l.getD k (0, 0)))) = shS ((l'.getD i Trip.none).s.order k (x.l.getD k (0, 0))) := rfl
                generalize shf ((l'.getD i Trip.none).s.order k (x.l.getD k (0, 0))) = f at hsh hsd ⊢
                (repeat' ((conv => whnf); (first | (with_reducible first | apply spl | apply spl') <;> intro hc <;> try (exfalso; omega) | with_reducible refine iJ fun hc => ?_ | refine vcq (k := ?_) | refine dr 2004 (k := ?_) | refine dr 8 (k := ?_) | refine dr 10 (k := ?_)))); all_goals ((try conv => whnf); try with_reducible exact trivial)
                (repeat' ((first | (refine And.intro (hq _) ?_) | (refine And.intro (hlk _) ?_) | (refine And.intro ⟨rfl, .inl rfl, rfl⟩ ?_)); (repeat' ((conv => whnf); (first | (with_reducible first | apply spl | apply spl') <;> intro hc <;> try (exfalso; omega) | with_reducible refine iJ fun hc => ?_ | refine vcq (k := ?_) | refine dr 2004 (k := ?_) | refine dr 8 (k := ?_) | refine dr 10 (k := ?_)))); all_goals ((try conv => whnf); try with_reducible exact trivial)))
                intro g1
                (repeat' ((conv => whnf); (first | (with_reducible first | apply spl | apply spl') <;> intro hc <;> try (exfalso; omega) | with_reducible refine iJ fun hc => ?_ | refine vcq (k := ?_) | refine dr 2004 (k := ?_) | refine dr 8 (k := ?_) | refine dr 10 (k := ?_)))); all_goals ((try conv => whnf); try with_reducible exact trivial)
                (repeat' ((first | (refine And.intro (hq _) ?_) | (refine And.intro (hlk _) ?_) | (refine And.intro ⟨rfl, .inl rfl, rfl⟩ ?_)); (repeat' ((conv => whnf); (first | (with_reducible first | apply spl | apply spl') <;> intro hc <;> try (exfalso; omega) | with_reducible refine iJ fun hc => ?_ | refine vcq (k := ?_) | refine dr 2004 (k := ?_) | refine dr 8 (k := ?_) | refine dr 10 (k := ?_)))); all_goals ((try conv => whnf); try with_reducible exact trivial)))
                · have hno : ¬ dom (shF f) := (cnt_new (fun k h => (h4 k h).1)).1 hc
                  clear hc
                  refine ⟨(i + 1, nx ++ [⟨(l'.getD i Trip.none).s.order k (x.l.getD k (0, 0)), (l'.getD i Trip.none).D⟩], domPut dom (shF f), cntUp dom c (shF f), nPut dom m (shF f), g1), ⟨⟨by dsimp only; omega, h2.add hnew (hsh.trans hsd) (fun h => hno ((h3 _).2 (hsh ▸ h))), (hsh ▸ dom_snoc h3 _), cntUp_le h4⟩, by dsimp only; omega⟩, some [some 0, some 1, some 2, some 3, some 4, some 5, some 6, some 7, some 15], ?_⟩
                  (repeat' ((conv => whnf); (first | (with_reducible first | apply spl | apply spl') <;> intro hc <;> try (exfalso; omega) | with_reducible refine iJ fun hc => ?_ | refine vcq (k := ?_) | refine dr 2004 (k := ?_)))); all_goals ((try conv => whnf); try with_reducible exact trivial)
                  refine ⟨by simp, ?_⟩
                  (repeat' ((conv => whnf); (first | (with_reducible first | apply spl | apply spl') <;> intro hc <;> try (exfalso; omega) | with_reducible refine iJ fun hc => ?_ | refine vcq (k := ?_) | refine dr 2004 (k := ?_)))); all_goals ((try conv => whnf); try with_reducible exact trivial)
                  refine ⟨allInts_all (fun key _ => ⟨Iff.rfl, fun h => cntUp_eq dom c _ key h⟩), ?_⟩
                  (repeat' ((conv => whnf); (first | (with_reducible first | apply spl | apply spl') <;> intro hc <;> try (exfalso; omega) | with_reducible refine iJ fun hc => ?_ | refine vcq (k := ?_) | refine dr 2004 (k := ?_)))); all_goals ((try conv => whnf); try with_reducible exact trivial)
                  refine ⟨by simp, rowOf_snoc (c := trC) (a := (⟨(l'.getD i Trip.none).s.order k (x.l.getD k (0, 0)), (l'.getD i Trip.none).D⟩ : Trip)) (l := nx) rfl (fun _ _ => rfl), ?_⟩
                  (repeat' ((conv => whnf); (first | (with_reducible first | apply spl | apply spl') <;> intro hc <;> try (exfalso; omega) | with_reducible refine iJ fun hc => ?_ | refine vcq (k := ?_) | refine dr 2004 (k := ?_)))); all_goals ((try conv => whnf); try with_reducible exact trivial)
                · have hyes : dom (shF f) := Classical.byContradiction fun h => hc ((cnt_new (fun k h => (h4 k h).1)).2 h)
                  clear hc
                  refine ⟨(i + 1, nx, domPut dom (shF f), cntUp dom c (shF f), nPut dom m (shF f), g1), ⟨⟨by dsimp only; omega, h2.old (hsd ▸ (h3 _).1 hyes), dom_same h3 hyes, cntUp_le h4⟩, by dsimp only; omega⟩, some [some 0, some 1, some 2, some 3, some 4, some 5, some 6, some 7, some 8], ?_⟩
                  (repeat' ((conv => whnf); (first | (with_reducible first | apply spl | apply spl') <;> intro hc <;> try (exfalso; omega) | with_reducible refine iJ fun hc => ?_ | refine vcq (k := ?_) | refine dr 2004 (k := ?_)))); all_goals ((try conv => whnf); try with_reducible exact trivial)
                  refine ⟨allInts_all (fun key _ => ⟨Iff.rfl, fun h => cntUp_eq dom c _ key h⟩), ?_⟩
                  (repeat' ((conv => whnf); (first | (with_reducible first | apply spl | apply spl') <;> intro hc <;> try (exfalso; omega) | with_reducible refine iJ fun hc => ?_ | refine vcq (k := ?_) | refine dr 2004 (k := ?_)))); all_goals ((try conv => whnf); try with_reducible exact trivial)
            · have hil : i = l'.length := by dsimp only at hc; omega
              subst hil
              have hen := h2.entry hk1 hpos hcov
              have hne := hen.ne
              refine ⟨(k + 1, nx, rowOf trC Trip.none nx), ⟨⟨by dsimp only; omega, hen, FitT.own nx⟩, by dsimp only; omega⟩, some [some 0, some 1, some 2, some 3, some 8], ?_⟩
              (repeat' ((conv => whnf); (first | (with_reducible first | apply spl | apply spl') <;> intro hc <;> try (exfalso; omega) | with_reducible refine iJ fun hc => ?_ | refine vcq (k := ?_) | refine dr 2004 (k := ?_)))); all_goals ((try conv => whnf); try with_reducible exact trivial)
      · obtain rfl : k = x.l.length := by dsimp only at hc; omega
        exact hG l f hent hfit hlc
end Go.Proofs

