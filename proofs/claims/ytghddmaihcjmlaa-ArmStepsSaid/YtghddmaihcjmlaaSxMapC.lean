/- Own work: a text of the proof of a law (SxMapC). -/
import Derived.Test.YtghddmaihcjmlaaSxMapB
namespace Go.Sx
open Go
open Go.ChangeMaps (setBlock)
variable {P : Program} {E : Env}

section
variable {D : List Int → List Value → Prop} {ks : List IntKind} {ka va : Bool} {dom dom0 : List Int → Prop} {n : Nat} {g : MG} {es : Array MapEntry} {kt et t : TypeId} {w : World} {b r : Nat}

theorem next_run (h : MapRel D ks ka va dom n g es.toList) (hb : w.heap[b]? = some (.map es g.clock)) {done : List (List Int)} (hr : w.heap[r]? = some (.mapIter (some b) g.clock (done.map g.born).toArray g.clock))
    (hinj : ∀ k k', dom0 k → dom0 k' → g.born k = g.born k' → k = k') (hdone : ∀ k ∈ done, dom0 k) (hsub : ∀ k, k.length = ks.length → dom k → dom0 k) (ty : TypeId) :
    ((∀ k, k.length = ks.length → dom k → k ∈ done) ∧ (Instr.next (.pointer (some ⟨r, 0, none⟩)) false ty).run P w = .ok (.tuple #[.bool false]) w) ∨
    ∃ k vs w1, k.length = ks.length ∧ dom k ∧ k ∉ done ∧ (D k vs ∧ (∀ u ∈ vs, u.oneCell' = true) ∧ (va = false → vs.length = 1)) ∧ (w1 = w ∨ w1 = w.drew) ∧
      (Instr.next (.pointer (some ⟨r, 0, none⟩)) false ty).run P w = .ok (.tuple #[.bool true, encK ks ka k, encV va vs]) (setBlock w1 r (.mapIter (some b) g.clock ((done ++ [k]).map g.born).toArray g.clock)) := by
  have hold : ∀ x ∈ es.toList, x.born < g.clock := fun x hx => by
    obtain ⟨_, _, _, _, _, _, h5, _⟩ := h.ent x hx
    exact h5
  rcases run_next_at (P := P) w ty r b g.clock g.clock _ es g.clock hr hb hold (Nat.le_refl _) with ⟨h0, h1⟩ | ⟨e, he, w1, hw, h1⟩
  · refine .inl ⟨fun k hk hd => ?_, h1⟩
    obtain ⟨x, hx, hxk⟩ := h.has k hk hd
    have hat := h.at hx hk hxk
    have hl : leftOf es (done.map g.born).toArray = #[] := Array.eq_empty_of_size_eq_zero h0
    have : ((done.map g.born).toArray.contains x.born) = true := by
      cases hc : (done.map g.born).toArray.contains x.born with
      | true => rfl
      | false =>
        exfalso
        have hm : x ∈ leftOf es (done.map g.born).toArray := by
          unfold leftOf
          rw [Array.mem_filter]
          exact ⟨by simpa using hx, by simp only [hc]; rfl⟩
        rw [hl] at hm
        simp at hm
    rw [Array.contains_iff_mem] at this
    simp at this
    obtain ⟨k', hk', hbk⟩ := this
    rw [hat.2.1] at hbk
    rw [← hinj k' k (hdone k' hk') (hsub k hk hd) hbk]
    exact hk'
  · right
    obtain ⟨hmem, hns⟩ := mem_left he
    obtain ⟨k, vs, e1, e2, e3, e4, e5, e6, e7, e8, e9⟩ := h.ent e hmem
    refine ⟨k, vs, w1, e2, e3, fun hkd => ?_, ⟨e7, e8, e9⟩, hw, ?_⟩
    · have : (done.map g.born).toArray.contains e.born = true := by
        rw [Array.contains_iff_mem]
        simp
        exact ⟨k, hkd, e4.symm⟩
      rw [this] at hns
      cases hns
    · rw [h1, e1, e6]
      simp [e4]

theorem entry_run (h : MapRel D ks ka va dom n g es.toList) (hb : w.heap[b]? = some (.map es g.clock)) {done : List (List Int)} {k : List Int} (hr : w.heap[r]? = some (.mapIter (some b) g.clock ((done ++ [k]).map g.born).toArray g.clock)) (hk : k.length = ks.length) (hd : dom k) :
    ∃ vs, (Instr.entry (.pointer (some ⟨r, 0, none⟩))).run P w = .ok (.tuple #[encK ks ka k, encV va vs]) w ∧ D k vs ∧ (∀ u ∈ vs, u.oneCell' = true) ∧ (va = false → vs.length = 1) := by
  obtain ⟨e, he, hek⟩ := h.has k hk hd
  obtain ⟨_, hbn, _, vs, e1, e2⟩ := h.at he hk hek
  have hseen : ((done ++ [k]).map g.born).toArray = ((done.map g.born).toArray).push e.born := by simp [hbn]
  rw [hseen] at hr
  have := run_entry_at (P := P) w r b g.clock _ es g.clock e hr hb he (by
    rw [List.Nodup, List.pairwise_map]
    exact h.stamps)
  exact ⟨vs, by rw [this, hek, e1], e2⟩

theorem born_inj (h : MapRel D ks ka va dom n g es.toList) {k k' : List Int} (hk : k.length = ks.length) (hk' : k'.length = ks.length) (hd : dom k) (hd' : dom k') (hb : g.born k = g.born k') : k = k' := by
  obtain ⟨e, he, hek⟩ := h.has k hk hd
  obtain ⟨e', he', hek'⟩ := h.has k' hk' hd'
  have h1 := (h.at he hk hek).2.1
  have h2 := (h.at he' hk' hek').2.1
  have : e = e' := by
    have hp := List.pairwise_iff_getElem.1 h.stamps
    obtain ⟨i, hi, rfl⟩ := List.mem_iff_getElem.1 he
    obtain ⟨j, hj, rfl⟩ := List.mem_iff_getElem.1 he'
    rcases Nat.lt_trichotomy i j with hlt | heq | hgt
    · exact (hp i j hi hj hlt (by rw [h1, h2, hb])).elim
    · subst heq; rfl
    · exact (hp j i hj hi hgt (by rw [h1, h2, hb])).elim
  subst this
  exact encK_inj h.flat hk hk' (hek.symm.trans hek')

theorem make_run : (Instr.makeMap t none).run P w = .ok (.map (some w.heap.size)) (w.alloc (.map #[] 0)) := by
  simp [Instr.makeMap, newObj, Sem.run]

theorem range_run (hu : P.underlying t = some (.map kt et)) (hb : w.heap[b]? = some (.map es g.clock)) : (Instr.range t (.map (some b))).run P w = .ok (.pointer (some ⟨w.heap.size, 0, none⟩)) (w.alloc (.mapIter (some b) g.clock #[] g.clock)) := by
  simp [Instr.range, run_underlying hu, getObj, newObj, Sem.run, hb, Result.andThen]
end
end Go.Sx
