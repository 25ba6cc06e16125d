/- Own work: a text of the proof of a law (SxMapB). -/
import Derived.Test.YtghddmaihcjmlaaSxMapA
namespace Go.Sx
open Go
open Go.ChangeMaps (setBlock)
variable {P : Program} {E : Env}

section
variable {D : List Int → List Value → Prop} {ks : List IntKind} {ka va : Bool} {dom : List Int → Prop} {n : Nat} {g : MG} {es : Array MapEntry} {kt et t : TypeId} {w : World} {b : Nat}

theorem run_setMap (hb : w.heap[b]? = some (.map es g.clock)) (o' : Obj) : (setObj b o').run P w = .ok () (setBlock w b o') := by
  simp [setObj, Sem.run, hb, setBlock]

theorem look_run (h : MapRel D ks ka va dom n g es.toList) (K : KeyT P kt ks ka) (hu : P.underlying t = some (.map kt et)) (hb : w.heap[b]? = some (.map es g.clock)) {z : Value} (hz : (zeroValue et).run P w = .ok z w) {k : List Int} (hk : k.length = ks.length) (c : Bool) :
    ∃ v, (Instr.lookup t (.map (some b)) (encK ks ka k) c).run P w = .ok (if c then .tuple #[v, .bool (@decide (dom k) (Classical.propDecidable _))] else v) w ∧ (dom k → ∃ vs, v = encV va vs ∧ D k vs ∧ (∀ u ∈ vs, u.oneCell' = true) ∧ (va = false → vs.length = 1)) ∧ (¬ dom k → v = z) := by
  have hc := K.flat.check w 10000 es.isEmpty k (Nat.le_refl _) hk
  rcases h.find K hk w with ⟨h1, h2, _⟩ | ⟨j, e, h1, h2, h3, h4⟩
  · refine ⟨z, ?_, fun hd => (h2 hd).elim, fun _ => rfl⟩
    have hdec : @decide (dom k) (Classical.propDecidable _) = false := by simp [h2]
    rw [hdec]
    simp [Instr.lookup, run_underlying hu, getObj, Sem.run, hb, Result.andThen, hc, h1, hz]
  · obtain ⟨_, _, _, vs, e1, e2⟩ := h.at (List.mem_of_getElem? h2) hk h3
    refine ⟨e.val, ?_, fun _ => ⟨vs, e1, e2⟩, fun hd => (hd h4).elim⟩
    have hdec : @decide (dom k) (Classical.propDecidable _) = true := by simp [h4]
    rw [hdec]
    simp [Instr.lookup, run_underlying hu, getObj, Sem.run, hb, Result.andThen, hc, h1]

theorem put_run (h : MapRel D ks ka va dom n g es.toList) (K : KeyT P kt ks ka) (hu : P.underlying t = some (.map kt et)) (hb : w.heap[b]? = some (.map es g.clock)) {k : List Int} (hk : k.length = ks.length) {vs : List Value} (h1 : ∀ u ∈ vs, u.oneCell' = true) (hl : va = false → vs.length = 1) :
    ∃ es' g', (Instr.mapUpdate t (.map (some b)) (encK ks ka k) (encV va vs)).run P w = .ok () (setBlock w b (.map es' g'.clock)) ∧
      MapRel (fun k' vs' => (k' = k → vs' = vs) ∧ (k' ≠ k → D k' vs')) ks ka va (domPut dom k) (nPut dom n k) g' es'.toList := by
  have hc := K.flat.check w 10000 false k (Nat.le_refl _) hk
  rcases h.find K hk w with ⟨e1, e2, _⟩ | ⟨j, e, e1, e2, e3, e4⟩
  · refine ⟨es.push { key := encK ks ka k, val := encV va vs, born := g.clock }, ⟨fun k' => @ite _ (k' = k) (Classical.propDecidable _) g.clock (g.born k'), g.clock + 1⟩, ?_, ?_⟩
    rotate_left
    · have := h.put hk e2 h1 hl
      have hn : nPut dom n k = n + 1 := by simp [nPut, e2]
      rw [hn, Array.toList_push]
      exact this
    · simp only [Instr.mapUpdate, Sem.run_bind, run_underlying hu, Result.andThen_ok, getObj, Sem.run, hb, hc, e1]
      exact run_setMap hb _
  · refine ⟨es.modify j fun x => { x with key := encK ks ka k, val := encV va vs }, g, ?_, ?_⟩
    · have hk0 : ((es[j]?).map (·.key)).getD (encK ks ka k) = encK ks ka k := by
        have : es[j]? = some e := by simpa using e2
        rw [this]; exact e3
      simp only [Instr.mapUpdate, Sem.run_bind, run_underlying hu, Result.andThen_ok, getObj, Sem.run, hb, hc, e1, hk0, K.flat.stays hk w]
      exact run_setMap hb _
    · have := (h.over hk e2 e3 h1 hl)
      have hn : nPut dom n k = n := by simp [nPut, e4]
      rw [hn]
      have hes : (es.modify j fun x => { x with key := encK ks ka k, val := encV va vs }).toList = es.toList.set j { e with key := encK ks ka k, val := encV va vs } := by
        have hjl := (List.getElem?_eq_some_iff.1 e2).1
        have hje := (List.getElem?_eq_some_iff.1 e2).2
        apply List.ext_getElem (by simp)
        intro i a b
        simp only [Array.getElem_toList, Array.getElem_modify, List.getElem_set]
        split
        · rename_i hij
          subst hij
          have : es[j] = e := by simpa using hje
          rw [this]
        · rfl
      rw [hes]
      refine this.turn (fun k' hk' => ?_) (fun k' vs' _ _ hd => hd)
      unfold domPut
      constructor
      · exact .inr
      · rintro (rfl | hh); exact e4; exact hh

theorem del_run (h : MapRel D ks ka va dom n g es.toList) (K : KeyT P kt ks ka) (hu : P.underlying t = some (.map kt et)) (hb : w.heap[b]? = some (.map es g.clock)) {k : List Int} (hk : k.length = ks.length) (ty kt' : TypeId) :
    ∃ es' : Array MapEntry, (Builtin.delete_ #[t, kt'] ty #[.map (some b), encK ks ka k]).run P w = .ok (.tuple #[]) (setBlock w b (.map es' g.clock)) ∧
      MapRel D ks ka va (domDel dom k) (nDel dom n k) g es'.toList := by
  have hc := K.flat.check w 10000 es.isEmpty k (Nat.le_refl _) hk
  rcases h.find K hk w with ⟨e1, e2, _⟩ | ⟨j, e, e1, e2, e3, e4⟩
  · refine ⟨es, ?_, ?_⟩
    · have := run_setMap (P := P) hb (.map es g.clock)
      simp [Builtin.delete_, run_underlying hu, getObj, Sem.run, hb, Result.andThen, hc, e1, this]
    · have hn : nDel dom n k = n := by simp [nDel, e2]
      rw [hn]
      refine h.turn (fun k' hk' => ⟨fun hd => ⟨hd, fun he => e2 (he ▸ hd)⟩, fun hd => hd.1⟩) (fun k' vs' _ _ hd => hd)
  · refine ⟨es.eraseIdxIfInBounds j, ?_, ?_⟩
    · have := run_setMap (P := P) hb (.map (es.eraseIdxIfInBounds j) g.clock)
      simp [Builtin.delete_, run_underlying hu, getObj, Sem.run, hb, Result.andThen, hc, e1, this]
    · have hn : nDel dom n k = n - 1 := by simp [nDel, e4]
      rw [hn]
      have hjl := (List.getElem?_eq_some_iff.1 e2).1
      have : (es.eraseIdxIfInBounds j).toList = es.toList.eraseIdx j := by
        simp [Array.eraseIdxIfInBounds, show j < es.size by simpa using hjl]
      rw [this]
      exact h.del hk e2 e3
end
end Go.Sx
