/- Own work: texts of the proof of a law (QuN4). No condition. -/
import Derived.Test.YthjcfbkgfnnkkaaPart20
namespace Go.Proofs
open Go Go.Sx
set_option maxHeartbeats 1000000
def ezS (a b : Int) (s : Int × Int) : Int × Int := (min s.2 (s.1 + a), max (min s.2 (s.1 + a)) (s.2 - b))
namespace Qu
def ez (q : Qu) (a b : Int) : Qu := { q with sk := q.sk.map (ezS a b) }
theorem Ok.ez {q : Qu} (h : q.Ok) {a b : Int} (ha : 0 ≤ a) (hb : 0 ≤ b) : (q.ez a b).Ok := by
  refine ⟨h.d, h.cyl, by show (q.sk.map _).length = _; rw [List.length_map]; exact h.skl, h.rql, h.pas, fun s hs => ?_, h.rq, h.asc⟩
  obtain ⟨s', h', rfl⟩ := List.mem_map.1 hs
  have := h.sk s' h'
  unfold ezS
  dsimp only
  omega
theorem ez_sek {q : Qu} (h : q.Ok) {a b : Int} (ha : 0 ≤ a) (hb : 0 ≤ b) (x y : Nat) : (q.sek x y).1 ≤ ((q.ez a b).sek x y).1 ∧ ((q.ez a b).sek x y).2 ≤ (q.sek x y).2 := by
  unfold sek ez
  dsimp only
  generalize max (x - y) (y - x) = j
  rw [List.getD_eq_getElem?_getD, List.getD_eq_getElem?_getD, List.getElem?_map]
  by_cases hj : j < q.sk.length
  · have := h.sk q.sk[j] (List.getElem_mem hj)
    rw [List.getElem?_eq_getElem hj]
    show (q.sk[j]).1 ≤ (ezS a b q.sk[j]).1 ∧ (ezS a b q.sk[j]).2 ≤ (q.sk[j]).2
    unfold ezS
    dsimp only
    omega
  · rw [List.getElem?_eq_none (by omega)]
    exact ⟨Int.le_refl _, Int.le_refl _⟩
theorem ez_st {q : Qu} (h : q.Ok) {a b : Int} (ha : 0 ≤ a) (hb : 0 ≤ b) (o : List Nat) : ∀ k, (∀ hi, ((q.ez a b).stQ hi o k).1 = (q.stQ hi o k).1) ∧ (q.stQ false o k).2 ≤ ((q.ez a b).stQ false o k).2 ∧ ((q.ez a b).stQ true o k).2 ≤ (q.stQ true o k).2
  | 0 => ⟨fun _ => rfl, Int.le_refl _, Int.le_refl _⟩
  | k + 1 => by
    obtain ⟨h1, h2, h3⟩ := ez_st h ha hb o k
    refine ⟨fun hi => rfl, ?_, ?_⟩
    · have g := (ez_sek h ha hb (q.stQ false o k).1 (q.cy (q.req (o.getD k 0)).fr)).1
      show q.srv (o.getD k 0) (q.stQ false o k).2 (q.sek (q.stQ false o k).1 (q.cy (q.req (o.getD k 0)).fr)).1 (q.rn false (o.getD k 0)) ≤ q.srv (o.getD k 0) ((q.ez a b).stQ false o k).2 ((q.ez a b).sek ((q.ez a b).stQ false o k).1 (q.cy (q.req (o.getD k 0)).fr)).1 (q.rn false (o.getD k 0))
      rw [h1]
      exact srv_mono h _ h2 g (Int.le_refl _)
    · have g := (ez_sek h ha hb (q.stQ true o k).1 (q.cy (q.req (o.getD k 0)).fr)).2
      show q.srv (o.getD k 0) ((q.ez a b).stQ true o k).2 ((q.ez a b).sek ((q.ez a b).stQ true o k).1 (q.cy (q.req (o.getD k 0)).fr)).2 (q.rn true (o.getD k 0)) ≤ q.srv (o.getD k 0) (q.stQ true o k).2 (q.sek (q.stQ true o k).1 (q.cy (q.req (o.getD k 0)).fr)).2 (q.rn true (o.getD k 0))
      rw [h1]
      exact srv_mono h _ h3 g (Int.le_refl _)
theorem ez_end {q : Qu} (h : q.Ok) {a b : Int} (ha : 0 ≤ a) (hb : 0 ≤ b) (o : List Nat) (r : Nat) : q.endOf false o r ≤ (q.ez a b).endOf false o r ∧ (q.ez a b).endOf true o r ≤ q.endOf true o r := by
  unfold endOf
  by_cases g : r ∈ o
  · simp only [if_pos g]
    exact (ez_st h ha hb o _).2
  · simp only [if_neg g]
    exact ⟨Int.le_refl _, Int.le_refl _⟩
def ezL (q : Qu) (a b : Int) (k : Nat) : List (Int × Int) := (q.sk.take k).map (ezS a b) ++ q.sk.drop k
theorem ezL_len (q : Qu) (a b : Int) (k : Nat) (hk : k ≤ q.sk.length) : (q.ezL a b k).length = q.sk.length := by
  unfold ezL
  rw [List.length_append, List.length_map, List.length_take, List.length_drop]
  omega
theorem ezL_get (q : Qu) (a b : Int) (k j : Nat) (hk : k ≤ q.sk.length) : (q.ezL a b k).getD j (0, 0) = if j < k then ezS a b (q.sk.getD j (0, 0)) else q.sk.getD j (0, 0) := by
  unfold ezL
  have hl : ((q.sk.take k).map (ezS a b)).length = k := by rw [List.length_map, List.length_take]; omega
  by_cases h : j < k
  · rw [if_pos h, List.getD_eq_getElem?_getD, List.getElem?_append_left (by omega), List.getElem?_map, List.getElem?_take_of_lt h, List.getD_eq_getElem?_getD, List.getElem?_eq_getElem (by omega)]
    rfl
  · rw [if_neg h, List.getD_eq_getElem?_getD, List.getElem?_append_right (by omega), hl, List.getElem?_drop, List.getD_eq_getElem?_getD]
    congr 2
    omega
theorem ezL_zero (q : Qu) (a b : Int) : q.ezL a b 0 = q.sk := by simp [ezL]
theorem ezL_all (q : Qu) (a b : Int) : q.ezL a b q.sk.length = (q.ez a b).sk := by simp [ezL, ez]
end Qu
end Go.Proofs
