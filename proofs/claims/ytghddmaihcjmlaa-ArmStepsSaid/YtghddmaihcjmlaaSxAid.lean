/- Own work: a text of the proof of a law (SxAid). -/
import Derived.Test.YtghddmaihcjmlaaSxNew
namespace Go.Sx
open Go
variable {P : Program} {E : Env}

theorem imp_intro {p q : Prop} (h : p → q) : p → q := h
theorem spl {p q r : Prop} (h1 : p → q) (h2 : ¬ p → r) : (p → q) ∧ (¬ p → r) := ⟨h1, h2⟩
theorem spl' {p q r : Prop} (h1 : ¬ p → q) (h2 : p → r) : (¬ p → q) ∧ (p → r) := ⟨h1, h2⟩

/-- a verification condition, and the rest -/
theorem vc {a b : Prop} (h : a := by first | (with_reducible rfl) | exact id | exact trivial | exact Iff.rfl | exact inR64 (by omega) (by omega) | omega | (dsimp only; omega) | (dsimp only; exact inR64 (by omega) (by omega)) | exact fun _ _ => rfl | exact fun _ => rfl | (intros; first | assumption | omega | (exact inR64 (by omega) (by omega))) | exact rfl | exact fun _ _ => ⟨Iff.rfl, fun _ => rfl⟩ | exact .inr (fun _ _ => rfl) | exact .inr (fun _ => rfl) | exact .inl rfl | exact fun h1 h2 => ⟨h1, h2⟩ | exact fun h => h.1 | exact fun h => h.2 | exact fun h => ⟨h.1, h.2⟩) (k : b) : a ∧ b := ⟨h, k⟩

theorem dr {ops : List Oper} {F : Nat → Prop} (p : Nat) (h : drawOk ops p = true := by decide +kernel) (k : F p) : ∃ p, drawOk ops p = true ∧ F p := ⟨p, h, k⟩

theorem pcall_fo {g : FuncId} {keep : Bool} {args : List V} {H : List O} {v : V} (h : PureC P g keep args (· = v)) (hfo : foL args = true) : PCall P g args H v := by
  unfold PCall
  exact ⟨keep, args, h, .inl ⟨rfl, hfo⟩⟩

theorem pcall_intro {g : FuncId} {keep : Bool} {args : List V} {H : List O} {v : V} {F : V → Prop} {G : Prop} (h : PureC P g keep args (· = v)) (hfo : foL args = true) (hf : F v) : (∃ v, PCall P g args H v ∧ F v) ∨ G := .inl ⟨v, pcall_fo h hfo, hf⟩

theorem ncall_intro {g : FuncId} {args : List V} {v : V} {ob : O} {F : V → O → Prop} {G : Prop} (h : NewC P g args fun r H => r = v ∧ H = [ob]) (hfo : foL args = true) (hf : F v ob) : G ∨ (∃ v ob, NCall P g args v ob ∧ F v ob) := by
  refine .inr ⟨v, ob, ?_, hf⟩
  unfold NCall
  exact ⟨hfo, h⟩

theorem pcall_soft {e : Prop} {g : FuncId} {keep : Bool} {args : List V} {H : List O} {v : V} {F : V → Prop} (h : e → PureC P g keep args (· = v)) (hfo : foL args = true) (hf : F v) : ∃ v, (e → PCall P g args H v) ∧ F v := ⟨v, fun he => pcall_fo (h he) hfo, hf⟩

theorem pcall_view {g : FuncId} {args cargs : List V} {H : List O} {v : V} {F : V → Prop} (h : PureC P g false cargs (· = v)) (hv : rEntL true H args cargs True) {G : Prop} (hf : F v) : (∃ v, PCall P g args H v ∧ F v) ∨ G := by
  refine .inl ⟨v, ?_, hf⟩
  unfold PCall
  exact ⟨false, cargs, h, .inr ⟨rfl, hv⟩⟩

/-- a contract with new objects; what is not handed over is forgotten -/
theorem newC_ent (hE : ProgOk E P) {g : FuncId} {fn : Func} {code : Code} (hf : P.funcs[g]? = some fn) (hb : fn.body = some code) (hn : (fn.name == "runtime.NumGoroutine") = false) {args : List V} {R : V → List O → Prop}
    (hx : exec (sys P) E 0 code (retQ E fn fun v H => ∃ v1 H1, R v1 H1 ∧ ∃ ρ, Ent 0 ρ [v] H [v1] H1) (padT args fn.ntmps) []) : NewC P g args R := by
  refine ⟨⟨fn, hf, hn, by rw [hb]; rfl⟩, fun I w vals hI hd => ?_⟩
  refine (calls_of_exec (H := []) hE hf hb hx (sat_nil hI) hd).mono ?_
  rintro e w' ⟨I', η', H', v, x, rfl, ⟨v1, H1, hret, ρ, hent⟩, hS, hden, _, hst⟩
  have hg : Good I' η' w' [v] H' { tmps := #[x], defers := [] } := ⟨hS, SatT.ofList ⟨x, [], rfl, hden, rfl⟩⟩
  obtain ⟨η1, hg1, hs1⟩ := Ent_sound hent hg
  have hx := hg1.tmp.2 0
  refine ⟨I', η1, H1, v1, x, rfl, hret, hg1.sat, by simpa [get] using hx, ?_⟩
  have h0 := (hst.toB (B := 0)).trans hs1
  exact ⟨h0.os, h0.tape, h0.output, h0.size, h0.block, h0.imono, h0.inew, h0.wnew, fun id e he _ => by simp [own] at he⟩

/-- objects are forgotten, or told less of -/
theorem NewC.ent {g : FuncId} {args : List V} {R R' : V → List O → Prop} (h : NewC P g args R) (hr : ∀ v H, R v H → ∃ v1 H1, R' v1 H1 ∧ ∃ ρ, Ent 0 ρ [v] H [v1] H1) : NewC P g args R' := by
  refine ⟨h.1, fun I w vals hI hd => (h.2 I w vals hI hd).mono ?_⟩
  rintro e w' ⟨I', η', H', v, x, rfl, hret, hS, hden, hst⟩
  obtain ⟨v1, H1, hret, ρ, hent⟩ := hr _ _ hret
  have hg : Good I' η' w' [v] H' { tmps := #[x], defers := [] } := ⟨hS, SatT.ofList ⟨x, [], rfl, hden, rfl⟩⟩
  obtain ⟨η1, hg1, hs1⟩ := Ent_sound hent hg
  have hx := hg1.tmp.2 0
  refine ⟨I', η1, H1, v1, x, rfl, hret, hg1.sat, by simpa [get] using hx, ?_⟩
  have h0 := (hst.toB (B := 0)).trans hs1
  exact ⟨h0.os, h0.tape, h0.output, h0.size, h0.block, h0.imono, h0.inew, h0.wnew, fun id e he _ => by simp [own] at he⟩

/-- a contract, told of arguments in other words -/
theorem NewC.view {g : FuncId} {args cargs : List V} {R : V → List O → Prop} (h : NewC P g cargs R) (hv : rEntL true [] args cargs True) : NewC P g args R := by
  refine ⟨h.1, fun I w vals hI hd => ?_⟩
  obtain ⟨hd', _⟩ := rEntL_sound (J := I) (keep := true) (sat_nil hI).obj (fun b hb => (own_nil b hb).elim) (fun _ b hb => hb) args cargs _ vals hv hd
  exact h.2 I w vals hI hd'

theorem PureC.view {g : FuncId} {keep : Bool} {args cargs : List V} {R : V → Prop} (h : PureC P g keep cargs R) (hv : rEntL true [] args cargs True) : PureC P g keep args R := by
  refine ⟨h.1, fun I w vals hI hd => ?_⟩
  obtain ⟨hd', _⟩ := rEntL_sound (J := I) (keep := true) (sat_nil hI).obj (fun b hb => (own_nil b hb).elim) (fun _ b hb => hb) args cargs _ vals hv hd
  exact h.2 I w vals hI hd'

/-- the elements of a list as rows -/
def rowOf {α : Type} (c : α → List V) (d : α) (l : List α) (i : Nat) : List V := c (l.getD i d)

theorem rowOf_snoc {α : Type} {c : α → List V} {d : α} {l : List α} {a : α} {n : Nat} {f : Nat → List V} (hn : n = l.length) (hf : ∀ i, i < n → f i = rowOf c d l i) : ∀ i, i < n + 1 → appF n f (fun _ => c a) i = rowOf c d (l ++ [a]) i := by
  subst hn
  intro i hi
  unfold appF
  split
  · rename_i h
    rw [hf i h]
    unfold rowOf
    simp only [List.getD_eq_getElem?_getD]
    rw [List.getElem?_append_left h]
  · rename_i h
    obtain rfl : i = l.length := by omega
    unfold rowOf
    simp

theorem nodup_length_le {α : Type} [DecidableEq α] : ∀ {l m : List α}, l.Nodup → (∀ x ∈ l, x ∈ m) → l.length ≤ m.length
  | [], _, _, _ => by simp
  | x :: l, m, hn, hm => by
    have h1 := List.nodup_cons.1 hn
    have hx : x ∈ m := hm x (by simp)
    have := nodup_length_le (l := l) (m := m.erase x) h1.2 (fun y hy => (List.mem_erase_of_ne (a := y) (b := x) (fun e => by subst e; exact h1.1 hy)).2 (hm y (by simp [hy])))
    rw [List.length_erase_of_mem hx] at this
    have : 0 < m.length := List.length_pos_of_mem hx
    simp
    omega

/-- a list of keys of a map is no longer than the map -/
theorem Counted.le {ks : List IntKind} {dom : List Int → Prop} {n : Nat} (h : Counted ks dom n) {l : List (List Int)} (hn : l.Nodup) (hl : ∀ k ∈ l, k.length = ks.length ∧ dom k) : l.length ≤ n := by
  obtain ⟨all, h1, h2, _, h3⟩ := h
  rw [← h2]
  exact nodup_length_le hn (fun k hk => (h3 k (hl k hk).1).2 (hl k hk).2)
end Go.Sx
