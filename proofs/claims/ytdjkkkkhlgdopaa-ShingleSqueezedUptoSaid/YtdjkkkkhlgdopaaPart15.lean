/- Own work: texts of the proof of a law (ShL, SxRow3). No condition. -/
import Derived.Test.YtdjkkkkhlgdopaaPart14
import Derived.Test.YtdjkkkkhlgdopaaRows
import Derived.WalkKit
import Derived.ProofKit
import Derived.JoinedCond
namespace Go.Proofs
open Go Go.Sx Go.Proofs.Ytdjkkkkhlgdopaa

theorem ownKnob_none : ownKnob Try.prog.godebug = none := by kernel_rfl
theorem under4 : Try.prog.underlying 4 = some .bool := by kernel_rfl

def tsBands : TS := .struct [.int .i64, .int .i64, .int .i64, .int .i64, .int .i64]
def tsWrite : TS := .struct [.int .i64, .int .i64]
def tsPair : TS := .struct [.int .i64, .int .i64]
def tsOther : TS := .struct [.struct [.int .i64, .int .i64, .int .i64, .int .i64, .int .i64], .int .i64]
def zeroBands : Value := .agg #[.int .i64 0, .int .i64 0, .int .i64 0, .int .i64 0, .int .i64 0]
def zeroPair : Value := .agg #[.int .i64 0, .int .i64 0]
def zeroOther : Value := .agg #[.int .i64 0, .int .i64 0, .int .i64 0, .int .i64 0, .int .i64 0, .int .i64 0]
def zeroSl : Value := .slice none 0 0
def zeroInt : Value := .int .i64 0

def toW (l : List (Int × Int × Unit)) : List (Int × Int) := l.map fun x => (x.1, x.2.1)

theorem rowW (l : List (Int × Int × Unit)) (i : Nat) : rowOf (TS.enc tsWrite) (TS.dflt tsWrite) l i = rowOf wC (0, 0) (toW l) i := by
  have h : ∀ x : Int × Int × Unit, TS.enc tsWrite x = wC (x.1, x.2.1) := fun _ => rfl
  have h2 : (toW l).getD i (0, 0) = ((l.getD i (0, 0, ())).1, (l.getD i (0, 0, ())).2.1) := by
    unfold toW
    rw [List.getD_eq_getElem?_getD, List.getD_eq_getElem?_getD, List.getElem?_map]
    cases l[i]? <;> rfl
  show TS.enc tsWrite (l.getD i (0, 0, ())) = wC ((toW l).getD i (0, 0))
  rw [h2, h]

theorem toW_length (l : List (Int × Int × Unit)) : l.length = (toW l).length := by simp [toW]
theorem toW_le (l : List (Int × Int × Unit)) (h : l.length ≤ maxLen) : (toW l).length ≤ 9223372036854775807 := by
  rw [← toW_length]
  exact Nat.le_trans h (by decide)
end Go.Proofs

namespace Go.Sx
open Go Go.ChangeShapes
section
variable {P : Program} {H : Type} {enc : TypeId × Value → H} {w : World} {held : Bool}

/-- what an argument reads as has as many elements -/
def TS.fit : (s : TS) → s.Val → DataW H → Prop
  | .slice e, (l : List (TS.Val e)), d => l.length = 0 ∨ ∃ elems spare, d = .slice elems spare ∧ elems.length = l.length
  | _, _, _ => True

def TS.fits : (l : List TS) → TS.Vals l → List (DataW H) → Prop
  | [], _, _ => True
  | s :: l, y, ds => match ds with
    | d :: r => s.fit y.1 d ∧ TS.fits l y.2 r
    | [] => False

theorem TS.fit_of {s : TS} {t : TypeId} {v : Value} {d : DataW H} {p : List MemPlace} {I : Nat → Prop} {y : s.Val} (hok : s.ok P t = true) (h : DataW.Trod enc P w 0 (fun _ => true) held t v d p) (hd : Den I [] w (s.arg y) v) : s.fit y d := by
  cases s with
  | int k => trivial
  | bool => trivial
  | struct fs => trivial
  | slice e =>
    obtain ⟨fuel, h⟩ := h
    simp only [TS.ok, Bool.and_eq_true] at hok
    obtain ⟨u, hu⟩ : ∃ u, P.underlying t = some (.slice u) := by
      have := hok.1
      split at this
      · rename_i u hk'; exact ⟨u, hk'⟩
      · cases this
    have hn : ∃ a cap, v = .slice a (y : List e.Val).length cap := by
      rcases hd with ⟨h0, a, cap, rfl⟩ | ⟨b, o, cap, rfl, _⟩
      · exact ⟨a, cap, by rw [h0]⟩
      · exact ⟨_, _, rfl⟩
    obtain ⟨a, cap, rfl⟩ := hn
    rcases Deep.open_slice hu h with ⟨hc, _⟩ | ⟨a', len, cap', m, n, D, Pl, hc, _, _, _, _, hx, _⟩
    · left
      have e1 := congrArg (fun l => l.head?) hc
      simp [Value.cells] at e1
      simp [e1.2.1]
    · right
      have e1 := congrArg (fun l => l.head?) hc
      simp [Value.cells] at e1
      have e2 := congrArg Prod.fst hx
      dsimp only at e2
      exact ⟨_, _, e2, by simp [e1.2.1]⟩

theorem TS.fits_of {I : Nat → Prop} : ∀ {ss : List TS} {ts : List TypeId} {vs : List Value} {ds : List (DataW H)} {p : List MemPlace} {y : TS.Vals ss}, TS.okAll P ss ts = true →
    DataW.TrodAll enc P w 0 (fun _ => true) held ts vs ds p → DenL I [] w (TS.args ss y) vs → TS.fits ss y ds
  | [], _, _, _, _, _, _, _, _ => trivial
  | s :: l, t :: r, vs, ds, p, y, hok, h, hd => by
    simp only [TS.okAll, Bool.and_eq_true] at hok
    obtain ⟨v, vs1, d, ds1, a, b, rfl, rfl, rfl, h1, h2⟩ := trodAll_cons h
    obtain ⟨v', r', e, g1, g2⟩ := hd
    cases e
    exact ⟨TS.fit_of hok.1 h1 g1, TS.fits_of hok.2 h2 g2⟩
  | _ :: _, [], _, _, _, _, hok, _, _ => by simp [TS.okAll] at hok

/-- a law's contract, out of the pure function's, where something is known of the sizes -/
theorem contract_of_pure_fit {g : FuncId} {f : Func} {s : ChangeSpec} {apart fresh handsOn again : Bool} {ss : List TS} {tb : TypeId} (hvars : s.vars = []) (hok : TS.okAll P ss f.params.toList = true) (hres : f.resultTypes = #[tb]) (htb : P.underlying tb = some .bool)
    (hfn : ∀ (H : Type) (ds : List (DataW H)), ds.length = ss.length → (s.fn H ds).results = [.lit (.bool true)] ∧ (s.fn H ds).args = ds ∧ (s.fn H ds).vars = [])
    (W : World) (base : Nat) (args : Array Value) (ds gs : List (DataW H)) (before : List MemPlace)
    (hc : ∀ y : TS.Vals ss, TS.wfs ss y → TS.fits ss y ds → ∃ keep, PureC P g keep (TS.args ss y) (· = .prop True inferInstance))
    (hval : ∀ (j : Nat) t v, f.params[j]? = some t → args[j]? = some v → Value.okWide P W .any base t v)
    (hW : DataW.Whole enc P f.params.toList s.vars apart W args.toList ds gs before) :
    Calls P g args W fun e W' => ∃ v, e = .returned v ∧ s.post enc P f apart fresh handsOn again W args v W' := by
  have hW' := hW
  obtain ⟨pa, pv, hA, hV, hps, hz, hn⟩ := hW'
  rw [hvars] at hV
  obtain ⟨rfl, rfl⟩ := trodVars_none hV
  have hlen : ds.length = ss.length := by
    clear hc hW hfn hval hps hz hn
    revert hA hok
    generalize f.params.toList = ts
    generalize args.toList = vs
    intro hok hA
    induction ss generalizing ts vs ds pa with
    | nil =>
      cases ts with
      | nil => obtain ⟨_, rfl, _⟩ := trodAll_nil hA; rfl
      | cons t r => simp [TS.okAll] at hok
    | cons s l ih =>
      cases ts with
      | nil => simp [TS.okAll] at hok
      | cons t r =>
        simp only [TS.okAll, Bool.and_eq_true] at hok
        obtain ⟨v, vs1, d, ds1, a, b, rfl, rfl, rfl, h1, h2⟩ := trodAll_cons hA
        simp [ih _ _ _ _ hok.2 h2]
  obtain ⟨y, h1, h2⟩ := TS.rdAll (r := .any) (base := base) hok (fun j t v h3 h4 => hval j t v (by simpa using h3) (by simpa using h4)) hA
  obtain ⟨keep, hp⟩ := hc y h1 (TS.fits_of hok hA h2)
  have := hp.2 (allB W) W args.toList (fun b hb => hb) h2
  simp only [Array.toArray_toList] at this
  refine this.mono ?_
  rintro e W' ⟨ret, v, rfl, rfl, hden, hpres⟩
  have hv : v = .bool true := by
    have : v = .bool (decide True) := hden
    simpa using this
  subst hv
  exact ⟨_, rfl, post_of_pres hW hvars hok hres htb (by rw [List.append_nil]; exact hfn H ds hlen) hpres⟩
end
end Go.Sx
