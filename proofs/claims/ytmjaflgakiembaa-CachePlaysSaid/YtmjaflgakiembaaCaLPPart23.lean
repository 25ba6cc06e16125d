/- Own work: texts of the proof of a law (CaL13, CaL14, CaL15). No condition. -/
import Derived.Test.YtmjaflgakiembaaCaLPPart22
namespace Go.Proofs
open Go Go.Sx
set_option maxRecDepth 100000
set_option maxHeartbeats 40000000
theorem Plays10b (x : Cache) (hl : x.l.length ≤ 9223372036854775807) (D : List (Int × Int)) (hD : D.length ≤ 9223372036854775807) (torn : Bool) (hk : x.chk = 0) (h : C6) (e : playV x D torn = [.sl 1 x.n.toNat (iF h.get), .int .i64 0]) : PureC Try.prog 10 false [x.v, .agg [.sl 2 D.length (rowOf oC (0, 0) D), .prop (torn = true) inferInstance]] (· = .prop True inferInstance) := by
  refine pureC_of_exec Try.E_ok Try.func10 rfl (by kernel_rfl) ?_
  (repeat' ((conv => whnf); (first | (with_reducible refine spl (fun hc => ?_) fun hc => ?_) <;> try (exfalso; omega) | with_reducible refine iJ fun hc => ?_ | refine vcq (k := ?_) | refine dr 5072006 (k := ?_) | refine dr 5 (k := ?_)))); all_goals ((try conv => whnf); try with_reducible exact trivial); (repeat' ((first | (refine callee_fo (Far23 x hl) rfl ?_; rintro _ rfl) | (refine callee_fo (works13) rfl ?_; rintro _ rfl)); (repeat' ((conv => whnf); (first | (with_reducible refine spl (fun hc => ?_) fun hc => ?_) <;> try (exfalso; omega) | with_reducible refine iJ fun hc => ?_ | refine vcq (k := ?_) | refine dr 5072006 (k := ?_) | refine dr 5 (k := ?_)))); all_goals ((try conv => whnf); try with_reducible exact trivial)))
  · refine ⟨_, rfl, ?_⟩
    (repeat' ((conv => whnf); (first | (with_reducible refine spl (fun hc => ?_) fun hc => ?_) <;> try (exfalso; omega) | with_reducible refine iJ fun hc => ?_ | refine vcq (k := ?_) | refine dr 5072006 (k := ?_) | refine dr 5 (k := ?_)))); all_goals ((try conv => whnf); try with_reducible exact trivial)
  · have h40 : x.l.length ≤ 40 := Classical.byContradiction fun g => hc (.inl (.inl (by omega)))
    have hD40 : D.length ≤ 40 := Classical.byContradiction fun g => hc (.inr (by omega))
    have hfar : ¬ x.far := fun g => hc (.inl g)
    refine pcall_intro (Copy24p x (by omega)) rfl ?_
    (repeat' ((conv => whnf); (first | (with_reducible refine spl (fun hc => ?_) fun hc => ?_) <;> try (exfalso; omega) | with_reducible refine iJ fun hc => ?_ | refine vcq (k := ?_) | refine dr 5072006 (k := ?_) | refine dr 5 (k := ?_)))); all_goals ((try conv => whnf); try with_reducible exact trivial)
    dsimp only
    refine pcall_intro (check36 x (by omega)) rfl ?_
    (repeat' ((conv => whnf); (first | (with_reducible refine spl (fun hc => ?_) fun hc => ?_) <;> try (exfalso; omega) | with_reducible refine iJ fun hc => ?_ | refine vcq (k := ?_) | refine dr 5072006 (k := ?_) | refine dr 5 (k := ?_)))); all_goals ((try conv => whnf); try with_reducible exact trivial)
    refine pcall_intro (Check37 x (by omega)) rfl ?_
    (repeat' ((conv => whnf); (first | (with_reducible refine spl (fun hc => ?_) fun hc => ?_) <;> try (exfalso; omega) | with_reducible refine iJ fun hc => ?_ | refine vcq (k := ?_) | refine dr 5072006 (k := ?_) | refine dr 5 (k := ?_)))); all_goals ((try conv => whnf); try with_reducible exact trivial)
    have hDe : ∀ i, i < D.length → appF 0 (fun i => Sx.get [] [] i) (rowOf oC (0, 0) D) i = rowOf oC (0, 0) D i := fun i _ => rfl
    have hp1 := Play20 x (by omega) D (by omega) torn
    have hp2 := Play32 x (by omega) D (by omega) torn
    have hx : x.Small := Cache.valid ⟨hfar, hk⟩
    have hn := hx.ok.n
    have h3 := hx.n
    have h7 := hx.l
    rw [e] at hp1 hp2
    clear e
    refine callee_fo (newest_ok hk (by omega)) rfl ?_
    rintro _ rfl
    (repeat' ((conv => whnf); (first | (with_reducible first | refine spl (fun hc => ?_) fun hc => ?_ | refine spl' (fun hc => ?_) fun hc => ?_) <;> try (exfalso; omega) | with_reducible refine iJ fun hc => ?_ | refine vcq (k := ?_) | refine dr 10 (k := ?_)))); all_goals ((try conv => whnf); try with_reducible exact trivial)
    refine callee_fo (Newest38 x hk) rfl ?_
    rintro _ rfl
    (repeat' ((conv => whnf); (first | (with_reducible first | refine spl (fun hc => ?_) fun hc => ?_ | refine spl' (fun hc => ?_) fun hc => ?_) <;> try (exfalso; omega) | with_reducible refine iJ fun hc => ?_ | refine vcq (k := ?_) | refine dr 10 (k := ?_)))); all_goals ((try conv => whnf); try with_reducible exact trivial)
    refine callee_view hp1 ?_
    (repeat' ((conv => whnf); (first | (with_reducible first | refine spl (fun hc => ?_) fun hc => ?_ | refine spl' (fun hc => ?_) fun hc => ?_) <;> try (exfalso; omega) | with_reducible refine iJ fun hc => ?_ | refine vcq (k := ?_) | refine dr 10 (k := ?_)))); all_goals ((try conv => whnf); try with_reducible exact trivial)
    rintro _ rfl
    (repeat' ((conv => whnf); (first | (with_reducible first | refine spl (fun hc => ?_) fun hc => ?_ | refine spl' (fun hc => ?_) fun hc => ?_) <;> try (exfalso; omega) | with_reducible refine iJ fun hc => ?_ | refine vcq (k := ?_) | refine dr 10 (k := ?_)))); all_goals ((try conv => whnf); try with_reducible exact trivial)
    refine callee_fo hp2 rfl ?_
    rintro _ rfl
    (repeat' ((conv => whnf); (first | (with_reducible first | refine spl (fun hc => ?_) fun hc => ?_ | refine spl' (fun hc => ?_) fun hc => ?_) <;> try (exfalso; omega) | with_reducible refine iJ fun hc => ?_ | refine vcq (k := ?_) | refine dr 10 (k := ?_)))); all_goals ((try conv => whnf); try with_reducible exact trivial)
    refine callee_fo (sameInts30 x.n.toNat x.n.toNat (by omega) (by omega) (newP x.l x.l.length) (newP x.l x.l.length)) rfl ?_
    rintro _ rfl
    (repeat' ((conv => whnf); (first | (with_reducible first | refine spl (fun hc => ?_) fun hc => ?_ | refine spl' (fun hc => ?_) fun hc => ?_) <;> try (exfalso; omega) | with_reducible refine iJ fun hc => ?_ | refine vcq (k := ?_) | refine dr 10 (k := ?_)))); all_goals ((try conv => whnf); try with_reducible exact trivial)
    · refine callee_fo (sameInts30 x.n.toNat x.n.toNat (by omega) (by omega) h.get h.get) rfl ?_
      rintro _ rfl
      (repeat' ((conv => whnf); (first | (with_reducible first | refine spl (fun hc => ?_) fun hc => ?_ | refine spl' (fun hc => ?_) fun hc => ?_) <;> try (exfalso; omega) | with_reducible refine iJ fun hc => ?_ | refine vcq (k := ?_) | refine dr 10 (k := ?_)))); all_goals ((try conv => whnf); try with_reducible exact trivial)
      · exfalso
        rcases hc with g | g
        · exact g ⟨rfl, fun _ _ => rfl⟩
        · exact g rfl
      · clear hp1 hp2 hc
        refine callee_fo (writes_ok' hk (by omega)) rfl ?_
        rintro _ rfl
        (repeat' ((conv => whnf); (first | (with_reducible first | refine spl (fun hc => ?_) fun hc => ?_ | refine spl' (fun hc => ?_) fun hc => ?_) <;> try (exfalso; omega) | with_reducible refine iJ fun hc => ?_ | refine vcq (k := ?_) | refine dr 10 (k := ?_)))); all_goals ((try conv => whnf); try with_reducible exact trivial)
        refine callee_fo (Writes39 x hk) rfl ?_
        rintro _ rfl
        (repeat' ((conv => whnf); (first | (with_reducible first | refine spl (fun hc => ?_) fun hc => ?_ | refine spl' (fun hc => ?_) fun hc => ?_) <;> try (exfalso; omega) | with_reducible refine iJ fun hc => ?_ | refine vcq (k := ?_) | refine dr 10 (k := ?_)))); all_goals ((try conv => whnf); try with_reducible exact trivial)
        refine callee_fo (charge_ok' hk (by omega)) rfl ?_
        rintro _ rfl
        (repeat' ((conv => whnf); (first | (with_reducible first | refine spl (fun hc => ?_) fun hc => ?_ | refine spl' (fun hc => ?_) fun hc => ?_) <;> try (exfalso; omega) | with_reducible refine iJ fun hc => ?_ | refine vcq (k := ?_) | refine dr 10 (k := ?_)))); all_goals ((try conv => whnf); try with_reducible exact trivial)
        refine callee_fo (Charge40 x hk) rfl ?_
        rintro _ rfl
        generalize (PS.run x.l x.l.length).W + (PS.run x.l x.l.length).waits = need
        generalize PS.most x.l x.l.length = most
        (repeat' ((conv => whnf); (first | (with_reducible first | refine spl (fun hc => ?_) fun hc => ?_ | refine spl' (fun hc => ?_) fun hc => ?_) <;> try (exfalso; omega) | with_reducible refine iJ fun hc => ?_ | refine vcq (k := ?_) | refine dr 10 (k := ?_)))); all_goals ((try conv => whnf); try with_reducible exact trivial)
        refine ⟨Nat, fun i => i ≤ D.length, fun i => D.length - i, fun i => [(23, .int .i64 (i : Nat)), (27, .any)], fun _ => [], fun _ => [], 0, ⟨by omega, none, ?_⟩, ?_⟩
        · (repeat' ((conv => whnf); (first | (with_reducible first | refine spl (fun hc => ?_) fun hc => ?_ | refine spl' (fun hc => ?_) fun hc => ?_) <;> try (exfalso; omega) | with_reducible refine iJ fun hc => ?_ | refine vcq (k := ?_) | refine dr 10 (k := ?_)))); all_goals ((try conv => whnf); try with_reducible exact trivial)
        · intro i hi
          have hi : i ≤ D.length := hi
          have hti : (i : Int).toNat = i := Int.toNat_natCast i
          (repeat' ((conv => whnf); (first | (with_reducible first | refine spl (fun hc => ?_) fun hc => ?_ | refine spl' (fun hc => ?_) fun hc => ?_) <;> try (exfalso; omega) | with_reducible refine iJ fun hc => ?_ | refine vcq (k := ?_) | refine dr 10 (k := ?_)))); all_goals ((try conv => whnf); try with_reducible exact trivial)
          · exact absurd ⟨rfl, rfl⟩ hc
          · refine ⟨i + 1, ⟨by omega, by dsimp only; omega⟩, none, ?_⟩
            (repeat' ((conv => whnf); (first | (with_reducible first | refine spl (fun hc => ?_) fun hc => ?_ | refine spl' (fun hc => ?_) fun hc => ?_) <;> try (exfalso; omega) | with_reducible refine iJ fun hc => ?_ | refine vcq (k := ?_) | refine dr 10 (k := ?_)))); all_goals ((try conv => whnf); try with_reducible exact trivial)
          · refine callee_fo works13 rfl ?_
            rintro _ rfl
            (repeat' ((conv => whnf); (first | (with_reducible first | refine spl (fun hc => ?_) fun hc => ?_ | refine spl' (fun hc => ?_) fun hc => ?_) <;> try (exfalso; omega) | with_reducible refine iJ fun hc => ?_ | refine vcq (k := ?_) | refine dr 10 (k := ?_)))); all_goals ((try conv => whnf); try with_reducible exact trivial)
            refine ⟨_, rfl, ?_⟩
            (repeat' ((conv => whnf); (first | (with_reducible first | refine spl (fun hc => ?_) fun hc => ?_ | refine spl' (fun hc => ?_) fun hc => ?_) <;> try (exfalso; omega) | with_reducible refine iJ fun hc => ?_ | refine vcq (k := ?_) | refine dr 10 (k := ?_)))); all_goals ((try conv => whnf); try with_reducible exact trivial)
    · exfalso
      rcases hc with g | g
      · exact g ⟨rfl, fun _ _ => rfl⟩
      · exact g rfl
end Go.Proofs


namespace Go.Proofs
open Go Go.Sx
set_option maxRecDepth 100000
set_option maxHeartbeats 40000000
theorem Plays10c (x : Cache) (hl : x.l.length ≤ 9223372036854775807) (D : List (Int × Int)) (hD : D.length ≤ 9223372036854775807) (torn : Bool) (hk : ¬ x.chk = 0) : PureC Try.prog 10 false [x.v, .agg [.sl 2 D.length (rowOf oC (0, 0) D), .prop (torn = true) inferInstance]] (· = .prop True inferInstance) := by
  refine pureC_of_exec Try.E_ok Try.func10 rfl (by kernel_rfl) ?_
  (repeat' ((conv => whnf); (first | (with_reducible refine spl (fun hc => ?_) fun hc => ?_) <;> try (exfalso; omega) | with_reducible refine iJ fun hc => ?_ | refine vcq (k := ?_) | refine dr 5072006 (k := ?_) | refine dr 5 (k := ?_)))); all_goals ((try conv => whnf); try with_reducible exact trivial); (repeat' ((first | (refine callee_fo (Far23 x hl) rfl ?_; rintro _ rfl) | (refine callee_fo (works13) rfl ?_; rintro _ rfl)); (repeat' ((conv => whnf); (first | (with_reducible refine spl (fun hc => ?_) fun hc => ?_) <;> try (exfalso; omega) | with_reducible refine iJ fun hc => ?_ | refine vcq (k := ?_) | refine dr 5072006 (k := ?_) | refine dr 5 (k := ?_)))); all_goals ((try conv => whnf); try with_reducible exact trivial)))
  · refine ⟨_, rfl, ?_⟩
    (repeat' ((conv => whnf); (first | (with_reducible refine spl (fun hc => ?_) fun hc => ?_) <;> try (exfalso; omega) | with_reducible refine iJ fun hc => ?_ | refine vcq (k := ?_) | refine dr 5072006 (k := ?_) | refine dr 5 (k := ?_)))); all_goals ((try conv => whnf); try with_reducible exact trivial)
  · have h40 : x.l.length ≤ 40 := Classical.byContradiction fun g => hc (.inl (.inl (by omega)))
    have hD40 : D.length ≤ 40 := Classical.byContradiction fun g => hc (.inr (by omega))
    have hfar : ¬ x.far := fun g => hc (.inl g)
    refine pcall_intro (Copy24p x (by omega)) rfl ?_
    (repeat' ((conv => whnf); (first | (with_reducible refine spl (fun hc => ?_) fun hc => ?_) <;> try (exfalso; omega) | with_reducible refine iJ fun hc => ?_ | refine vcq (k := ?_) | refine dr 5072006 (k := ?_) | refine dr 5 (k := ?_)))); all_goals ((try conv => whnf); try with_reducible exact trivial)
    dsimp only
    refine pcall_intro (check36 x (by omega)) rfl ?_
    (repeat' ((conv => whnf); (first | (with_reducible refine spl (fun hc => ?_) fun hc => ?_) <;> try (exfalso; omega) | with_reducible refine iJ fun hc => ?_ | refine vcq (k := ?_) | refine dr 5072006 (k := ?_) | refine dr 5 (k := ?_)))); all_goals ((try conv => whnf); try with_reducible exact trivial)
    refine pcall_intro (Check37 x (by omega)) rfl ?_
    (repeat' ((conv => whnf); (first | (with_reducible refine spl (fun hc => ?_) fun hc => ?_) <;> try (exfalso; omega) | with_reducible refine iJ fun hc => ?_ | refine vcq (k := ?_) | refine dr 5072006 (k := ?_) | refine dr 5 (k := ?_)))); all_goals ((try conv => whnf); try with_reducible exact trivial)
    have hDe : ∀ i, i < D.length → appF 0 (fun i => Sx.get [] [] i) (rowOf oC (0, 0) D) i = rowOf oC (0, 0) D i := fun i _ => rfl
    have hp1 := Play20 x (by omega) D (by omega) torn
    have hp2 := Play32 x (by omega) D (by omega) torn
    have hN := Newest34 x (by omega)
    have hW := Writes14 x (by omega)
    have hC := Charge15 x (by omega)
    rw [if_neg hk] at hN hW hC
    have e : playV x D torn = [.lit (.slice none 0 0), .int .i64 x.chk] := if_neg hk
    rw [e] at hp1 hp2
    clear e
    refine callee_fo hN rfl ?_
    rintro _ rfl
    (repeat' ((conv => whnf); (first | (with_reducible first | refine spl (fun hc => ?_) fun hc => ?_ | refine spl' (fun hc => ?_) fun hc => ?_) <;> try (exfalso; omega) | with_reducible refine iJ fun hc => ?_ | refine vcq (k := ?_) | refine dr 10 (k := ?_)))); all_goals ((try conv => whnf); try with_reducible exact trivial)
    refine callee_fo (Newest38e x (by omega) hk) rfl ?_
    rintro _ rfl
    (repeat' ((conv => whnf); (first | (with_reducible first | refine spl (fun hc => ?_) fun hc => ?_ | refine spl' (fun hc => ?_) fun hc => ?_) <;> try (exfalso; omega) | with_reducible refine iJ fun hc => ?_ | refine vcq (k := ?_) | refine dr 10 (k := ?_)))); all_goals ((try conv => whnf); try with_reducible exact trivial)
    refine callee_view hp1 ?_
    (repeat' ((conv => whnf); (first | (with_reducible first | refine spl (fun hc => ?_) fun hc => ?_ | refine spl' (fun hc => ?_) fun hc => ?_) <;> try (exfalso; omega) | with_reducible refine iJ fun hc => ?_ | refine vcq (k := ?_) | refine dr 10 (k := ?_)))); all_goals ((try conv => whnf); try with_reducible exact trivial)
    rintro _ rfl
    (repeat' ((conv => whnf); (first | (with_reducible first | refine spl (fun hc => ?_) fun hc => ?_ | refine spl' (fun hc => ?_) fun hc => ?_) <;> try (exfalso; omega) | with_reducible refine iJ fun hc => ?_ | refine vcq (k := ?_) | refine dr 10 (k := ?_)))); all_goals ((try conv => whnf); try with_reducible exact trivial)
    refine callee_fo hp2 rfl ?_
    rintro _ rfl
    (repeat' ((conv => whnf); (first | (with_reducible first | refine spl (fun hc => ?_) fun hc => ?_ | refine spl' (fun hc => ?_) fun hc => ?_) <;> try (exfalso; omega) | with_reducible refine iJ fun hc => ?_ | refine vcq (k := ?_) | refine dr 10 (k := ?_)))); all_goals ((try conv => whnf); try with_reducible exact trivial)
    refine callee_fo sameNil rfl ?_
    rintro _ rfl
    (repeat' ((conv => whnf); (first | (with_reducible first | refine spl (fun hc => ?_) fun hc => ?_ | refine spl' (fun hc => ?_) fun hc => ?_) <;> try (exfalso; omega) | with_reducible refine iJ fun hc => ?_ | refine vcq (k := ?_) | refine dr 10 (k := ?_)))); all_goals ((try conv => whnf); try with_reducible exact trivial)
    · refine callee_fo sameNil rfl ?_
      rintro _ rfl
      (repeat' ((conv => whnf); (first | (with_reducible first | refine spl (fun hc => ?_) fun hc => ?_ | refine spl' (fun hc => ?_) fun hc => ?_) <;> try (exfalso; omega) | with_reducible refine iJ fun hc => ?_ | refine vcq (k := ?_) | refine dr 10 (k := ?_)))); all_goals ((try conv => whnf); try with_reducible exact trivial)
      · exfalso
        rcases hc with g | g
        · exact g ⟨rfl, fun _ _ => rfl⟩
        · exact g rfl
      · clear hp1 hp2 hc
        refine callee_fo hW rfl ?_
        rintro _ rfl
        (repeat' ((conv => whnf); (first | (with_reducible first | refine spl (fun hc => ?_) fun hc => ?_ | refine spl' (fun hc => ?_) fun hc => ?_) <;> try (exfalso; omega) | with_reducible refine iJ fun hc => ?_ | refine vcq (k := ?_) | refine dr 10 (k := ?_)))); all_goals ((try conv => whnf); try with_reducible exact trivial)
        refine callee_fo (Writes39e x (by omega) hk) rfl ?_
        rintro _ rfl
        (repeat' ((conv => whnf); (first | (with_reducible first | refine spl (fun hc => ?_) fun hc => ?_ | refine spl' (fun hc => ?_) fun hc => ?_) <;> try (exfalso; omega) | with_reducible refine iJ fun hc => ?_ | refine vcq (k := ?_) | refine dr 10 (k := ?_)))); all_goals ((try conv => whnf); try with_reducible exact trivial)
        refine callee_fo hC rfl ?_
        rintro _ rfl
        (repeat' ((conv => whnf); (first | (with_reducible first | refine spl (fun hc => ?_) fun hc => ?_ | refine spl' (fun hc => ?_) fun hc => ?_) <;> try (exfalso; omega) | with_reducible refine iJ fun hc => ?_ | refine vcq (k := ?_) | refine dr 10 (k := ?_)))); all_goals ((try conv => whnf); try with_reducible exact trivial)
        refine callee_fo (Charge40e x (by omega) hk) rfl ?_
        rintro _ rfl
        generalize x.chk = c at *
        (repeat' ((conv => whnf); (first | (with_reducible first | refine spl (fun hc => ?_) fun hc => ?_ | refine spl' (fun hc => ?_) fun hc => ?_) <;> try (exfalso; omega) | with_reducible refine iJ fun hc => ?_ | refine vcq (k := ?_) | refine dr 10 (k := ?_)))); all_goals ((try conv => whnf); try with_reducible exact trivial)
        refine ⟨Nat, fun i => i ≤ D.length, fun i => D.length - i, fun i => [(23, .int .i64 (i : Nat)), (27, .any)], fun _ => [], fun _ => [], 0, ⟨by omega, none, ?_⟩, ?_⟩
        · (repeat' ((conv => whnf); (first | (with_reducible first | refine spl (fun hc => ?_) fun hc => ?_ | refine spl' (fun hc => ?_) fun hc => ?_) <;> try (exfalso; omega) | with_reducible refine iJ fun hc => ?_ | refine vcq (k := ?_) | refine dr 10 (k := ?_)))); all_goals ((try conv => whnf); try with_reducible exact trivial)
        · intro i hi
          have hi : i ≤ D.length := hi
          have hti : (i : Int).toNat = i := Int.toNat_natCast i
          (repeat' ((conv => whnf); (first | (with_reducible first | refine spl (fun hc => ?_) fun hc => ?_ | refine spl' (fun hc => ?_) fun hc => ?_) <;> try (exfalso; omega) | with_reducible refine iJ fun hc => ?_ | refine vcq (k := ?_) | refine dr 10 (k := ?_)))); all_goals ((try conv => whnf); try with_reducible exact trivial)
          · exact absurd ⟨rfl, rfl⟩ hc
          · refine ⟨i + 1, ⟨by omega, by dsimp only; omega⟩, none, ?_⟩
            (repeat' ((conv => whnf); (first | (with_reducible first | refine spl (fun hc => ?_) fun hc => ?_ | refine spl' (fun hc => ?_) fun hc => ?_) <;> try (exfalso; omega) | with_reducible refine iJ fun hc => ?_ | refine vcq (k := ?_) | refine dr 10 (k := ?_)))); all_goals ((try conv => whnf); try with_reducible exact trivial)
          · refine callee_fo works13 rfl ?_
            rintro _ rfl
            (repeat' ((conv => whnf); (first | (with_reducible first | refine spl (fun hc => ?_) fun hc => ?_ | refine spl' (fun hc => ?_) fun hc => ?_) <;> try (exfalso; omega) | with_reducible refine iJ fun hc => ?_ | refine vcq (k := ?_) | refine dr 10 (k := ?_)))); all_goals ((try conv => whnf); try with_reducible exact trivial)
            refine ⟨_, rfl, ?_⟩
            (repeat' ((conv => whnf); (first | (with_reducible first | refine spl (fun hc => ?_) fun hc => ?_ | refine spl' (fun hc => ?_) fun hc => ?_) <;> try (exfalso; omega) | with_reducible refine iJ fun hc => ?_ | refine vcq (k := ?_) | refine dr 10 (k := ?_)))); all_goals ((try conv => whnf); try with_reducible exact trivial)
    · exfalso
      rcases hc with g | g
      · exact g ⟨rfl, fun _ _ => rfl⟩
      · exact g rfl
end Go.Proofs


namespace Go.Proofs
open Go Go.Sx
set_option maxRecDepth 100000
set_option maxHeartbeats 40000000
theorem Plays10 (x : Cache) (hl : x.l.length ≤ 9223372036854775807) (D : List (Int × Int)) (hD : D.length ≤ 9223372036854775807) (torn : Bool) : PureC Try.prog 10 false [x.v, .agg [.sl 2 D.length (rowOf oC (0, 0) D), .prop (torn = true) inferInstance]] (· = .prop True inferInstance) := by
  by_cases hk : x.chk = 0
  · rcases play_cases hk D torn with e | ⟨h, _, _, e⟩
    · exact Plays10a x hl D hD torn hk e
    · exact Plays10b x hl D hD torn hk h e
  · exact Plays10c x hl D hD torn hk
end Go.Proofs

