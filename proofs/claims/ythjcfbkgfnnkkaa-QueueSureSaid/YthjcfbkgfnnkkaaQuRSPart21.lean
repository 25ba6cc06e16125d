/- Own work: texts of the proof of a law (QuC6, QuC7, QuDA, QuE70, QuE7ap, QuE7az, QuE7bp, QuE7bz, QuE7cp, QuE7cz, QuE7). No condition. -/
import Derived.Test.YthjcfbkgfnnkkaaPart20
namespace Go.Proofs
open Go Go.Sx
set_option maxRecDepth 100000
set_option maxHeartbeats 4000000
def Qu.stepS (q : Qu) (s : Nat → Int) (o : List Nat) : Nat → Int := fun r => if r < q.rq.length ∧ q.isLate o r then s r + 1 else s r
def Qu.cntL (q : Qu) (s : Nat → Int) (L : List (List Nat)) : Nat → Int := L.foldl q.stepS s
theorem Qu.stepS_bnd (q : Qu) (s : Nat → Int) (o : List Nat) (r : Nat) : s r ≤ q.stepS s o r ∧ q.stepS s o r ≤ s r + 1 := by
  unfold Qu.stepS
  split <;> omega
theorem Qu.cntL_bnd (q : Qu) (r : Nat) : ∀ (L : List (List Nat)) (s : Nat → Int), s r ≤ q.cntL s L r ∧ q.cntL s L r ≤ s r + L.length
  | [], s => by show s r ≤ s r ∧ s r ≤ s r + (0 : Nat); omega
  | o :: L, s => by
    have h := Qu.cntL_bnd q r L (q.stepS s o)
    have g := q.stepS_bnd s o r
    show s r ≤ q.cntL (q.stepS s o) L r ∧ q.cntL (q.stepS s o) L r ≤ _
    rw [List.length_cons]
    omega
theorem Qu.cntL_zero (q : Qu) (r : Nat) (hr : r < q.rq.length) : ∀ (L : List (List Nat)) (s : Nat → Int), q.cntL s L r = s r ↔ ∀ o ∈ L, ¬ q.isLate o r
  | [], s => ⟨fun _ o ho => absurd ho List.not_mem_nil, fun _ => rfl⟩
  | o :: L, s => by
    have h := Qu.cntL_zero q r hr L (q.stepS s o)
    have g := q.cntL_bnd r L (q.stepS s o)
    show q.cntL (q.stepS s o) L r = s r ↔ _
    by_cases hl : q.isLate o r
    · have e : q.stepS s o r = s r + 1 := by unfold Qu.stepS; rw [if_pos ⟨hr, hl⟩]
      refine ⟨fun h' => by omega, fun h' => absurd hl (h' o List.mem_cons_self)⟩
    · have e : q.stepS s o r = s r := by unfold Qu.stepS; rw [if_neg fun g' => hl g'.2]
      rw [e] at h
      rw [h]
      refine ⟨fun h' o' ho' => ?_, fun h' o' ho' => h' o' (List.mem_cons_of_mem _ ho')⟩
      rcases List.mem_cons.1 ho' with rfl | g'
      · exact hl
      · exact h' o' g'
theorem dfsP_mono (n p : Nat) (od : Nat → Prop) (m : Nat) (b : List Nat) (i : Nat) : ∀ j, i ≤ j → (dfsP n p od m b i).length ≤ (dfsP n p od m b j).length
  | 0, h => by rw [show i = 0 by omega]; exact Nat.le_refl _
  | j + 1, h => by
    rcases Nat.lt_or_eq_of_le h with g | rfl
    · have := dfsP_mono n p od m b i j (by omega)
      rw [dfsP_succ, List.length_append]
      omega
    · exact Nat.le_refl _
theorem dfsP_room {n p : Nat} {od : Nat → Prop} {m : Nat} {b : List Nat} {i : Nat} (hi : i < n) (h0 : i ∉ b) (h : FitsQ n p od b i) : (dfsP n p od m b i).length + (dfsQ n p od m (b ++ [i])).length ≤ (dfsQ n p od (m + 1) b).length := by
  have h1 := dfsP_mono n p od m b (i + 1) n (by omega)
  rw [dfsP_fit h0 h, List.length_append, dfsP_all] at h1
  exact h1
theorem dfsQ_len (n p : Nat) (od : Nat → Prop) (hn : n ≤ 6) : ∀ (m : Nat) (b : List Nat), (dfsQ n p od m b).length ≤ 6 ^ m
  | 0, b => by simp [dfsQ]
  | m + 1, b => by
    have h : ∀ i, (dfsP n p od m b i).length ≤ i * 6 ^ m := fun i => by
      induction i with
      | zero => simp [dfsP]
      | succ i ih =>
        rw [dfsP_succ, List.length_append]
        have h2 : (dfsF n p od m b i).length ≤ 6 ^ m := by
          unfold dfsF
          split
          · simp
          · split
            · exact dfsQ_len n p od hn m _
            · simp
        rw [Nat.add_mul]
        omega
    have h1 := h n
    rw [dfsP_all] at h1
    have h2 : n * 6 ^ m ≤ 6 * 6 ^ m := Nat.mul_le_mul_right _ hn
    rw [Nat.pow_succ, Nat.mul_comm (6 ^ m) 6]
    omega
noncomputable def surH (q : Qu) (s : Nat → Int) (a b c : Nat) : List O := [.loop [.any, .any, .any, .any, .any, .ptr a 0, .ptr b 0, .any, .any, .any, .any, .any, .any, .any, .any, .any, .any, .any, .any, .any, .any, .any, .any, .any, .any, .any, .any, .any, .any, .any, .any, .any, .any, .any, .any, .any, .any, .any, .any, .any, .any, .any, .any, .any, .any, .any, .any, .any, .any, .any, .any, .any, .any, .any, .any, .any, .any] [25] (rfA Try.f22) (rfB Try.f22) .ready, .cells 69 q.c, .cells 31 [.osl c q.rq.length], .row 3 1 q.rq.length (fun r => [.int .i64 (s r)]) false]
theorem round22 (q : Qu) (hq : q.Ok) (o : List Nat) (ho : IsOrd q.rq.length o) (s : Nat → Int) (hs : ∀ r, 0 ≤ s r ∧ s r + (1 : Nat) ≤ 1000000) : YCall Try.prog 0 [crs q o] (surH q s 1 2 3) (fun v H' => v = .kb true ∧ H' = surH q (q.stepS s o) 1 2 3) := by
  have hn := hq.rql
  refine YCall.ent (K := fun v H' => v = .kb true ∧ ∃ x, H' = surH q (q.stepS s o) 1 2 3 ++ [.cells 91 x]) (ycall_exec Try.E_ok rfl rfl rfl ?_) ?_
  · (repeat' ((conv => whnf); (first | (with_reducible first | apply spl | apply spl') <;> intro hc <;> try (exfalso; omega) | with_reducible refine iJ fun hc => ?_ | refine vcq (k := ?_) | refine dr 2014 (k := ?_) | refine dr 40603052005 (k := ?_)))); all_goals ((try conv => whnf); try with_reducible exact trivial)
    refine ⟨Nat, fun i => i ≤ q.rq.length, fun i => q.rq.length - i, fun i => [(28, .int .i64 (i : Nat)), (8, .any)], fun i => [(3, .row 3 1 q.rq.length (fun r => [.int .i64 (if r < i then q.stepS s o r else s r)]) false)], fun _ => [], 0, ⟨by omega, some [some 0, some 1, some 2, some 3, some 4], ?_⟩, ?_⟩
    · (repeat' ((conv => whnf); (first | (with_reducible first | apply spl | apply spl') <;> intro hc <;> try (exfalso; omega) | with_reducible refine iJ fun hc => ?_ | refine vcq (k := ?_) | refine dr 2014 (k := ?_) | refine dr 40603052005 (k := ?_)))); all_goals ((try conv => whnf); try with_reducible exact trivial)
    · intro i hi
      have hi : i ≤ q.rq.length := hi
      have hti : (i : Int).toNat = i := Int.toNat_natCast i
      (repeat' ((conv => whnf); (first | (with_reducible first | apply spl | apply spl') <;> intro hc <;> try (exfalso; omega) | with_reducible refine iJ fun hc => ?_ | refine vcq (k := ?_) | refine dr 2014 (k := ?_) | refine dr 40603052005 (k := ?_)))); all_goals ((try conv => whnf); try with_reducible exact trivial)
      · have hil : i < q.rq.length := by omega
        have hsi := hs i
        refine callee_fo (isLate47 q hq o i hil) rfl ?_
        rintro _ rfl
        (repeat' ((conv => whnf); (first | (with_reducible first | apply spl | apply spl') <;> intro hc <;> try (exfalso; omega) | with_reducible refine iJ fun hc => ?_ | refine vcq (k := ?_) | refine dr 2014 (k := ?_) | refine dr 40603052005 (k := ?_)))); all_goals ((try conv => whnf); try with_reducible exact trivial)
        · have e : q.stepS s o i = s i + 1 := by unfold Qu.stepS; rw [if_pos ⟨hil, hc⟩]
          rw [hti, if_neg (Nat.lt_irrefl i)]
          (repeat' ((conv => whnf); (first | (with_reducible first | apply spl | apply spl') <;> intro hc <;> try (exfalso; omega) | with_reducible refine iJ fun hc => ?_ | refine vcq (k := ?_) | refine dr 2014 (k := ?_) | refine dr 40603052005 (k := ?_)))); all_goals ((try conv => whnf); try with_reducible exact trivial)
          refine ⟨i + 1, ⟨by omega, by dsimp only; omega⟩, some [some 0, some 1, some 2, some 3, some 4], ?_⟩
          (repeat' ((conv => whnf); (first | (with_reducible first | apply spl | apply spl') <;> intro hc <;> try (exfalso; omega) | with_reducible refine iJ fun hc => ?_ | refine vcq (k := ?_) | refine dr 2014 (k := ?_) | refine dr 40603052005 (k := ?_)))); all_goals ((try conv => whnf); try with_reducible exact trivial)
          refine ⟨fun r _ => ?_, ?_⟩
          · dsimp only
            rw [hti]
            by_cases h : r = i
            · subst h
              rw [spliceP_pos rfl, e, if_pos (Nat.lt_succ_self r)]
              rfl
            · rw [spliceP_neg h]
              by_cases h2 : r < i
              · rw [if_pos h2, if_pos (by omega)]
              · rw [if_neg h2, if_neg (by omega)]
          · (repeat' ((conv => whnf); (first | (with_reducible first | apply spl | apply spl') <;> intro hc <;> try (exfalso; omega) | with_reducible refine iJ fun hc => ?_ | refine vcq (k := ?_) | refine dr 2014 (k := ?_) | refine dr 40603052005 (k := ?_)))); all_goals ((try conv => whnf); try with_reducible exact trivial)
        · have e : q.stepS s o i = s i := by unfold Qu.stepS; rw [if_neg fun g => hc g.2]
          refine ⟨i + 1, ⟨by omega, by dsimp only; omega⟩, some [some 0, some 1, some 2, some 3, some 4], ?_⟩
          (repeat' ((conv => whnf); (first | (with_reducible first | apply spl | apply spl') <;> intro hc <;> try (exfalso; omega) | with_reducible refine iJ fun hc => ?_ | refine vcq (k := ?_) | refine dr 2014 (k := ?_) | refine dr 40603052005 (k := ?_)))); all_goals ((try conv => whnf); try with_reducible exact trivial)
          refine ⟨fun r _ => ?_, ?_⟩
          · dsimp only
            by_cases h : r = i
            · subst h
              rw [if_neg (Nat.lt_irrefl r), if_pos (by omega), e]
            · by_cases h2 : r < i
              · rw [if_pos h2, if_pos (by omega)]
              · rw [if_neg h2, if_neg (by omega)]
          · (repeat' ((conv => whnf); (first | (with_reducible first | apply spl | apply spl') <;> intro hc <;> try (exfalso; omega) | with_reducible refine iJ fun hc => ?_ | refine vcq (k := ?_) | refine dr 2014 (k := ?_) | refine dr 40603052005 (k := ?_)))); all_goals ((try conv => whnf); try with_reducible exact trivial)
      · obtain rfl : i = q.rq.length := by omega
        have hf : (fun r => [V.int .i64 (if r < q.rq.length then q.stepS s o r else s r)]) = fun r => [V.int .i64 (q.stepS s o r)] := funext fun r => by
          by_cases h : r < q.rq.length
          · rw [if_pos h]
          · rw [if_neg h]; unfold Qu.stepS; rw [if_neg fun g => h g.1]
        rw [hf]
        exact ⟨_, rfl⟩
  · rintro v H' ⟨rfl, x, rfl⟩
    refine ⟨_, _, ⟨rfl, rfl⟩, some [some 0, some 1, some 2, some 3], ?_⟩
    (repeat' ((conv => whnf); (first | (with_reducible first | apply spl | apply spl') <;> intro hc <;> try (exfalso; omega) | with_reducible refine iJ fun hc => ?_ | refine vcq (k := ?_) | refine dr 2014 (k := ?_) | refine dr 40603052005 (k := ?_)))); all_goals ((try conv => whnf); try with_reducible exact trivial)
theorem next22 (q : Qu) (hq : q.Ok) : ∀ (m : Nat) (b : List Nat) (s : Nat → Int), b.length + m = q.rq.length → b.Nodup → (∀ x ∈ b, x < q.rq.length) →
    (∀ r, 0 ≤ s r ∧ s r + (((dfsQ q.rq.length q.pas.toNat q.od m b)).length : Nat) ≤ 1000000) →
    Sx.Callee Try.prog 68 [.osl 0 b.length, .ptr 1 0, .ptr 2 0, .ptr 3 0] (nxtH q b false ++ surH q s 5 6 7) (fun v H' => v = .kb true ∧ H' = nxtH q b false ++ surH q (q.cntL s (dfsQ q.rq.length q.pas.toNat q.od m b)) 5 6 7)
  | 0, b, s, hl, hnd, hlt, hb => by
    have hn := hq.rql
    have ho : IsOrd q.rq.length b := ⟨by omega, hnd, hlt⟩
    refine callee_ent Try.E_ok Try.func68 rfl (by kernel_rfl) ?_
    (repeat' ((conv => whnf); (first | (with_reducible first | apply spl | apply spl') <;> intro hc <;> try (exfalso; omega) | with_reducible refine iJ fun hc => ?_ | refine vcq (k := ?_) | refine dr 40603052005 (k := ?_)))); all_goals ((try conv => whnf); try with_reducible exact trivial)
    refine callee_view (ends32 q hq true b ho) ?_
    (repeat' ((conv => whnf); (first | (with_reducible first | apply spl | apply spl') <;> intro hc <;> try (exfalso; omega) | with_reducible refine iJ fun hc => ?_ | refine vcq (k := ?_) | refine dr 2014 (k := ?_) | refine dr 40603052005 (k := ?_)))); all_goals ((try conv => whnf); try with_reducible exact trivial)
    rintro _ rfl
    (repeat' ((conv => whnf); (first | (with_reducible first | apply spl | apply spl') <;> intro hc <;> try (exfalso; omega) | with_reducible refine iJ fun hc => ?_ | refine vcq (k := ?_) | refine dr 2014 (k := ?_) | refine dr 40603052005 (k := ?_)))); all_goals ((try conv => whnf); try with_reducible exact trivial)
    refine ycall_frz rfl (by simp [app_eq]) ?_
    refine ycall_frame [4, 5, 6, 7] (round22 q hq b ho s hb) rfl rfl ?_ ?_
    · (repeat' ((conv => whnf); (first | (with_reducible first | apply spl | apply spl') <;> intro hc <;> try (exfalso; omega) | with_reducible refine iJ fun hc => ?_ | refine vcq (k := ?_) | refine dr 2014 (k := ?_) | refine dr 40603052005 (k := ?_)))); all_goals ((try conv => whnf); try with_reducible exact trivial)
    · rintro _ _ ⟨rfl, rfl⟩
      (repeat' ((conv => whnf); (first | (with_reducible first | apply spl | apply spl') <;> intro hc <;> try (exfalso; omega) | with_reducible refine iJ fun hc => ?_ | refine vcq (k := ?_) | refine dr 2014 (k := ?_) | refine dr 40603052005 (k := ?_)))); all_goals ((try conv => whnf); try with_reducible exact trivial)
      refine ⟨_, _, ⟨rfl, rfl⟩, some [some 0, some 1, some 2, some 3, some 4, some 5, some 6, some 7], ?_⟩
      (repeat' ((conv => whnf); (first | (with_reducible first | apply spl | apply spl') <;> intro hc <;> try (exfalso; omega) | with_reducible refine iJ fun hc => ?_ | refine vcq (k := ?_) | refine dr 2014 (k := ?_) | refine dr 40603052005 (k := ?_)))); all_goals ((try conv => whnf); try with_reducible exact trivial)
  | m + 1, b, s, hl, hnd, hlt, hb => by
    have ih := next22 q hq m
    have hn := hq.rql
    refine callee_ent Try.E_ok Try.func68 rfl (by kernel_rfl) ?_
    (repeat' ((conv => whnf); (first | (with_reducible first | apply spl | apply spl') <;> intro hc <;> try (exfalso; omega) | with_reducible refine iJ fun hc => ?_ | refine vcq (k := ?_) | refine dr 2014 (k := ?_) | refine dr 40603052005 (k := ?_)))); all_goals ((try conv => whnf); try with_reducible exact trivial)
    refine ⟨Nat × (Nat → Int), fun p => p.1 ≤ q.rq.length ∧ p.2 = q.cntL s (dfsP q.rq.length q.pas.toNat q.od m b p.1), fun p => q.rq.length - p.1, fun p => [(29, .int .i64 (p.1 : Nat))], fun p => [(7, .row 3 1 q.rq.length (fun r => [.int .i64 (p.2 r)]) false)], fun _ => [], (0, s), ⟨⟨by dsimp only; omega, rfl⟩, none, ?_⟩, ?_⟩
    · (repeat' ((conv => whnf); (first | (with_reducible first | apply spl | apply spl') <;> intro hc <;> try (exfalso; omega) | with_reducible refine iJ fun hc => ?_ | refine vcq (k := ?_) | refine dr 2014 (k := ?_) | refine dr 40603052005 (k := ?_)))); all_goals ((try conv => whnf); try with_reducible exact trivial)
      rfl
    · rintro ⟨i, t⟩ ⟨hi, ht⟩
      dsimp only at hi ht
      have hti : (i : Int).toNat = i := Int.toNat_natCast i
      (repeat' ((conv => whnf); (first | (with_reducible first | apply spl | apply spl') <;> intro hc <;> try (exfalso; omega) | with_reducible refine iJ fun hc => ?_ | refine vcq (k := ?_) | refine dr 2014 (k := ?_) | refine dr 40603052005 (k := ?_)))); all_goals ((try conv => whnf); try with_reducible exact trivial)
      · refine ⟨Nat, fun j => j ≤ b.length ∧ i ∉ b.take j, fun j => b.length - j, fun j => [(34, .int .i64 (j : Nat))], fun _ => [], fun _ => [], 0, ⟨⟨by omega, by simp⟩, none, ?_⟩, ?_⟩
        · (repeat' ((conv => whnf); (first | (with_reducible first | apply spl | apply spl') <;> intro hc <;> try (exfalso; omega) | with_reducible refine iJ fun hc => ?_ | refine vcq (k := ?_) | refine dr 2014 (k := ?_) | refine dr 40603052005 (k := ?_)))); all_goals ((try conv => whnf); try with_reducible exact trivial)
        · rintro j ⟨hj, hjm⟩
          have htj : (j : Int).toNat = j := Int.toNat_natCast j
          (repeat' ((conv => whnf); (first | (with_reducible first | apply spl | apply spl') <;> intro hc <;> try (exfalso; omega) | with_reducible refine iJ fun hc => ?_ | refine vcq (k := ?_) | refine dr 2014 (k := ?_)))); all_goals ((try conv => whnf); try with_reducible exact trivial)
          · rw [htj] at hc
            have hjb : j < b.length := by omega
            have hin : i ∈ b := by
              rw [show i = b.getD j 0 by omega, getD_get hjb]
              exact List.getElem_mem hjb
            have hil : i < q.rq.length := hlt i hin
            refine ⟨(i + 1, t), ⟨⟨by dsimp only; omega, by dsimp only; rw [dfsP_in hin]; exact ht⟩, by dsimp only; omega⟩, none, ?_⟩
            (repeat' ((conv => whnf); (first | (with_reducible first | apply spl | apply spl') <;> intro hc <;> try (exfalso; omega) | with_reducible refine iJ fun hc => ?_ | refine vcq (k := ?_) | refine dr 2014 (k := ?_) | refine dr 40603052005 (k := ?_)))); all_goals ((try conv => whnf); try with_reducible exact trivial)
          · rw [htj] at hc
            have hjb : j < b.length := by omega
            refine ⟨j + 1, ⟨⟨by omega, ?_⟩, by dsimp only; omega⟩, none, ?_⟩
            · rw [List.take_succ_eq_append_getElem hjb, ← getD_get hjb, List.mem_append, List.mem_singleton]
              rintro (g | g)
              · exact hjm g
              · omega
            · (repeat' ((conv => whnf); (first | (with_reducible first | apply spl | apply spl') <;> intro hc <;> try (exfalso; omega) | with_reducible refine iJ fun hc => ?_ | refine vcq (k := ?_) | refine dr 2014 (k := ?_) | refine dr 40603052005 (k := ?_)))); all_goals ((try conv => whnf); try with_reducible exact trivial)
          · obtain rfl : j = b.length := by omega
            rw [List.take_length] at hjm
            have hil : i < q.rq.length := by omega
            by_cases hf : FitsQ q.rq.length q.pas.toNat q.od b i
            · refine pcall_view (fitsT q hq b (by omega) i hil hf) ?_ ?_
              · (repeat' ((conv => whnf); (first | (with_reducible first | apply spl | apply spl') <;> intro hc <;> try (exfalso; omega) | with_reducible refine iJ fun hc => ?_ | refine vcq (k := ?_) | refine dr 2014 (k := ?_) | refine dr 40603052005 (k := ?_)))); all_goals ((try conv => whnf); try with_reducible exact trivial)
              · (repeat' ((conv => whnf); (first | (with_reducible first | apply spl | apply spl') <;> intro hc <;> try (exfalso; omega) | with_reducible refine iJ fun hc => ?_ | refine vcq (k := ?_) | refine dr 2014 (k := ?_)))); all_goals ((try conv => whnf); try with_reducible exact trivial)
                have ⟨k1, k2, k3⟩ := snoc_ok hl hnd hlt hil hjm
                have hlen : (b ++ [i]).length = b.length + 1 := by simp
                have hb2 : ∀ r, 0 ≤ t r ∧ t r + ((dfsQ q.rq.length q.pas.toNat q.od m (b ++ [i])).length : Nat) ≤ 1000000 := fun r => by
                  have h1 := hb r
                  have h2 := q.cntL_bnd r (dfsP q.rq.length q.pas.toNat q.od m b i) s
                  have h3 := dfsP_room (m := m) hil hjm hf
                  rw [ht]
                  omega
                refine callee_frame [9, 1, 2, 3, 4, 5, 6, 7] (ih (b ++ [i]) t k1 k2 k3 hb2) rfl ?_ ?_
                · (repeat' ((conv => whnf); (first | (with_reducible first | apply spl | apply spl') <;> intro hc <;> try (exfalso; omega) | with_reducible refine iJ fun hc => ?_ | refine vcq (k := ?_) | refine dr 2014 (k := ?_) | refine dr 40603052005 (k := ?_)))); all_goals ((try conv => whnf); try with_reducible exact trivial)
                  refine ⟨rowOf_snoc rfl (fun _ _ => rfl), ?_⟩
                  (repeat' ((conv => whnf); (first | (with_reducible first | apply spl | apply spl') <;> intro hc <;> try (exfalso; omega) | with_reducible refine iJ fun hc => ?_ | refine vcq (k := ?_) | refine dr 2014 (k := ?_) | refine dr 40603052005 (k := ?_)))); all_goals ((try conv => whnf); try with_reducible exact trivial)
                · rintro _ _ ⟨rfl, rfl⟩
                  (repeat' ((conv => whnf); (first | (with_reducible first | apply spl | apply spl') <;> intro hc <;> try (exfalso; omega) | with_reducible refine iJ fun hc => ?_ | refine vcq (k := ?_) | refine dr 2014 (k := ?_) | refine dr 40603052005 (k := ?_)))); all_goals ((try conv => whnf); try with_reducible exact trivial)
                  refine ⟨(i + 1, q.cntL t (dfsQ q.rq.length q.pas.toNat q.od m (b ++ [i]))), ⟨⟨by dsimp only; omega, by dsimp only; rw [ht, dfsP_fit hjm hf]; exact List.foldl_append.symm⟩, by dsimp only; omega⟩, some [some 0, some 1, some 2, some 3, some 4, some 5, some 6, some 7], ?_⟩
                  (repeat' ((conv => whnf); (first | (with_reducible first | apply spl | apply spl') <;> intro hc <;> try (exfalso; omega) | with_reducible refine iJ fun hc => ?_ | refine vcq (k := ?_) | refine dr 2014 (k := ?_) | refine dr 40603052005 (k := ?_)))); all_goals ((try conv => whnf); try with_reducible exact trivial)
            · refine pcall_view (fitsF q hq b (by omega) i hil hf) ?_ ?_
              · (repeat' ((conv => whnf); (first | (with_reducible first | apply spl | apply spl') <;> intro hc <;> try (exfalso; omega) | with_reducible refine iJ fun hc => ?_ | refine vcq (k := ?_) | refine dr 2014 (k := ?_) | refine dr 40603052005 (k := ?_)))); all_goals ((try conv => whnf); try with_reducible exact trivial)
              · (repeat' ((conv => whnf); (first | (with_reducible first | apply spl | apply spl') <;> intro hc <;> try (exfalso; omega) | with_reducible refine iJ fun hc => ?_ | refine vcq (k := ?_) | refine dr 2014 (k := ?_)))); all_goals ((try conv => whnf); try with_reducible exact trivial)
                refine ⟨(i + 1, t), ⟨⟨by dsimp only; omega, by dsimp only; rw [dfsP_no hf]; exact ht⟩, by dsimp only; omega⟩, none, ?_⟩
                (repeat' ((conv => whnf); (first | (with_reducible first | apply spl | apply spl') <;> intro hc <;> try (exfalso; omega) | with_reducible refine iJ fun hc => ?_ | refine vcq (k := ?_) | refine dr 2014 (k := ?_) | refine dr 40603052005 (k := ?_)))); all_goals ((try conv => whnf); try with_reducible exact trivial)
      · obtain rfl : i = q.rq.length := by omega
        subst ht
        refine ⟨_, _, ⟨rfl, rfl⟩, some [some 0, some 1, some 2, some 3, some 4, some 5, some 6, some 7], ?_⟩
        (repeat' ((conv => whnf); (first | (with_reducible first | apply spl | apply spl') <;> intro hc <;> try (exfalso; omega) | with_reducible refine iJ fun hc => ?_ | refine vcq (k := ?_) | refine dr 2014 (k := ?_) | refine dr 40603052005 (k := ?_)))); all_goals ((try conv => whnf); try with_reducible exact trivial)
theorem next22N (q : Qu) (hq : q.Ok) : ∀ (m : Nat) (b : List Nat) (s : Nat → Int), b.length + m = q.rq.length → b.Nodup → (∀ x ∈ b, x < q.rq.length) →
    (∀ r, 0 ≤ s r ∧ s r + (((dfsQ q.rq.length q.pas.toNat q.od m b)).length : Nat) ≤ 1000000) →
    Sx.Callee Try.prog 68 [.osl 0 b.length, .ptr 1 0, .ptr 2 0, .ptr 3 0] (nxtH q b true ++ surH q s 5 6 7) (fun v H' => v = .kb true ∧ H' = nxtH q b true ++ surH q (q.cntL s (dfsQ q.rq.length q.pas.toNat q.od m b)) 5 6 7)
  | 0, b, s, hl, hnd, hlt, hb => by
    have hn := hq.rql
    have ho : IsOrd q.rq.length b := ⟨by omega, hnd, hlt⟩
    refine callee_ent Try.E_ok Try.func68 rfl (by kernel_rfl) ?_
    (repeat' ((conv => whnf); (first | (with_reducible first | apply spl | apply spl') <;> intro hc <;> try (exfalso; omega) | with_reducible refine iJ fun hc => ?_ | refine vcq (k := ?_) | refine dr 40603052005 (k := ?_)))); all_goals ((try conv => whnf); try with_reducible exact trivial)
    refine callee_view (ends32 q hq true b ho) ?_
    (repeat' ((conv => whnf); (first | (with_reducible first | apply spl | apply spl') <;> intro hc <;> try (exfalso; omega) | with_reducible refine iJ fun hc => ?_ | refine vcq (k := ?_) | refine dr 2014 (k := ?_) | refine dr 40603052005 (k := ?_)))); all_goals ((try conv => whnf); try with_reducible exact trivial)
    rintro _ rfl
    (repeat' ((conv => whnf); (first | (with_reducible first | apply spl | apply spl') <;> intro hc <;> try (exfalso; omega) | with_reducible refine iJ fun hc => ?_ | refine vcq (k := ?_) | refine dr 2014 (k := ?_) | refine dr 40603052005 (k := ?_)))); all_goals ((try conv => whnf); try with_reducible exact trivial)
    refine ycall_frz rfl (by simp [app_eq]) ?_
    refine ycall_frame [4, 5, 6, 7] (round22 q hq b ho s hb) rfl rfl ?_ ?_
    · (repeat' ((conv => whnf); (first | (with_reducible first | apply spl | apply spl') <;> intro hc <;> try (exfalso; omega) | with_reducible refine iJ fun hc => ?_ | refine vcq (k := ?_) | refine dr 2014 (k := ?_) | refine dr 40603052005 (k := ?_)))); all_goals ((try conv => whnf); try with_reducible exact trivial)
    · rintro _ _ ⟨rfl, rfl⟩
      (repeat' ((conv => whnf); (first | (with_reducible first | apply spl | apply spl') <;> intro hc <;> try (exfalso; omega) | with_reducible refine iJ fun hc => ?_ | refine vcq (k := ?_) | refine dr 2014 (k := ?_) | refine dr 40603052005 (k := ?_)))); all_goals ((try conv => whnf); try with_reducible exact trivial)
      refine ⟨_, _, ⟨rfl, rfl⟩, some [some 0, some 1, some 2, some 3, some 4, some 5, some 6, some 7], ?_⟩
      (repeat' ((conv => whnf); (first | (with_reducible first | apply spl | apply spl') <;> intro hc <;> try (exfalso; omega) | with_reducible refine iJ fun hc => ?_ | refine vcq (k := ?_) | refine dr 2014 (k := ?_) | refine dr 40603052005 (k := ?_)))); all_goals ((try conv => whnf); try with_reducible exact trivial)
  | m + 1, b, s, hl, hnd, hlt, hb => by
    have ih := next22 q hq m
    have hn := hq.rql
    refine callee_ent Try.E_ok Try.func68 rfl (by kernel_rfl) ?_
    (repeat' ((conv => whnf); (first | (with_reducible first | apply spl | apply spl') <;> intro hc <;> try (exfalso; omega) | with_reducible refine iJ fun hc => ?_ | refine vcq (k := ?_) | refine dr 2014 (k := ?_) | refine dr 40603052005 (k := ?_)))); all_goals ((try conv => whnf); try with_reducible exact trivial)
    refine ⟨Nat × (Nat → Int), fun p => p.1 ≤ q.rq.length ∧ p.2 = q.cntL s (dfsP q.rq.length q.pas.toNat q.od m b p.1), fun p => q.rq.length - p.1, fun p => [(29, .int .i64 (p.1 : Nat))], fun p => [(7, .row 3 1 q.rq.length (fun r => [.int .i64 (p.2 r)]) false)], fun _ => [], (0, s), ⟨⟨by dsimp only; omega, rfl⟩, none, ?_⟩, ?_⟩
    · (repeat' ((conv => whnf); (first | (with_reducible first | apply spl | apply spl') <;> intro hc <;> try (exfalso; omega) | with_reducible refine iJ fun hc => ?_ | refine vcq (k := ?_) | refine dr 2014 (k := ?_) | refine dr 40603052005 (k := ?_)))); all_goals ((try conv => whnf); try with_reducible exact trivial)
      rfl
    · rintro ⟨i, t⟩ ⟨hi, ht⟩
      dsimp only at hi ht
      have hti : (i : Int).toNat = i := Int.toNat_natCast i
      (repeat' ((conv => whnf); (first | (with_reducible first | apply spl | apply spl') <;> intro hc <;> try (exfalso; omega) | with_reducible refine iJ fun hc => ?_ | refine vcq (k := ?_) | refine dr 2014 (k := ?_) | refine dr 40603052005 (k := ?_)))); all_goals ((try conv => whnf); try with_reducible exact trivial)
      · refine ⟨Nat, fun j => j ≤ b.length ∧ i ∉ b.take j, fun j => b.length - j, fun j => [(34, .int .i64 (j : Nat))], fun _ => [], fun _ => [], 0, ⟨⟨by omega, by simp⟩, none, ?_⟩, ?_⟩
        · (repeat' ((conv => whnf); (first | (with_reducible first | apply spl | apply spl') <;> intro hc <;> try (exfalso; omega) | with_reducible refine iJ fun hc => ?_ | refine vcq (k := ?_) | refine dr 2014 (k := ?_) | refine dr 40603052005 (k := ?_)))); all_goals ((try conv => whnf); try with_reducible exact trivial)
        · rintro j ⟨hj, hjm⟩
          have htj : (j : Int).toNat = j := Int.toNat_natCast j
          (repeat' ((conv => whnf); (first | (with_reducible first | apply spl | apply spl') <;> intro hc <;> try (exfalso; omega) | with_reducible refine iJ fun hc => ?_ | refine vcq (k := ?_) | refine dr 2014 (k := ?_)))); all_goals ((try conv => whnf); try with_reducible exact trivial)
          · rw [htj] at hc
            have hjb : j < b.length := by omega
            have hin : i ∈ b := by
              rw [show i = b.getD j 0 by omega, getD_get hjb]
              exact List.getElem_mem hjb
            have hil : i < q.rq.length := hlt i hin
            refine ⟨(i + 1, t), ⟨⟨by dsimp only; omega, by dsimp only; rw [dfsP_in hin]; exact ht⟩, by dsimp only; omega⟩, none, ?_⟩
            (repeat' ((conv => whnf); (first | (with_reducible first | apply spl | apply spl') <;> intro hc <;> try (exfalso; omega) | with_reducible refine iJ fun hc => ?_ | refine vcq (k := ?_) | refine dr 2014 (k := ?_) | refine dr 40603052005 (k := ?_)))); all_goals ((try conv => whnf); try with_reducible exact trivial)
          · rw [htj] at hc
            have hjb : j < b.length := by omega
            refine ⟨j + 1, ⟨⟨by omega, ?_⟩, by dsimp only; omega⟩, none, ?_⟩
            · rw [List.take_succ_eq_append_getElem hjb, ← getD_get hjb, List.mem_append, List.mem_singleton]
              rintro (g | g)
              · exact hjm g
              · omega
            · (repeat' ((conv => whnf); (first | (with_reducible first | apply spl | apply spl') <;> intro hc <;> try (exfalso; omega) | with_reducible refine iJ fun hc => ?_ | refine vcq (k := ?_) | refine dr 2014 (k := ?_) | refine dr 40603052005 (k := ?_)))); all_goals ((try conv => whnf); try with_reducible exact trivial)
          · obtain rfl : j = b.length := by omega
            rw [List.take_length] at hjm
            have hil : i < q.rq.length := by omega
            by_cases hf : FitsQ q.rq.length q.pas.toNat q.od b i
            · refine pcall_view (fitsT q hq b (by omega) i hil hf) ?_ ?_
              · (repeat' ((conv => whnf); (first | (with_reducible first | apply spl | apply spl') <;> intro hc <;> try (exfalso; omega) | with_reducible refine iJ fun hc => ?_ | refine vcq (k := ?_) | refine dr 2014 (k := ?_) | refine dr 40603052005 (k := ?_)))); all_goals ((try conv => whnf); try with_reducible exact trivial)
              · (repeat' ((conv => whnf); (first | (with_reducible first | apply spl | apply spl') <;> intro hc <;> try (exfalso; omega) | with_reducible refine iJ fun hc => ?_ | refine vcq (k := ?_) | refine dr 2014 (k := ?_)))); all_goals ((try conv => whnf); try with_reducible exact trivial)
                have ⟨k1, k2, k3⟩ := snoc_ok hl hnd hlt hil hjm
                have hlen : (b ++ [i]).length = b.length + 1 := by simp
                have hb2 : ∀ r, 0 ≤ t r ∧ t r + ((dfsQ q.rq.length q.pas.toNat q.od m (b ++ [i])).length : Nat) ≤ 1000000 := fun r => by
                  have h1 := hb r
                  have h2 := q.cntL_bnd r (dfsP q.rq.length q.pas.toNat q.od m b i) s
                  have h3 := dfsP_room (m := m) hil hjm hf
                  rw [ht]
                  omega
                refine callee_frame [9, 1, 2, 3, 4, 5, 6, 7] (ih (b ++ [i]) t k1 k2 k3 hb2) rfl ?_ ?_
                · (repeat' ((conv => whnf); (first | (with_reducible first | apply spl | apply spl') <;> intro hc <;> try (exfalso; omega) | with_reducible refine iJ fun hc => ?_ | refine vcq (k := ?_) | refine dr 2014 (k := ?_) | refine dr 40603052005 (k := ?_)))); all_goals ((try conv => whnf); try with_reducible exact trivial)
                  refine ⟨rowOf_snoc rfl (fun _ _ => rfl), ?_⟩
                  (repeat' ((conv => whnf); (first | (with_reducible first | apply spl | apply spl') <;> intro hc <;> try (exfalso; omega) | with_reducible refine iJ fun hc => ?_ | refine vcq (k := ?_) | refine dr 2014 (k := ?_) | refine dr 40603052005 (k := ?_)))); all_goals ((try conv => whnf); try with_reducible exact trivial)
                · rintro _ _ ⟨rfl, rfl⟩
                  (repeat' ((conv => whnf); (first | (with_reducible first | apply spl | apply spl') <;> intro hc <;> try (exfalso; omega) | with_reducible refine iJ fun hc => ?_ | refine vcq (k := ?_) | refine dr 2014 (k := ?_) | refine dr 40603052005 (k := ?_)))); all_goals ((try conv => whnf); try with_reducible exact trivial)
                  refine ⟨(i + 1, q.cntL t (dfsQ q.rq.length q.pas.toNat q.od m (b ++ [i]))), ⟨⟨by dsimp only; omega, by dsimp only; rw [ht, dfsP_fit hjm hf]; exact List.foldl_append.symm⟩, by dsimp only; omega⟩, some [some 0, some 1, some 2, some 3, some 4, some 5, some 6, some 7], ?_⟩
                  (repeat' ((conv => whnf); (first | (with_reducible first | apply spl | apply spl') <;> intro hc <;> try (exfalso; omega) | with_reducible refine iJ fun hc => ?_ | refine vcq (k := ?_) | refine dr 2014 (k := ?_) | refine dr 40603052005 (k := ?_)))); all_goals ((try conv => whnf); try with_reducible exact trivial)
            · refine pcall_view (fitsF q hq b (by omega) i hil hf) ?_ ?_
              · (repeat' ((conv => whnf); (first | (with_reducible first | apply spl | apply spl') <;> intro hc <;> try (exfalso; omega) | with_reducible refine iJ fun hc => ?_ | refine vcq (k := ?_) | refine dr 2014 (k := ?_) | refine dr 40603052005 (k := ?_)))); all_goals ((try conv => whnf); try with_reducible exact trivial)
              · (repeat' ((conv => whnf); (first | (with_reducible first | apply spl | apply spl') <;> intro hc <;> try (exfalso; omega) | with_reducible refine iJ fun hc => ?_ | refine vcq (k := ?_) | refine dr 2014 (k := ?_)))); all_goals ((try conv => whnf); try with_reducible exact trivial)
                refine ⟨(i + 1, t), ⟨⟨by dsimp only; omega, by dsimp only; rw [dfsP_no hf]; exact ht⟩, by dsimp only; omega⟩, none, ?_⟩
                (repeat' ((conv => whnf); (first | (with_reducible first | apply spl | apply spl') <;> intro hc <;> try (exfalso; omega) | with_reducible refine iJ fun hc => ?_ | refine vcq (k := ?_) | refine dr 2014 (k := ?_) | refine dr 40603052005 (k := ?_)))); all_goals ((try conv => whnf); try with_reducible exact trivial)
      · obtain rfl : i = q.rq.length := by omega
        subst ht
        refine ⟨_, _, ⟨rfl, rfl⟩, some [some 0, some 1, some 2, some 3, some 4, some 5, some 6, some 7], ?_⟩
        (repeat' ((conv => whnf); (first | (with_reducible first | apply spl | apply spl') <;> intro hc <;> try (exfalso; omega) | with_reducible refine iJ fun hc => ?_ | refine vcq (k := ?_) | refine dr 2014 (k := ?_) | refine dr 40603052005 (k := ?_)))); all_goals ((try conv => whnf); try with_reducible exact trivial)
end Go.Proofs

namespace Go.Proofs
open Go Go.Sx
set_option maxRecDepth 100000
set_option maxHeartbeats 40000000
open Classical in
noncomputable def Qu.sureT (q : Qu) (p : Int) (i : Nat) : List Nat := (List.range i).filter fun r => decide (q.sure p r)
theorem Qu.sureT_zero (q : Qu) (p : Int) : q.sureT p 0 = [] := rfl
theorem Qu.sureT_yes {q : Qu} {p : Int} {i : Nat} (h : q.sure p i) : q.sureT p (i + 1) = q.sureT p i ++ [i] := by
  unfold Qu.sureT
  rw [List.range_succ, List.filter_append]
  simp [h]
theorem Qu.sureT_no {q : Qu} {p : Int} {i : Nat} (h : ¬ q.sure p i) : q.sureT p (i + 1) = q.sureT p i := by
  unfold Qu.sureT
  rw [List.range_succ, List.filter_append]
  simp [h]
theorem Qu.sureT_len (q : Qu) (p : Int) (i : Nat) : (q.sureT p i).length ≤ i := by
  have := List.length_filter_le (fun r => @decide (q.sure p r) (Classical.propDecidable _)) (List.range i)
  rw [List.length_range] at this
  exact this
theorem Qu.mem_sureT {q : Qu} {p : Int} {i r : Nat} : r ∈ q.sureT p i ↔ r < i ∧ q.sure p r := by
  unfold Qu.sureT
  simp
noncomputable def Qu.sureL (q : Qu) (p : Int) : List Nat := q.sureT p q.rq.length
theorem Sure22 (q : Qu) (hq : q.Ok) : PureC Try.prog 22 false [.agg q.c] (· = .tup [.sl 1 (q.sureL q.pas).length (rowOf natC 0 (q.sureL q.pas)), .int .i64 0]) := by
  have hn := hq.rql
  have hlen := dfsQ_len q.rq.length q.pas.toNat q.od hn q.rq.length []
  have h6 : 6 ^ q.rq.length ≤ 6 ^ 6 := Nat.pow_le_pow_right (by omega) hn
  have hnx := next22N q hq q.rq.length [] (fun _ => 0) (by simp) List.nodup_nil (by simp) (fun r => ⟨Int.le_refl _, by omega⟩)
  have hz := fun r (hr : r < q.rq.length) => q.cntL_zero r hr (dfsQ q.rq.length q.pas.toNat q.od q.rq.length []) (fun _ => 0)
  have hs : ∀ r, r < q.rq.length → (q.cntL (fun _ => 0) (dfsQ q.rq.length q.pas.toNat q.od q.rq.length []) r = 0 ↔ q.sure q.pas r) := fun r hr => hz r hr
  clear hlen h6
  refine pureC_of_exec Try.E_ok Try.func22 rfl (by kernel_rfl) ?_
  (repeat' ((conv => whnf); (first | (with_reducible first | apply spl | apply spl') <;> intro hc <;> try (exfalso; omega) | with_reducible refine iJ fun hc => ?_ | refine vcq (k := ?_) | fail))); all_goals ((try conv => whnf); try with_reducible exact trivial)
  refine callee_fo (Check43 q hq) rfl ?_
  rintro _ rfl
  (repeat' ((conv => whnf); (first | (with_reducible first | apply spl | apply spl') <;> intro hc <;> try (exfalso; omega) | with_reducible refine iJ fun hc => ?_ | refine vcq (k := ?_) | fail))); all_goals ((try conv => whnf); try with_reducible exact trivial)
  refine callee_exec Try.E_ok Try.func46 rfl (by kernel_rfl) ?_
  (repeat' ((conv => whnf); (first | (with_reducible first | apply spl | apply spl') <;> intro hc <;> try (exfalso; omega) | with_reducible refine iJ fun hc => ?_ | refine vcq (k := ?_) | fail))); all_goals ((try conv => whnf); try with_reducible exact trivial)
  refine callee_nil 3 1 (rowOf natC 0 []) ?_
  (repeat' ((conv => whnf); (first | (with_reducible first | apply spl | apply spl') <;> intro hc <;> try (exfalso; omega) | with_reducible refine iJ fun hc => ?_ | refine vcq (k := ?_) | fail))); all_goals ((try conv => whnf); try with_reducible exact trivial)
  refine ⟨?_, ?_⟩
  · (repeat' ((conv => whnf); (first | (with_reducible first | apply spl | apply spl') <;> intro hc <;> try (exfalso; omega) | with_reducible refine iJ fun hc => ?_ | refine vcq (k := ?_) | fail))); all_goals ((try conv => whnf); try with_reducible exact trivial)
  · refine callee_frame [8, 5, 6, 7, 4, 1, 3, 2] hnx rfl ?_ ?_
    · (repeat' ((conv => whnf); (first | (with_reducible first | apply spl | apply spl') <;> intro hc <;> try (exfalso; omega) | with_reducible refine iJ fun hc => ?_ | refine vcq (k := ?_) | fail))); all_goals ((try conv => whnf); try with_reducible exact trivial)
    · rintro _ _ ⟨rfl, rfl⟩
      (repeat' ((conv => whnf); (first | (with_reducible first | apply spl | apply spl') <;> intro hc <;> try (exfalso; omega) | with_reducible refine iJ fun hc => ?_ | refine vcq (k := ?_) | fail))); all_goals ((try conv => whnf); try with_reducible exact trivial)
      generalize q.cntL (fun _ => 0) (dfsQ q.rq.length q.pas.toNat q.od q.rq.length []) = s at *
      have hsl := fun i => q.sureT_len q.pas i
      refine ⟨Nat, fun i => i ≤ q.rq.length, fun i => q.rq.length - i, fun i => [(44, .int .i64 (i : Nat)), (9, .osl 9 (q.sureT q.pas i).length)], fun _ => [], fun i => [.row 3 1 (q.sureT q.pas i).length (rowOf natC 0 (q.sureT q.pas i)) true], 0, ⟨by omega, some [some 0, some 1, some 2, some 3, some 4, some 5, some 6, some 7, some 8, none], ?_⟩, ?_⟩
      · (repeat' ((conv => whnf); (first | (with_reducible first | apply spl | apply spl') <;> intro hc <;> try (exfalso; omega) | with_reducible refine iJ fun hc => ?_ | refine vcq (k := ?_) | fail))); all_goals ((try conv => whnf); try with_reducible exact trivial)
      · intro i hi
        have hi : i ≤ q.rq.length := hi
        have hti : (i : Int).toNat = i := Int.toNat_natCast i
        have hli := hsl i
        (repeat' ((conv => whnf); (first | (with_reducible first | apply spl | apply spl') <;> intro hc <;> try (exfalso; omega) | with_reducible refine iJ fun hc => ?_ | refine vcq (k := ?_) | fail))); all_goals ((try conv => whnf); try with_reducible exact trivial)
        · have hil : i < q.rq.length := by omega
          rw [hti] at hc
          have hy := q.sureT_yes ((hs i hil).1 hc)
          have hlen : (q.sureT q.pas (i + 1)).length = (q.sureT q.pas i).length + 1 := by rw [hy, List.length_append]; rfl
          refine ⟨i + 1, ⟨by omega, by dsimp only; omega⟩, some [some 0, some 1, some 2, some 3, some 4, some 5, some 6, some 7, some 8, some 11], ?_⟩
          (repeat' ((conv => whnf); (first | (with_reducible first | apply spl | apply spl') <;> intro hc <;> try (exfalso; omega) | with_reducible refine iJ fun hc => ?_ | refine vcq (k := ?_) | fail))); all_goals ((try conv => whnf); try with_reducible exact trivial)
          refine ⟨?_, ?_⟩
          · rw [hy]
            exact rowOf_snoc rfl fun _ _ => rfl
          · (repeat' ((conv => whnf); (first | (with_reducible first | apply spl | apply spl') <;> intro hc <;> try (exfalso; omega) | with_reducible refine iJ fun hc => ?_ | refine vcq (k := ?_) | fail))); all_goals ((try conv => whnf); try with_reducible exact trivial)
        · have hil : i < q.rq.length := by omega
          rw [hti] at hc
          have hy := Qu.sureT_no fun g => hc ((hs i hil).2 g)
          refine ⟨i + 1, ⟨by omega, by dsimp only; omega⟩, some [some 0, some 1, some 2, some 3, some 4, some 5, some 6, some 7, some 8, some 9], ?_⟩
          dsimp only
          rw [hy]
          (repeat' ((conv => whnf); (first | (with_reducible first | apply spl | apply spl') <;> intro hc <;> try (exfalso; omega) | with_reducible refine iJ fun hc => ?_ | refine vcq (k := ?_) | fail))); all_goals ((try conv => whnf); try with_reducible exact trivial)
        · obtain rfl : i = q.rq.length := by omega
          refine ⟨_, rfl, ?_⟩
          (repeat' ((conv => whnf); (first | (with_reducible first | apply spl | apply spl') <;> intro hc <;> try (exfalso; omega) | with_reducible refine iJ fun hc => ?_ | refine vcq (k := ?_) | fail))); all_goals ((try conv => whnf); try with_reducible exact trivial)
end Go.Proofs

namespace Go.Proofs
open Go Go.Sx
set_option maxRecDepth 100000
set_option maxHeartbeats 40000000
theorem IsOrd.int {n : Nat} {o : List Nat} (h : IsOrd n o) : IsOrdI n (o.map Int.ofNat) := by
  have hg : ∀ i, i < o.length → (o.map Int.ofNat).getD i 0 = (o.getD i 0 : Nat) := fun i hi => by
    rw [List.getD_eq_getElem?_getD, List.getElem?_map, List.getD_eq_getElem?_getD, List.getElem?_eq_getElem hi]
    rfl
  have hl : (o.map Int.ofNat).length = o.length := List.length_map ..
  refine ⟨fun i hi => ?_, fun i hi k hk e => ?_, by rw [hl]; exact h.len⟩
  · rw [hl] at hi
    rw [hg i hi]
    have := h.lt (o.getD i 0) (by rw [getD_get hi]; exact List.getElem_mem hi)
    omega
  · rw [hl] at hi
    rw [hg i hi, hg k (by omega)] at e
    have := h.inj (by omega) hi (Int.ofNat_inj.1 e)
    omega
theorem IsOrderF (q : Qu) (hrq : q.rq.length ≤ 1000000) (l : List Int) (hl : l.length ≤ 1000000) (h : ¬ IsOrdI q.rq.length l) : PureC Try.prog 9 false [.agg q.c, .sl 1 l.length (rowOf intC 0 l)] (· = .kb false) :=
  pureWk (IsOrder9 q hrq l hl) fun _ e => ⟨_, rfl, fun I w v hd => by subst e; simpa [Den, h] using hd⟩
theorem IsOrderN (q : Qu) (hrq : q.rq.length ≤ 1000000) (o : List Nat) (ho : IsOrd q.rq.length o) : PureC Try.prog 9 false [.agg q.c, .sl 1 o.length (rowOf natC 0 o)] (· = .kb true) := by
  have h := ho.int
  have hl : (o.map Int.ofNat).length = o.length := List.length_map ..
  have hc := IsOrder9 q hrq (o.map Int.ofNat) (by rw [hl, ho.len]; exact hrq)
  rw [hl, ← rowNat] at hc
  exact pureWk hc fun _ e => ⟨_, rfl, fun I w v hd => by subst e; simpa [Den, h] using hd⟩
theorem IsAllowedN (q : Qu) (hq : q.Ok) (o : List Nat) (ho : IsOrd q.rq.length o) (h : AllP q.rq.length q.pas.toNat q.od o) : PureC Try.prog 24 false [.agg q.c, .sl 1 o.length (rowOf natC 0 o)] (· = .kb true) := by
  have h := (allP_iff ho).1 h
  exact pureWk (IsAllowed24 q hq o ho) fun _ e => ⟨_, rfl, fun I w v hd => by subst e; simpa [Den, h] using hd⟩
theorem IsAllowedF (q : Qu) (hq : q.Ok) (o : List Nat) (ho : IsOrd q.rq.length o) (h : ¬ AllP q.rq.length q.pas.toNat q.od o) : PureC Try.prog 24 false [.agg q.c, .sl 1 o.length (rowOf natC 0 o)] (· = .kb false) := by
  have h : ¬ AllR q.pas.toNat q.od o := fun g => h ((allP_iff ho).2 g)
  exact pureWk (IsAllowed24 q hq o ho) fun _ e => ⟨_, rfl, fun I w v hd => by subst e; simpa [Den, h] using hd⟩
end Go.Proofs

namespace Go.Proofs
open Go Go.Sx
set_option maxRecDepth 100000
set_option maxHeartbeats 40000000
theorem vcH {a b : Prop} (h : a) (k : b) : a ∧ b := ⟨h, k⟩
theorem mem_take_succ {L : List Nat} {k : Nat} (i : Nat) (h : k < L.length) : i ∈ L.take (k + 1) ↔ i ∈ L.take k ∨ (L.getD k 0 : Int) = i := by
  rw [List.take_succ_eq_append_getElem h, ← getD_get h, List.mem_append, List.mem_singleton]
  exact or_congr_right ⟨fun g => by omega, fun g => by omega⟩
theorem Tight23t (q : Qu) (hq : q.Ok) (t : Nat) (hte : q.late t = q.late 6) (htm : ∀ p : Nat, p < t → q.late p ≠ q.late 6) : PureC Try.prog 23 false [.agg q.c] (· = .tup [.int .i64 t, .int .i64 0]) :=
  (Tight23 q hq).mono fun v ⟨t', ⟨_, h2, h3⟩, e⟩ => by
    have htt : t = t' := by
      rcases Nat.lt_trichotomy t t' with g | g | g
      · exact absurd hte (h3 t g)
      · exact g
      · exact absurd h2 (htm t' g)
    subst htt
    exact e
theorem tight_ex (q : Qu) : ∃ t : Nat, t ≤ 6 ∧ q.late t = q.late 6 ∧ ∀ p : Nat, p < t → q.late p ≠ q.late 6 := by
  have h : ∀ n : Nat, (∃ t : Nat, t ≤ n ∧ q.late t = q.late 6) → ∃ t : Nat, t ≤ n ∧ q.late t = q.late 6 ∧ ∀ p : Nat, p < t → q.late p ≠ q.late 6 := by
    intro n
    induction n with
    | zero => rintro ⟨t, h1, h2⟩; exact ⟨t, h1, h2, fun p hp => by omega⟩
    | succ n ih =>
      rintro ⟨t, h1, h2⟩
      by_cases g : ∃ t : Nat, t ≤ n ∧ q.late t = q.late 6
      · obtain ⟨t', g1, g2⟩ := ih g
        exact ⟨t', by omega, g2⟩
      · exact ⟨t, h1, h2, fun p hp e => g ⟨p, by omega, e⟩⟩
  exact h 6 ⟨6, by omega, rfl⟩
end Go.Proofs

namespace Go.Proofs
open Go Go.Sx
set_option maxRecDepth 100000
set_option maxHeartbeats 40000000
theorem Sure7_1p (q : Qu) (hz : q.d.Z.length ≤ 9223372036854775807) (hsk : q.sk.length ≤ 9223372036854775807) (hrq : q.rq.length ≤ 9223372036854775807) (l : List Int) (hl : l.length ≤ 9223372036854775807) (hoI : IsOrdI q.rq.length l) (hall : AllR q.pas.toNat q.od (l.map Int.toNat)) (t : Nat) (ht : t ≤ 6) (hte : q.late t = q.late 6) (htm : ∀ p : Nat, p < t → q.late p ≠ q.late 6) (h9 : 0 < t) :
    PureC Try.prog 7 false [.agg q.c, .sl 1 l.length (rowOf intC 0 l)] (· = .prop True inferInstance) := by
  refine pureC_of_exec Try.E_ok Try.func7 rfl (by kernel_rfl) ?_
  (repeat' ((conv => whnf); (first | (with_reducible first | apply spl | apply spl') <;> intro hc <;> try (exfalso; omega) | with_reducible refine iJ fun hc => ?_ | refine vcq (k := ?_) | fail))); all_goals ((try conv => whnf); try with_reducible exact trivial); (repeat' ((first | (refine callee_fo (ready8 q hz hsk hrq) rfl ?_; rintro _ rfl) | (refine pcall_intro (ready8 q hz hsk hrq) rfl ?_) | (refine pcall_soft (fun _ => ready8 q hz hsk hrq) rfl ?_) | (refine callee_fo (works10) rfl ?_; rintro _ rfl) | (refine pcall_intro (works10) rfl ?_) | (refine pcall_soft (fun _ => works10) rfl ?_)); (repeat' ((conv => whnf); (first | (with_reducible first | apply spl | apply spl') <;> intro hc <;> try (exfalso; omega) | with_reducible refine iJ fun hc => ?_ | refine vcq (k := ?_) | fail))); all_goals ((try conv => whnf); try with_reducible exact trivial)))
  · refine ⟨_, rfl, ?_⟩
    (repeat' ((conv => whnf); (first | (with_reducible first | apply spl | apply spl') <;> intro hc <;> try (exfalso; omega) | with_reducible refine iJ fun hc => ?_ | refine vcq (k := ?_) | fail))); all_goals ((try conv => whnf); try with_reducible exact trivial)
  · obtain ⟨hs, hsk1⟩ := Qu.ready (q := q) (Classical.not_not.1 fun g => hc (.inl g))
    have hq := hs.ok
    have hrn := hs.rql
    have hl20 : l.length ≤ 20 := by omega
    clear hc
    have hll : l.length = (l.map Int.toNat).length := by simp
    have ho := hoI.ord
    rw [hoI.row, hll]
    generalize l.map Int.toNat = o at *
    have holen := ho.len
    refine callee_fo (Sure22 q hq) rfl ?_
    rintro _ rfl
    (repeat' ((conv => whnf); (first | (with_reducible first | apply spl | apply spl') <;> intro hc <;> try (exfalso; omega) | with_reducible refine iJ fun hc => ?_ | refine vcq (k := ?_) | fail))); all_goals ((try conv => whnf); try with_reducible exact trivial)
    refine callee_fo (Tight23t q hq t hte htm) rfl ?_
    rintro _ rfl
    have hsl : (q.sureL q.pas).length ≤ q.rq.length := q.sureT_len q.pas q.rq.length
    (repeat' ((conv => whnf); (first | (with_reducible first | apply spl | apply spl') <;> intro hc <;> try (exfalso; omega) | with_reducible refine iJ fun hc => ?_ | refine vcq (k := ?_) | fail))); all_goals ((try conv => whnf); try with_reducible exact trivial)
    clear hc
    have hpas := hq.pas
    have hO6 := Order18 (q.wp 6) (hq.wp (by omega))
    have hOt := Order18 (q.wp t) (hq.wp (by omega))
    have hOs : 0 < t → PureC Try.prog 18 true [.agg (q.wp (t - 1)).c] (· = .tup [.sl 1 (q.best (t - 1)).1.length (rowOf natC 0 (q.best (t - 1)).1), .int .i64 (q.best (t - 1)).2.1, .int .i64 (q.best (t - 1)).2.2, .int .i64 0]) := fun g => by
      have h := Order18 (q.wp (t - 1)) (hq.wp (by omega))
      rw [show (q.wp (t - 1)).pas = t - 1 from rfl, q.best_wp] at h
      exact h
    rw [show (q.wp 6).pas = 6 from rfl, q.best_wp] at hO6
    rw [show (q.wp t).pas = t from rfl, q.best_wp] at hOt
    have hl6 : (q.best t).2.1 = (q.best 6).2.1 := hte
    have hb6 := best_any (q := q) 6
    have hlt : 0 < t → (q.best 6).2.1 < (q.best (t - 1)).2.1 := fun g => by
      have h1 := htm (t - 1) (by omega)
      have h2 := Qu.best_mono (q := q) (p := ((t - 1 : Nat) : Int)) (p' := 6) (by omega)
      unfold Qu.leB at h2
      rw [show ((t - 1 : Nat) : Int) = (t : Int) - 1 by omega] at h1 h2
      have h1 : (q.best ((t : Int) - 1)).2.1 ≠ (q.best 6).2.1 := h1
      omega
    clear hte htm
    refine callee_fo (With19 q 6) rfl ?_
    rintro _ rfl
    (repeat' ((conv => whnf); (first | (with_reducible first | apply spl | apply spl') <;> intro hc <;> try (exfalso; omega) | with_reducible refine iJ fun hc => ?_ | refine vcq (k := ?_) | fail))); all_goals ((try conv => whnf); try with_reducible exact trivial)
    refine callee_fo hO6 rfl ?_
    rintro _ rfl
    (repeat' ((conv => whnf); (first | (with_reducible first | apply spl | apply spl') <;> intro hc <;> try (exfalso; omega) | with_reducible refine iJ fun hc => ?_ | refine vcq (k := ?_) | fail))); all_goals ((try conv => whnf); try with_reducible exact trivial)
    refine callee_fo (With19 q t) rfl ?_
    rintro _ rfl
    (repeat' ((conv => whnf); (first | (with_reducible first | apply spl | apply spl') <;> intro hc <;> try (exfalso; omega) | with_reducible refine iJ fun hc => ?_ | refine vcq (k := ?_) | fail))); all_goals ((try conv => whnf); try with_reducible exact trivial)
    refine callee_fo hOt rfl ?_
    rintro _ rfl
    (repeat' ((conv => whnf); (first | (with_reducible first | apply spl | apply spl') <;> intro hc <;> try (exfalso; omega) | with_reducible refine iJ fun hc => ?_ | refine vcq (k := ?_) | fail))); all_goals ((try conv => whnf); try with_reducible exact trivial)
    refine callee_fo (With19 q (t - 1)) rfl ?_
    rintro _ rfl
    (repeat' ((conv => whnf); (first | (with_reducible first | apply spl | apply spl') <;> intro hc <;> try (exfalso; omega) | with_reducible refine iJ fun hc => ?_ | refine vcq (k := ?_) | fail))); all_goals ((try conv => whnf); try with_reducible exact trivial)
    refine callee_fo (hOs (by omega)) rfl ?_
    rintro _ rfl
    have hlt := hlt (by omega)
    clear hc
    (repeat' ((conv => whnf); (first | (with_reducible first | apply spl | apply spl') <;> intro hc <;> try (exfalso; omega) | with_reducible refine iJ fun hc => ?_ | refine vcq (k := ?_) | fail))); all_goals ((try conv => whnf); try with_reducible exact trivial)
    clear hO6 hOt hOs hl6 hb6
    refine callee_fo (IsOrderN q (by omega) o ho) rfl ?_
    rintro _ rfl
    (repeat' ((conv => whnf); (first | (with_reducible first | apply spl | apply spl') <;> intro hc <;> try (exfalso; omega) | with_reducible refine iJ fun hc => ?_ | refine vcq (k := ?_) | fail))); all_goals ((try conv => whnf); try with_reducible exact trivial)
    refine callee_fo (IsAllowed24 q hq o ho) rfl ?_
    rintro _ rfl
    (repeat' ((conv => whnf); (first | (with_reducible first | apply spl | apply spl') <;> intro hc <;> try (exfalso; omega) | with_reducible refine iJ fun hc => ?_ | refine vcq (k := ?_) | fail))); all_goals ((try conv => whnf); try with_reducible exact trivial)
    · have hmem : o ∈ q.all q.pas := mem_allQ.2 ⟨ho, (allP_iff ho).2 hc⟩
      have hsure : ∀ i, i < q.rq.length → ((q.req i).du < 0 ∨ q.bound q.pas i ≤ (q.req i).du) → ¬ q.isLate o i := fun i _ g => (q.sure_iff q.pas i).2 g o hmem
      clear hmem
      refine callee_fo (Ends11 q hq o ho) rfl ?_
      rintro _ rfl
      (repeat' ((conv => whnf); (first | (with_reducible first | apply spl | apply spl') <;> intro hc <;> try (exfalso; omega) | with_reducible refine iJ fun hc => ?_ | refine vcq (k := ?_) | fail))); all_goals ((try conv => whnf); try with_reducible exact trivial)
      refine ⟨Nat, fun i => i ≤ q.rq.length, fun i => q.rq.length - i, fun i => [(25, .int .i64 (i : Nat))], fun _ => [], fun _ => [], 0, ⟨by omega, none, ?_⟩, ?_⟩
      · (repeat' ((conv => whnf); (first | (with_reducible first | apply spl | apply spl') <;> intro hc <;> try (exfalso; omega) | with_reducible refine iJ fun hc => ?_ | refine vcq (k := ?_) | fail))); all_goals ((try conv => whnf); try with_reducible exact trivial)
      · intro i hi
        have hi : i ≤ q.rq.length := hi
        have hti : (i : Int).toNat = i := Int.toNat_natCast i
        have hB := fun h => Bound21 q hq i h
        (repeat' ((conv => whnf); (first | (with_reducible first | apply spl | apply spl') <;> intro hc <;> try (exfalso; omega) | with_reducible refine iJ fun hc => ?_ | refine vcq (k := ?_) | fail))); all_goals ((try conv => whnf); try with_reducible exact trivial)
        · have hil : i < q.rq.length := by omega
          clear hc
          have hB := hB hil
          refine callee_fo hB rfl ?_
          rintro _ rfl
          clear hB
          generalize hLL : q.sureL q.pas = L at *
          (repeat' ((conv => whnf); (first | (with_reducible first | apply spl | apply spl') <;> intro hc <;> try (exfalso; omega) | with_reducible refine iJ fun hc => ?_ | refine vcq (k := ?_) | fail))); all_goals ((try conv => whnf); try with_reducible exact trivial)
          refine ⟨Nat, fun k => k ≤ L.length, fun k => L.length - k, fun k => [(29, .int .i64 (k : Nat)), (28, .prop (i ∈ L.take k) inferInstance)], fun _ => [], fun _ => [], 0, ⟨by omega, none, ?_⟩, ?_⟩
          · (repeat' ((conv => whnf); (first | (with_reducible first | apply spl | apply spl') <;> intro hc <;> try (exfalso; omega) | with_reducible refine iJ fun hc => ?_ | refine vcq (k := ?_) | fail))); all_goals ((try conv => whnf); try with_reducible exact trivial)
            refine ⟨by simp, ?_⟩
            (repeat' ((conv => whnf); (first | (with_reducible first | apply spl | apply spl') <;> intro hc <;> try (exfalso; omega) | with_reducible refine iJ fun hc => ?_ | refine vcq (k := ?_) | fail))); all_goals ((try conv => whnf); try with_reducible exact trivial)
          · intro k hk
            have hk : k ≤ L.length := hk
            have htk : (k : Int).toNat = k := Int.toNat_natCast k
            have h0 : 0 ≤ (i : Int) ∧ (i : Int) < q.rq.length := by omega
            (repeat' ((conv => whnf); (first | ((first | with_reducible refine spl (fun hc => ?_) (fun hc => ?_) | with_reducible refine spl' (fun hc => ?_) (fun hc => ?_))) | with_reducible refine iJ (fun hc => ?_) | with_reducible refine vcH (fun _ => h0) ?_ | refine vcq (k := ?_) | fail))); all_goals ((try conv => whnf); try with_reducible exact trivial)
            · have hv := (mem_take_succ (L := L) (k := k) i (by omega))
              refine ⟨k + 1, ⟨by omega, by dsimp only; omega⟩, none, ?_⟩
              (repeat' ((conv => whnf); (first | (with_reducible first | apply spl | apply spl') <;> intro hc <;> try (exfalso; omega) | with_reducible refine iJ fun hc => ?_ | refine vcq (k := ?_) | fail))); all_goals ((try conv => whnf); try with_reducible exact trivial)
              rw [htk]
              refine ⟨hv.symm, ?_⟩
              (repeat' ((conv => whnf); (first | (with_reducible first | apply spl | apply spl') <;> intro hc <;> try (exfalso; omega) | with_reducible refine iJ fun hc => ?_ | refine vcq (k := ?_) | fail))); all_goals ((try conv => whnf); try with_reducible exact trivial)
            · exfalso
              have hkl : k = L.length := by clear hc; omega
              subst hkl
              rw [List.take_length, hti] at hc
              have hms : i ∈ q.sureL q.pas ↔ ((q.rq.getD i Rq.none).du < 0 ∨ q.bound q.pas i ≤ (q.rq.getD i Rq.none).du) := ⟨fun g => (q.sure_iff q.pas i).1 (Qu.mem_sureT.1 g).2, fun g => Qu.mem_sureT.2 ⟨hil, (q.sure_iff q.pas i).2 g⟩⟩
              rw [hLL] at hms
              rcases hc with (g | g) | g
              · exact g rfl
              · exact g hms
              · exact hsure i hil (hms.1 g.1.1.2) ⟨g.1.2, g.2⟩
            · clear hc
              refine ⟨i + 1, ⟨by omega, by dsimp only; omega⟩, none, ?_⟩
              (repeat' ((conv => whnf); (first | (with_reducible first | apply spl | apply spl') <;> intro hc <;> try (exfalso; omega) | with_reducible refine iJ fun hc => ?_ | refine vcq (k := ?_) | fail))); all_goals ((try conv => whnf); try with_reducible exact trivial)
        · refine callee_fo works10 rfl ?_
          rintro _ rfl
          (repeat' ((conv => whnf); (first | (with_reducible first | apply spl | apply spl') <;> intro hc <;> try (exfalso; omega) | with_reducible refine iJ fun hc => ?_ | refine vcq (k := ?_) | fail))); all_goals ((try conv => whnf); try with_reducible exact trivial)
          refine ⟨_, rfl, ?_⟩
          (repeat' ((conv => whnf); (first | (with_reducible first | apply spl | apply spl') <;> intro hc <;> try (exfalso; omega) | with_reducible refine iJ fun hc => ?_ | refine vcq (k := ?_) | fail))); all_goals ((try conv => whnf); try with_reducible exact trivial)
    · exact absurd hall hc
end Go.Proofs

namespace Go.Proofs
open Go Go.Sx
set_option maxRecDepth 100000
set_option maxHeartbeats 40000000
theorem Sure7_1z (q : Qu) (hz : q.d.Z.length ≤ 9223372036854775807) (hsk : q.sk.length ≤ 9223372036854775807) (hrq : q.rq.length ≤ 9223372036854775807) (l : List Int) (hl : l.length ≤ 9223372036854775807) (hoI : IsOrdI q.rq.length l) (hall : AllR q.pas.toNat q.od (l.map Int.toNat)) (t : Nat) (ht : t ≤ 6) (hte : q.late t = q.late 6) (htm : ∀ p : Nat, p < t → q.late p ≠ q.late 6) (h9 : t = 0) :
    PureC Try.prog 7 false [.agg q.c, .sl 1 l.length (rowOf intC 0 l)] (· = .prop True inferInstance) := by
  refine pureC_of_exec Try.E_ok Try.func7 rfl (by kernel_rfl) ?_
  (repeat' ((conv => whnf); (first | (with_reducible first | apply spl | apply spl') <;> intro hc <;> try (exfalso; omega) | with_reducible refine iJ fun hc => ?_ | refine vcq (k := ?_) | fail))); all_goals ((try conv => whnf); try with_reducible exact trivial); (repeat' ((first | (refine callee_fo (ready8 q hz hsk hrq) rfl ?_; rintro _ rfl) | (refine pcall_intro (ready8 q hz hsk hrq) rfl ?_) | (refine pcall_soft (fun _ => ready8 q hz hsk hrq) rfl ?_) | (refine callee_fo (works10) rfl ?_; rintro _ rfl) | (refine pcall_intro (works10) rfl ?_) | (refine pcall_soft (fun _ => works10) rfl ?_)); (repeat' ((conv => whnf); (first | (with_reducible first | apply spl | apply spl') <;> intro hc <;> try (exfalso; omega) | with_reducible refine iJ fun hc => ?_ | refine vcq (k := ?_) | fail))); all_goals ((try conv => whnf); try with_reducible exact trivial)))
  · refine ⟨_, rfl, ?_⟩
    (repeat' ((conv => whnf); (first | (with_reducible first | apply spl | apply spl') <;> intro hc <;> try (exfalso; omega) | with_reducible refine iJ fun hc => ?_ | refine vcq (k := ?_) | fail))); all_goals ((try conv => whnf); try with_reducible exact trivial)
  · obtain ⟨hs, hsk1⟩ := Qu.ready (q := q) (Classical.not_not.1 fun g => hc (.inl g))
    have hq := hs.ok
    have hrn := hs.rql
    have hl20 : l.length ≤ 20 := by omega
    clear hc
    have hll : l.length = (l.map Int.toNat).length := by simp
    have ho := hoI.ord
    rw [hoI.row, hll]
    generalize l.map Int.toNat = o at *
    have holen := ho.len
    refine callee_fo (Sure22 q hq) rfl ?_
    rintro _ rfl
    (repeat' ((conv => whnf); (first | (with_reducible first | apply spl | apply spl') <;> intro hc <;> try (exfalso; omega) | with_reducible refine iJ fun hc => ?_ | refine vcq (k := ?_) | fail))); all_goals ((try conv => whnf); try with_reducible exact trivial)
    refine callee_fo (Tight23t q hq t hte htm) rfl ?_
    rintro _ rfl
    have hsl : (q.sureL q.pas).length ≤ q.rq.length := q.sureT_len q.pas q.rq.length
    (repeat' ((conv => whnf); (first | (with_reducible first | apply spl | apply spl') <;> intro hc <;> try (exfalso; omega) | with_reducible refine iJ fun hc => ?_ | refine vcq (k := ?_) | fail))); all_goals ((try conv => whnf); try with_reducible exact trivial)
    clear hc
    have hpas := hq.pas
    have hO6 := Order18 (q.wp 6) (hq.wp (by omega))
    have hOt := Order18 (q.wp t) (hq.wp (by omega))
    have hOs : 0 < t → PureC Try.prog 18 true [.agg (q.wp (t - 1)).c] (· = .tup [.sl 1 (q.best (t - 1)).1.length (rowOf natC 0 (q.best (t - 1)).1), .int .i64 (q.best (t - 1)).2.1, .int .i64 (q.best (t - 1)).2.2, .int .i64 0]) := fun g => by
      have h := Order18 (q.wp (t - 1)) (hq.wp (by omega))
      rw [show (q.wp (t - 1)).pas = t - 1 from rfl, q.best_wp] at h
      exact h
    rw [show (q.wp 6).pas = 6 from rfl, q.best_wp] at hO6
    rw [show (q.wp t).pas = t from rfl, q.best_wp] at hOt
    have hl6 : (q.best t).2.1 = (q.best 6).2.1 := hte
    have hb6 := best_any (q := q) 6
    have hlt : 0 < t → (q.best 6).2.1 < (q.best (t - 1)).2.1 := fun g => by
      have h1 := htm (t - 1) (by omega)
      have h2 := Qu.best_mono (q := q) (p := ((t - 1 : Nat) : Int)) (p' := 6) (by omega)
      unfold Qu.leB at h2
      rw [show ((t - 1 : Nat) : Int) = (t : Int) - 1 by omega] at h1 h2
      have h1 : (q.best ((t : Int) - 1)).2.1 ≠ (q.best 6).2.1 := h1
      omega
    clear hte htm
    refine callee_fo (With19 q 6) rfl ?_
    rintro _ rfl
    (repeat' ((conv => whnf); (first | (with_reducible first | apply spl | apply spl') <;> intro hc <;> try (exfalso; omega) | with_reducible refine iJ fun hc => ?_ | refine vcq (k := ?_) | fail))); all_goals ((try conv => whnf); try with_reducible exact trivial)
    refine callee_fo hO6 rfl ?_
    rintro _ rfl
    (repeat' ((conv => whnf); (first | (with_reducible first | apply spl | apply spl') <;> intro hc <;> try (exfalso; omega) | with_reducible refine iJ fun hc => ?_ | refine vcq (k := ?_) | fail))); all_goals ((try conv => whnf); try with_reducible exact trivial)
    refine callee_fo (With19 q t) rfl ?_
    rintro _ rfl
    (repeat' ((conv => whnf); (first | (with_reducible first | apply spl | apply spl') <;> intro hc <;> try (exfalso; omega) | with_reducible refine iJ fun hc => ?_ | refine vcq (k := ?_) | fail))); all_goals ((try conv => whnf); try with_reducible exact trivial)
    refine callee_fo hOt rfl ?_
    rintro _ rfl
    (repeat' ((conv => whnf); (first | (with_reducible first | apply spl | apply spl') <;> intro hc <;> try (exfalso; omega) | with_reducible refine iJ fun hc => ?_ | refine vcq (k := ?_) | fail))); all_goals ((try conv => whnf); try with_reducible exact trivial)
    clear hlt
    clear hO6 hOt hOs hl6 hb6
    refine callee_fo (IsOrderN q (by omega) o ho) rfl ?_
    rintro _ rfl
    (repeat' ((conv => whnf); (first | (with_reducible first | apply spl | apply spl') <;> intro hc <;> try (exfalso; omega) | with_reducible refine iJ fun hc => ?_ | refine vcq (k := ?_) | fail))); all_goals ((try conv => whnf); try with_reducible exact trivial)
    refine callee_fo (IsAllowed24 q hq o ho) rfl ?_
    rintro _ rfl
    (repeat' ((conv => whnf); (first | (with_reducible first | apply spl | apply spl') <;> intro hc <;> try (exfalso; omega) | with_reducible refine iJ fun hc => ?_ | refine vcq (k := ?_) | fail))); all_goals ((try conv => whnf); try with_reducible exact trivial)
    · have hmem : o ∈ q.all q.pas := mem_allQ.2 ⟨ho, (allP_iff ho).2 hc⟩
      have hsure : ∀ i, i < q.rq.length → ((q.req i).du < 0 ∨ q.bound q.pas i ≤ (q.req i).du) → ¬ q.isLate o i := fun i _ g => (q.sure_iff q.pas i).2 g o hmem
      clear hmem
      refine callee_fo (Ends11 q hq o ho) rfl ?_
      rintro _ rfl
      (repeat' ((conv => whnf); (first | (with_reducible first | apply spl | apply spl') <;> intro hc <;> try (exfalso; omega) | with_reducible refine iJ fun hc => ?_ | refine vcq (k := ?_) | fail))); all_goals ((try conv => whnf); try with_reducible exact trivial)
      refine ⟨Nat, fun i => i ≤ q.rq.length, fun i => q.rq.length - i, fun i => [(25, .int .i64 (i : Nat))], fun _ => [], fun _ => [], 0, ⟨by omega, none, ?_⟩, ?_⟩
      · (repeat' ((conv => whnf); (first | (with_reducible first | apply spl | apply spl') <;> intro hc <;> try (exfalso; omega) | with_reducible refine iJ fun hc => ?_ | refine vcq (k := ?_) | fail))); all_goals ((try conv => whnf); try with_reducible exact trivial)
      · intro i hi
        have hi : i ≤ q.rq.length := hi
        have hti : (i : Int).toNat = i := Int.toNat_natCast i
        have hB := fun h => Bound21 q hq i h
        (repeat' ((conv => whnf); (first | (with_reducible first | apply spl | apply spl') <;> intro hc <;> try (exfalso; omega) | with_reducible refine iJ fun hc => ?_ | refine vcq (k := ?_) | fail))); all_goals ((try conv => whnf); try with_reducible exact trivial)
        · have hil : i < q.rq.length := by omega
          clear hc
          have hB := hB hil
          refine callee_fo hB rfl ?_
          rintro _ rfl
          clear hB
          generalize hLL : q.sureL q.pas = L at *
          (repeat' ((conv => whnf); (first | (with_reducible first | apply spl | apply spl') <;> intro hc <;> try (exfalso; omega) | with_reducible refine iJ fun hc => ?_ | refine vcq (k := ?_) | fail))); all_goals ((try conv => whnf); try with_reducible exact trivial)
          refine ⟨Nat, fun k => k ≤ L.length, fun k => L.length - k, fun k => [(29, .int .i64 (k : Nat)), (28, .prop (i ∈ L.take k) inferInstance)], fun _ => [], fun _ => [], 0, ⟨by omega, none, ?_⟩, ?_⟩
          · (repeat' ((conv => whnf); (first | (with_reducible first | apply spl | apply spl') <;> intro hc <;> try (exfalso; omega) | with_reducible refine iJ fun hc => ?_ | refine vcq (k := ?_) | fail))); all_goals ((try conv => whnf); try with_reducible exact trivial)
            refine ⟨by simp, ?_⟩
            (repeat' ((conv => whnf); (first | (with_reducible first | apply spl | apply spl') <;> intro hc <;> try (exfalso; omega) | with_reducible refine iJ fun hc => ?_ | refine vcq (k := ?_) | fail))); all_goals ((try conv => whnf); try with_reducible exact trivial)
          · intro k hk
            have hk : k ≤ L.length := hk
            have htk : (k : Int).toNat = k := Int.toNat_natCast k
            have h0 : 0 ≤ (i : Int) ∧ (i : Int) < q.rq.length := by omega
            (repeat' ((conv => whnf); (first | ((first | with_reducible refine spl (fun hc => ?_) (fun hc => ?_) | with_reducible refine spl' (fun hc => ?_) (fun hc => ?_))) | with_reducible refine iJ (fun hc => ?_) | with_reducible refine vcH (fun _ => h0) ?_ | refine vcq (k := ?_) | fail))); all_goals ((try conv => whnf); try with_reducible exact trivial)
            · have hv := (mem_take_succ (L := L) (k := k) i (by omega))
              refine ⟨k + 1, ⟨by omega, by dsimp only; omega⟩, none, ?_⟩
              (repeat' ((conv => whnf); (first | (with_reducible first | apply spl | apply spl') <;> intro hc <;> try (exfalso; omega) | with_reducible refine iJ fun hc => ?_ | refine vcq (k := ?_) | fail))); all_goals ((try conv => whnf); try with_reducible exact trivial)
              rw [htk]
              refine ⟨hv.symm, ?_⟩
              (repeat' ((conv => whnf); (first | (with_reducible first | apply spl | apply spl') <;> intro hc <;> try (exfalso; omega) | with_reducible refine iJ fun hc => ?_ | refine vcq (k := ?_) | fail))); all_goals ((try conv => whnf); try with_reducible exact trivial)
            · exfalso
              have hkl : k = L.length := by clear hc; omega
              subst hkl
              rw [List.take_length, hti] at hc
              have hms : i ∈ q.sureL q.pas ↔ ((q.rq.getD i Rq.none).du < 0 ∨ q.bound q.pas i ≤ (q.rq.getD i Rq.none).du) := ⟨fun g => (q.sure_iff q.pas i).1 (Qu.mem_sureT.1 g).2, fun g => Qu.mem_sureT.2 ⟨hil, (q.sure_iff q.pas i).2 g⟩⟩
              rw [hLL] at hms
              rcases hc with (g | g) | g
              · exact g rfl
              · exact g hms
              · exact hsure i hil (hms.1 g.1.1.2) ⟨g.1.2, g.2⟩
            · clear hc
              refine ⟨i + 1, ⟨by omega, by dsimp only; omega⟩, none, ?_⟩
              (repeat' ((conv => whnf); (first | (with_reducible first | apply spl | apply spl') <;> intro hc <;> try (exfalso; omega) | with_reducible refine iJ fun hc => ?_ | refine vcq (k := ?_) | fail))); all_goals ((try conv => whnf); try with_reducible exact trivial)
        · refine callee_fo works10 rfl ?_
          rintro _ rfl
          (repeat' ((conv => whnf); (first | (with_reducible first | apply spl | apply spl') <;> intro hc <;> try (exfalso; omega) | with_reducible refine iJ fun hc => ?_ | refine vcq (k := ?_) | fail))); all_goals ((try conv => whnf); try with_reducible exact trivial)
          refine ⟨_, rfl, ?_⟩
          (repeat' ((conv => whnf); (first | (with_reducible first | apply spl | apply spl') <;> intro hc <;> try (exfalso; omega) | with_reducible refine iJ fun hc => ?_ | refine vcq (k := ?_) | fail))); all_goals ((try conv => whnf); try with_reducible exact trivial)
    · exact absurd hall hc
end Go.Proofs

namespace Go.Proofs
open Go Go.Sx
set_option maxRecDepth 100000
set_option maxHeartbeats 40000000
theorem Sure7_2p (q : Qu) (hz : q.d.Z.length ≤ 9223372036854775807) (hsk : q.sk.length ≤ 9223372036854775807) (hrq : q.rq.length ≤ 9223372036854775807) (l : List Int) (hl : l.length ≤ 9223372036854775807) (hoI : IsOrdI q.rq.length l) (hall : ¬ AllR q.pas.toNat q.od (l.map Int.toNat)) (t : Nat) (ht : t ≤ 6) (hte : q.late t = q.late 6) (htm : ∀ p : Nat, p < t → q.late p ≠ q.late 6) (h9 : 0 < t) :
    PureC Try.prog 7 false [.agg q.c, .sl 1 l.length (rowOf intC 0 l)] (· = .prop True inferInstance) := by
  refine pureC_of_exec Try.E_ok Try.func7 rfl (by kernel_rfl) ?_
  (repeat' ((conv => whnf); (first | (with_reducible first | apply spl | apply spl') <;> intro hc <;> try (exfalso; omega) | with_reducible refine iJ fun hc => ?_ | refine vcq (k := ?_) | fail))); all_goals ((try conv => whnf); try with_reducible exact trivial); (repeat' ((first | (refine callee_fo (ready8 q hz hsk hrq) rfl ?_; rintro _ rfl) | (refine pcall_intro (ready8 q hz hsk hrq) rfl ?_) | (refine pcall_soft (fun _ => ready8 q hz hsk hrq) rfl ?_) | (refine callee_fo (works10) rfl ?_; rintro _ rfl) | (refine pcall_intro (works10) rfl ?_) | (refine pcall_soft (fun _ => works10) rfl ?_)); (repeat' ((conv => whnf); (first | (with_reducible first | apply spl | apply spl') <;> intro hc <;> try (exfalso; omega) | with_reducible refine iJ fun hc => ?_ | refine vcq (k := ?_) | fail))); all_goals ((try conv => whnf); try with_reducible exact trivial)))
  · refine ⟨_, rfl, ?_⟩
    (repeat' ((conv => whnf); (first | (with_reducible first | apply spl | apply spl') <;> intro hc <;> try (exfalso; omega) | with_reducible refine iJ fun hc => ?_ | refine vcq (k := ?_) | fail))); all_goals ((try conv => whnf); try with_reducible exact trivial)
  · obtain ⟨hs, hsk1⟩ := Qu.ready (q := q) (Classical.not_not.1 fun g => hc (.inl g))
    have hq := hs.ok
    have hrn := hs.rql
    have hl20 : l.length ≤ 20 := by omega
    clear hc
    have hll : l.length = (l.map Int.toNat).length := by simp
    have ho := hoI.ord
    rw [hoI.row, hll]
    generalize l.map Int.toNat = o at *
    have holen := ho.len
    refine callee_fo (Sure22 q hq) rfl ?_
    rintro _ rfl
    (repeat' ((conv => whnf); (first | (with_reducible first | apply spl | apply spl') <;> intro hc <;> try (exfalso; omega) | with_reducible refine iJ fun hc => ?_ | refine vcq (k := ?_) | fail))); all_goals ((try conv => whnf); try with_reducible exact trivial)
    refine callee_fo (Tight23t q hq t hte htm) rfl ?_
    rintro _ rfl
    have hsl : (q.sureL q.pas).length ≤ q.rq.length := q.sureT_len q.pas q.rq.length
    (repeat' ((conv => whnf); (first | (with_reducible first | apply spl | apply spl') <;> intro hc <;> try (exfalso; omega) | with_reducible refine iJ fun hc => ?_ | refine vcq (k := ?_) | fail))); all_goals ((try conv => whnf); try with_reducible exact trivial)
    clear hc
    have hpas := hq.pas
    have hO6 := Order18 (q.wp 6) (hq.wp (by omega))
    have hOt := Order18 (q.wp t) (hq.wp (by omega))
    have hOs : 0 < t → PureC Try.prog 18 true [.agg (q.wp (t - 1)).c] (· = .tup [.sl 1 (q.best (t - 1)).1.length (rowOf natC 0 (q.best (t - 1)).1), .int .i64 (q.best (t - 1)).2.1, .int .i64 (q.best (t - 1)).2.2, .int .i64 0]) := fun g => by
      have h := Order18 (q.wp (t - 1)) (hq.wp (by omega))
      rw [show (q.wp (t - 1)).pas = t - 1 from rfl, q.best_wp] at h
      exact h
    rw [show (q.wp 6).pas = 6 from rfl, q.best_wp] at hO6
    rw [show (q.wp t).pas = t from rfl, q.best_wp] at hOt
    have hl6 : (q.best t).2.1 = (q.best 6).2.1 := hte
    have hb6 := best_any (q := q) 6
    have hlt : 0 < t → (q.best 6).2.1 < (q.best (t - 1)).2.1 := fun g => by
      have h1 := htm (t - 1) (by omega)
      have h2 := Qu.best_mono (q := q) (p := ((t - 1 : Nat) : Int)) (p' := 6) (by omega)
      unfold Qu.leB at h2
      rw [show ((t - 1 : Nat) : Int) = (t : Int) - 1 by omega] at h1 h2
      have h1 : (q.best ((t : Int) - 1)).2.1 ≠ (q.best 6).2.1 := h1
      omega
    clear hte htm
    refine callee_fo (With19 q 6) rfl ?_
    rintro _ rfl
    (repeat' ((conv => whnf); (first | (with_reducible first | apply spl | apply spl') <;> intro hc <;> try (exfalso; omega) | with_reducible refine iJ fun hc => ?_ | refine vcq (k := ?_) | fail))); all_goals ((try conv => whnf); try with_reducible exact trivial)
    refine callee_fo hO6 rfl ?_
    rintro _ rfl
    (repeat' ((conv => whnf); (first | (with_reducible first | apply spl | apply spl') <;> intro hc <;> try (exfalso; omega) | with_reducible refine iJ fun hc => ?_ | refine vcq (k := ?_) | fail))); all_goals ((try conv => whnf); try with_reducible exact trivial)
    refine callee_fo (With19 q t) rfl ?_
    rintro _ rfl
    (repeat' ((conv => whnf); (first | (with_reducible first | apply spl | apply spl') <;> intro hc <;> try (exfalso; omega) | with_reducible refine iJ fun hc => ?_ | refine vcq (k := ?_) | fail))); all_goals ((try conv => whnf); try with_reducible exact trivial)
    refine callee_fo hOt rfl ?_
    rintro _ rfl
    (repeat' ((conv => whnf); (first | (with_reducible first | apply spl | apply spl') <;> intro hc <;> try (exfalso; omega) | with_reducible refine iJ fun hc => ?_ | refine vcq (k := ?_) | fail))); all_goals ((try conv => whnf); try with_reducible exact trivial)
    refine callee_fo (With19 q (t - 1)) rfl ?_
    rintro _ rfl
    (repeat' ((conv => whnf); (first | (with_reducible first | apply spl | apply spl') <;> intro hc <;> try (exfalso; omega) | with_reducible refine iJ fun hc => ?_ | refine vcq (k := ?_) | fail))); all_goals ((try conv => whnf); try with_reducible exact trivial)
    refine callee_fo (hOs (by omega)) rfl ?_
    rintro _ rfl
    have hlt := hlt (by omega)
    clear hc
    (repeat' ((conv => whnf); (first | (with_reducible first | apply spl | apply spl') <;> intro hc <;> try (exfalso; omega) | with_reducible refine iJ fun hc => ?_ | refine vcq (k := ?_) | fail))); all_goals ((try conv => whnf); try with_reducible exact trivial)
    clear hO6 hOt hOs hl6 hb6
    refine callee_fo (IsOrderN q (by omega) o ho) rfl ?_
    rintro _ rfl
    (repeat' ((conv => whnf); (first | (with_reducible first | apply spl | apply spl') <;> intro hc <;> try (exfalso; omega) | with_reducible refine iJ fun hc => ?_ | refine vcq (k := ?_) | fail))); all_goals ((try conv => whnf); try with_reducible exact trivial)
    refine callee_fo (IsAllowed24 q hq o ho) rfl ?_
    rintro _ rfl
    (repeat' ((conv => whnf); (first | (with_reducible first | apply spl | apply spl') <;> intro hc <;> try (exfalso; omega) | with_reducible refine iJ fun hc => ?_ | refine vcq (k := ?_) | fail))); all_goals ((try conv => whnf); try with_reducible exact trivial)
    · exact absurd hc hall
    · have hK := hc
      (repeat' ((conv => whnf); (first | (with_reducible first | apply spl | apply spl') <;> intro hc <;> try (exfalso; omega) | with_reducible refine iJ fun hc => ?_ | refine vcq (k := ?_) | fail))); all_goals ((try conv => whnf); try with_reducible exact trivial)
      refine ⟨Nat, fun i => i ≤ q.rq.length, fun i => q.rq.length - i, fun i => [(25, .int .i64 (i : Nat)), (22, .sl 2 0 (fun _ => [.int .i64 0, .int .i64 0]))], fun _ => [], fun _ => [], 0, ⟨by omega, none, ?_⟩, ?_⟩
      · (repeat' ((conv => whnf); (first | (with_reducible first | apply spl | apply spl') <;> intro hc <;> try (exfalso; omega) | with_reducible refine iJ fun hc => ?_ | refine vcq (k := ?_) | fail))); all_goals ((try conv => whnf); try with_reducible exact trivial)
        all_goals (first | (refine ⟨⟨hK, fun g => g.elim⟩, ?_⟩; (repeat' ((conv => whnf); (first | (with_reducible first | apply spl | apply spl') <;> intro hc <;> try (exfalso; omega) | with_reducible refine iJ fun hc => ?_ | refine vcq (k := ?_) | fail))); all_goals ((try conv => whnf); try with_reducible exact trivial)) | (refine ⟨⟨fun g => g.elim, fun g => g.elim⟩, ?_⟩; (repeat' ((conv => whnf); (first | (with_reducible first | apply spl | apply spl') <;> intro hc <;> try (exfalso; omega) | with_reducible refine iJ fun hc => ?_ | refine vcq (k := ?_) | fail))); all_goals ((try conv => whnf); try with_reducible exact trivial)))
      · intro i hi
        have hi : i ≤ q.rq.length := hi
        have hti : (i : Int).toNat = i := Int.toNat_natCast i
        have hB := fun h => Bound21 q hq i h
        (repeat' ((conv => whnf); (first | (with_reducible first | apply spl | apply spl') <;> intro hc <;> try (exfalso; omega) | with_reducible refine iJ fun hc => ?_ | refine vcq (k := ?_) | fail))); all_goals ((try conv => whnf); try with_reducible exact trivial)
        · have hil : i < q.rq.length := by omega
          clear hc
          have hB := hB hil
          refine callee_fo hB rfl ?_
          rintro _ rfl
          clear hB
          generalize hLL : q.sureL q.pas = L at *
          (repeat' ((conv => whnf); (first | (with_reducible first | apply spl | apply spl') <;> intro hc <;> try (exfalso; omega) | with_reducible refine iJ fun hc => ?_ | refine vcq (k := ?_) | fail))); all_goals ((try conv => whnf); try with_reducible exact trivial)
          refine ⟨Nat, fun k => k ≤ L.length, fun k => L.length - k, fun k => [(29, .int .i64 (k : Nat)), (28, .prop (i ∈ L.take k) inferInstance)], fun _ => [], fun _ => [], 0, ⟨by omega, none, ?_⟩, ?_⟩
          · (repeat' ((conv => whnf); (first | (with_reducible first | apply spl | apply spl') <;> intro hc <;> try (exfalso; omega) | with_reducible refine iJ fun hc => ?_ | refine vcq (k := ?_) | fail))); all_goals ((try conv => whnf); try with_reducible exact trivial)
            refine ⟨by simp, ?_⟩
            (repeat' ((conv => whnf); (first | (with_reducible first | apply spl | apply spl') <;> intro hc <;> try (exfalso; omega) | with_reducible refine iJ fun hc => ?_ | refine vcq (k := ?_) | fail))); all_goals ((try conv => whnf); try with_reducible exact trivial)
          · intro k hk
            have hk : k ≤ L.length := hk
            have htk : (k : Int).toNat = k := Int.toNat_natCast k
            have h0 : 0 ≤ (i : Int) ∧ (i : Int) < q.rq.length := by omega
            (repeat' ((conv => whnf); (fail_if_success (guard_target = False)); (first | ((first | with_reducible refine spl (fun hc => ?_) (fun hc => ?_) | with_reducible refine spl' (fun hc => ?_) (fun hc => ?_))) | with_reducible refine iJ (fun hc => ?_) | with_reducible refine vcH (fun _ => h0) ?_ | with_reducible refine vcH (fun g => absurd g.2.1.1 hK) ?_ | refine vcq (k := ?_))))
            · (repeat' ((conv => whnf); (first | (with_reducible first | apply spl | apply spl') <;> intro hc <;> try (exfalso; omega) | with_reducible refine iJ fun hc => ?_ | refine vcq (k := ?_) | fail))); all_goals ((try conv => whnf); try with_reducible exact trivial)
              have hv := (mem_take_succ (L := L) (k := k) i (by omega))
              refine ⟨k + 1, ⟨by omega, by dsimp only; omega⟩, none, ?_⟩
              (repeat' ((conv => whnf); (first | (with_reducible first | apply spl | apply spl') <;> intro hc <;> try (exfalso; omega) | with_reducible refine iJ fun hc => ?_ | refine vcq (k := ?_) | fail))); all_goals ((try conv => whnf); try with_reducible exact trivial)
              rw [htk]
              refine ⟨hv.symm, ?_⟩
              (repeat' ((conv => whnf); (first | (with_reducible first | apply spl | apply spl') <;> intro hc <;> try (exfalso; omega) | with_reducible refine iJ fun hc => ?_ | refine vcq (k := ?_) | fail))); all_goals ((try conv => whnf); try with_reducible exact trivial)
            · exfalso
              have hkl : k = L.length := by clear hc; omega
              subst hkl
              rw [List.take_length, hti] at hc
              have hms : i ∈ q.sureL q.pas ↔ ((q.rq.getD i Rq.none).du < 0 ∨ q.bound q.pas i ≤ (q.rq.getD i Rq.none).du) := ⟨fun g => (q.sure_iff q.pas i).1 (Qu.mem_sureT.1 g).2, fun g => Qu.mem_sureT.2 ⟨hil, (q.sure_iff q.pas i).2 g⟩⟩
              rw [hLL] at hms
              rcases hc with (g | g) | g
              · exact g rfl
              · exact g hms
              · exact hK g.1.1.1
            · clear hc
              (repeat' ((conv => whnf); (first | (with_reducible first | apply spl | apply spl') <;> intro hc <;> try (exfalso; omega) | with_reducible refine iJ fun hc => ?_ | refine vcq (k := ?_) | fail))); all_goals ((try conv => whnf); try with_reducible exact trivial)
              refine ⟨i + 1, ⟨by omega, by dsimp only; omega⟩, none, ?_⟩
              (repeat' ((conv => whnf); (first | (with_reducible first | apply spl | apply spl') <;> intro hc <;> try (exfalso; omega) | with_reducible refine iJ fun hc => ?_ | refine vcq (k := ?_) | fail))); all_goals ((try conv => whnf); try with_reducible exact trivial)
        · refine callee_fo works10 rfl ?_
          rintro _ rfl
          (repeat' ((conv => whnf); (first | (with_reducible first | apply spl | apply spl') <;> intro hc <;> try (exfalso; omega) | with_reducible refine iJ fun hc => ?_ | refine vcq (k := ?_) | fail))); all_goals ((try conv => whnf); try with_reducible exact trivial)
          refine ⟨_, rfl, ?_⟩
          (repeat' ((conv => whnf); (first | (with_reducible first | apply spl | apply spl') <;> intro hc <;> try (exfalso; omega) | with_reducible refine iJ fun hc => ?_ | refine vcq (k := ?_) | fail))); all_goals ((try conv => whnf); try with_reducible exact trivial)
end Go.Proofs

namespace Go.Proofs
open Go Go.Sx
set_option maxRecDepth 100000
set_option maxHeartbeats 40000000
theorem Sure7_2z (q : Qu) (hz : q.d.Z.length ≤ 9223372036854775807) (hsk : q.sk.length ≤ 9223372036854775807) (hrq : q.rq.length ≤ 9223372036854775807) (l : List Int) (hl : l.length ≤ 9223372036854775807) (hoI : IsOrdI q.rq.length l) (hall : ¬ AllR q.pas.toNat q.od (l.map Int.toNat)) (t : Nat) (ht : t ≤ 6) (hte : q.late t = q.late 6) (htm : ∀ p : Nat, p < t → q.late p ≠ q.late 6) (h9 : t = 0) :
    PureC Try.prog 7 false [.agg q.c, .sl 1 l.length (rowOf intC 0 l)] (· = .prop True inferInstance) := by
  refine pureC_of_exec Try.E_ok Try.func7 rfl (by kernel_rfl) ?_
  (repeat' ((conv => whnf); (first | (with_reducible first | apply spl | apply spl') <;> intro hc <;> try (exfalso; omega) | with_reducible refine iJ fun hc => ?_ | refine vcq (k := ?_) | fail))); all_goals ((try conv => whnf); try with_reducible exact trivial); (repeat' ((first | (refine callee_fo (ready8 q hz hsk hrq) rfl ?_; rintro _ rfl) | (refine pcall_intro (ready8 q hz hsk hrq) rfl ?_) | (refine pcall_soft (fun _ => ready8 q hz hsk hrq) rfl ?_) | (refine callee_fo (works10) rfl ?_; rintro _ rfl) | (refine pcall_intro (works10) rfl ?_) | (refine pcall_soft (fun _ => works10) rfl ?_)); (repeat' ((conv => whnf); (first | (with_reducible first | apply spl | apply spl') <;> intro hc <;> try (exfalso; omega) | with_reducible refine iJ fun hc => ?_ | refine vcq (k := ?_) | fail))); all_goals ((try conv => whnf); try with_reducible exact trivial)))
  · refine ⟨_, rfl, ?_⟩
    (repeat' ((conv => whnf); (first | (with_reducible first | apply spl | apply spl') <;> intro hc <;> try (exfalso; omega) | with_reducible refine iJ fun hc => ?_ | refine vcq (k := ?_) | fail))); all_goals ((try conv => whnf); try with_reducible exact trivial)
  · obtain ⟨hs, hsk1⟩ := Qu.ready (q := q) (Classical.not_not.1 fun g => hc (.inl g))
    have hq := hs.ok
    have hrn := hs.rql
    have hl20 : l.length ≤ 20 := by omega
    clear hc
    have hll : l.length = (l.map Int.toNat).length := by simp
    have ho := hoI.ord
    rw [hoI.row, hll]
    generalize l.map Int.toNat = o at *
    have holen := ho.len
    refine callee_fo (Sure22 q hq) rfl ?_
    rintro _ rfl
    (repeat' ((conv => whnf); (first | (with_reducible first | apply spl | apply spl') <;> intro hc <;> try (exfalso; omega) | with_reducible refine iJ fun hc => ?_ | refine vcq (k := ?_) | fail))); all_goals ((try conv => whnf); try with_reducible exact trivial)
    refine callee_fo (Tight23t q hq t hte htm) rfl ?_
    rintro _ rfl
    have hsl : (q.sureL q.pas).length ≤ q.rq.length := q.sureT_len q.pas q.rq.length
    (repeat' ((conv => whnf); (first | (with_reducible first | apply spl | apply spl') <;> intro hc <;> try (exfalso; omega) | with_reducible refine iJ fun hc => ?_ | refine vcq (k := ?_) | fail))); all_goals ((try conv => whnf); try with_reducible exact trivial)
    clear hc
    have hpas := hq.pas
    have hO6 := Order18 (q.wp 6) (hq.wp (by omega))
    have hOt := Order18 (q.wp t) (hq.wp (by omega))
    have hOs : 0 < t → PureC Try.prog 18 true [.agg (q.wp (t - 1)).c] (· = .tup [.sl 1 (q.best (t - 1)).1.length (rowOf natC 0 (q.best (t - 1)).1), .int .i64 (q.best (t - 1)).2.1, .int .i64 (q.best (t - 1)).2.2, .int .i64 0]) := fun g => by
      have h := Order18 (q.wp (t - 1)) (hq.wp (by omega))
      rw [show (q.wp (t - 1)).pas = t - 1 from rfl, q.best_wp] at h
      exact h
    rw [show (q.wp 6).pas = 6 from rfl, q.best_wp] at hO6
    rw [show (q.wp t).pas = t from rfl, q.best_wp] at hOt
    have hl6 : (q.best t).2.1 = (q.best 6).2.1 := hte
    have hb6 := best_any (q := q) 6
    have hlt : 0 < t → (q.best 6).2.1 < (q.best (t - 1)).2.1 := fun g => by
      have h1 := htm (t - 1) (by omega)
      have h2 := Qu.best_mono (q := q) (p := ((t - 1 : Nat) : Int)) (p' := 6) (by omega)
      unfold Qu.leB at h2
      rw [show ((t - 1 : Nat) : Int) = (t : Int) - 1 by omega] at h1 h2
      have h1 : (q.best ((t : Int) - 1)).2.1 ≠ (q.best 6).2.1 := h1
      omega
    clear hte htm
    refine callee_fo (With19 q 6) rfl ?_
    rintro _ rfl
    (repeat' ((conv => whnf); (first | (with_reducible first | apply spl | apply spl') <;> intro hc <;> try (exfalso; omega) | with_reducible refine iJ fun hc => ?_ | refine vcq (k := ?_) | fail))); all_goals ((try conv => whnf); try with_reducible exact trivial)
    refine callee_fo hO6 rfl ?_
    rintro _ rfl
    (repeat' ((conv => whnf); (first | (with_reducible first | apply spl | apply spl') <;> intro hc <;> try (exfalso; omega) | with_reducible refine iJ fun hc => ?_ | refine vcq (k := ?_) | fail))); all_goals ((try conv => whnf); try with_reducible exact trivial)
    refine callee_fo (With19 q t) rfl ?_
    rintro _ rfl
    (repeat' ((conv => whnf); (first | (with_reducible first | apply spl | apply spl') <;> intro hc <;> try (exfalso; omega) | with_reducible refine iJ fun hc => ?_ | refine vcq (k := ?_) | fail))); all_goals ((try conv => whnf); try with_reducible exact trivial)
    refine callee_fo hOt rfl ?_
    rintro _ rfl
    (repeat' ((conv => whnf); (first | (with_reducible first | apply spl | apply spl') <;> intro hc <;> try (exfalso; omega) | with_reducible refine iJ fun hc => ?_ | refine vcq (k := ?_) | fail))); all_goals ((try conv => whnf); try with_reducible exact trivial)
    clear hlt
    clear hO6 hOt hOs hl6 hb6
    refine callee_fo (IsOrderN q (by omega) o ho) rfl ?_
    rintro _ rfl
    (repeat' ((conv => whnf); (first | (with_reducible first | apply spl | apply spl') <;> intro hc <;> try (exfalso; omega) | with_reducible refine iJ fun hc => ?_ | refine vcq (k := ?_) | fail))); all_goals ((try conv => whnf); try with_reducible exact trivial)
    refine callee_fo (IsAllowed24 q hq o ho) rfl ?_
    rintro _ rfl
    (repeat' ((conv => whnf); (first | (with_reducible first | apply spl | apply spl') <;> intro hc <;> try (exfalso; omega) | with_reducible refine iJ fun hc => ?_ | refine vcq (k := ?_) | fail))); all_goals ((try conv => whnf); try with_reducible exact trivial)
    · exact absurd hc hall
    · have hK := hc
      (repeat' ((conv => whnf); (first | (with_reducible first | apply spl | apply spl') <;> intro hc <;> try (exfalso; omega) | with_reducible refine iJ fun hc => ?_ | refine vcq (k := ?_) | fail))); all_goals ((try conv => whnf); try with_reducible exact trivial)
      refine ⟨Nat, fun i => i ≤ q.rq.length, fun i => q.rq.length - i, fun i => [(25, .int .i64 (i : Nat)), (22, .sl 2 0 (fun _ => [.int .i64 0, .int .i64 0]))], fun _ => [], fun _ => [], 0, ⟨by omega, none, ?_⟩, ?_⟩
      · (repeat' ((conv => whnf); (first | (with_reducible first | apply spl | apply spl') <;> intro hc <;> try (exfalso; omega) | with_reducible refine iJ fun hc => ?_ | refine vcq (k := ?_) | fail))); all_goals ((try conv => whnf); try with_reducible exact trivial)
        all_goals (first | (refine ⟨⟨hK, fun g => g.elim⟩, ?_⟩; (repeat' ((conv => whnf); (first | (with_reducible first | apply spl | apply spl') <;> intro hc <;> try (exfalso; omega) | with_reducible refine iJ fun hc => ?_ | refine vcq (k := ?_) | fail))); all_goals ((try conv => whnf); try with_reducible exact trivial)) | (refine ⟨⟨fun g => g.elim, fun g => g.elim⟩, ?_⟩; (repeat' ((conv => whnf); (first | (with_reducible first | apply spl | apply spl') <;> intro hc <;> try (exfalso; omega) | with_reducible refine iJ fun hc => ?_ | refine vcq (k := ?_) | fail))); all_goals ((try conv => whnf); try with_reducible exact trivial)))
      · intro i hi
        have hi : i ≤ q.rq.length := hi
        have hti : (i : Int).toNat = i := Int.toNat_natCast i
        have hB := fun h => Bound21 q hq i h
        (repeat' ((conv => whnf); (first | (with_reducible first | apply spl | apply spl') <;> intro hc <;> try (exfalso; omega) | with_reducible refine iJ fun hc => ?_ | refine vcq (k := ?_) | fail))); all_goals ((try conv => whnf); try with_reducible exact trivial)
        · have hil : i < q.rq.length := by omega
          clear hc
          have hB := hB hil
          refine callee_fo hB rfl ?_
          rintro _ rfl
          clear hB
          generalize hLL : q.sureL q.pas = L at *
          (repeat' ((conv => whnf); (first | (with_reducible first | apply spl | apply spl') <;> intro hc <;> try (exfalso; omega) | with_reducible refine iJ fun hc => ?_ | refine vcq (k := ?_) | fail))); all_goals ((try conv => whnf); try with_reducible exact trivial)
          refine ⟨Nat, fun k => k ≤ L.length, fun k => L.length - k, fun k => [(29, .int .i64 (k : Nat)), (28, .prop (i ∈ L.take k) inferInstance)], fun _ => [], fun _ => [], 0, ⟨by omega, none, ?_⟩, ?_⟩
          · (repeat' ((conv => whnf); (first | (with_reducible first | apply spl | apply spl') <;> intro hc <;> try (exfalso; omega) | with_reducible refine iJ fun hc => ?_ | refine vcq (k := ?_) | fail))); all_goals ((try conv => whnf); try with_reducible exact trivial)
            refine ⟨by simp, ?_⟩
            (repeat' ((conv => whnf); (first | (with_reducible first | apply spl | apply spl') <;> intro hc <;> try (exfalso; omega) | with_reducible refine iJ fun hc => ?_ | refine vcq (k := ?_) | fail))); all_goals ((try conv => whnf); try with_reducible exact trivial)
          · intro k hk
            have hk : k ≤ L.length := hk
            have htk : (k : Int).toNat = k := Int.toNat_natCast k
            have h0 : 0 ≤ (i : Int) ∧ (i : Int) < q.rq.length := by omega
            (repeat' ((conv => whnf); (fail_if_success (guard_target = False)); (first | ((first | with_reducible refine spl (fun hc => ?_) (fun hc => ?_) | with_reducible refine spl' (fun hc => ?_) (fun hc => ?_))) | with_reducible refine iJ (fun hc => ?_) | with_reducible refine vcH (fun _ => h0) ?_ | with_reducible refine vcH (fun g => absurd g.2.1.1 hK) ?_ | refine vcq (k := ?_))))
            · (repeat' ((conv => whnf); (first | (with_reducible first | apply spl | apply spl') <;> intro hc <;> try (exfalso; omega) | with_reducible refine iJ fun hc => ?_ | refine vcq (k := ?_) | fail))); all_goals ((try conv => whnf); try with_reducible exact trivial)
              have hv := (mem_take_succ (L := L) (k := k) i (by omega))
              refine ⟨k + 1, ⟨by omega, by dsimp only; omega⟩, none, ?_⟩
              (repeat' ((conv => whnf); (first | (with_reducible first | apply spl | apply spl') <;> intro hc <;> try (exfalso; omega) | with_reducible refine iJ fun hc => ?_ | refine vcq (k := ?_) | fail))); all_goals ((try conv => whnf); try with_reducible exact trivial)
              rw [htk]
              refine ⟨hv.symm, ?_⟩
              (repeat' ((conv => whnf); (first | (with_reducible first | apply spl | apply spl') <;> intro hc <;> try (exfalso; omega) | with_reducible refine iJ fun hc => ?_ | refine vcq (k := ?_) | fail))); all_goals ((try conv => whnf); try with_reducible exact trivial)
            · exfalso
              have hkl : k = L.length := by clear hc; omega
              subst hkl
              rw [List.take_length, hti] at hc
              have hms : i ∈ q.sureL q.pas ↔ ((q.rq.getD i Rq.none).du < 0 ∨ q.bound q.pas i ≤ (q.rq.getD i Rq.none).du) := ⟨fun g => (q.sure_iff q.pas i).1 (Qu.mem_sureT.1 g).2, fun g => Qu.mem_sureT.2 ⟨hil, (q.sure_iff q.pas i).2 g⟩⟩
              rw [hLL] at hms
              rcases hc with (g | g) | g
              · exact g rfl
              · exact g hms
              · exact hK g.1.1.1
            · clear hc
              (repeat' ((conv => whnf); (first | (with_reducible first | apply spl | apply spl') <;> intro hc <;> try (exfalso; omega) | with_reducible refine iJ fun hc => ?_ | refine vcq (k := ?_) | fail))); all_goals ((try conv => whnf); try with_reducible exact trivial)
              refine ⟨i + 1, ⟨by omega, by dsimp only; omega⟩, none, ?_⟩
              (repeat' ((conv => whnf); (first | (with_reducible first | apply spl | apply spl') <;> intro hc <;> try (exfalso; omega) | with_reducible refine iJ fun hc => ?_ | refine vcq (k := ?_) | fail))); all_goals ((try conv => whnf); try with_reducible exact trivial)
        · refine callee_fo works10 rfl ?_
          rintro _ rfl
          (repeat' ((conv => whnf); (first | (with_reducible first | apply spl | apply spl') <;> intro hc <;> try (exfalso; omega) | with_reducible refine iJ fun hc => ?_ | refine vcq (k := ?_) | fail))); all_goals ((try conv => whnf); try with_reducible exact trivial)
          refine ⟨_, rfl, ?_⟩
          (repeat' ((conv => whnf); (first | (with_reducible first | apply spl | apply spl') <;> intro hc <;> try (exfalso; omega) | with_reducible refine iJ fun hc => ?_ | refine vcq (k := ?_) | fail))); all_goals ((try conv => whnf); try with_reducible exact trivial)
end Go.Proofs

namespace Go.Proofs
open Go Go.Sx
set_option maxRecDepth 100000
set_option maxHeartbeats 40000000
theorem Sure7_3p (q : Qu) (hz : q.d.Z.length ≤ 9223372036854775807) (hsk : q.sk.length ≤ 9223372036854775807) (hrq : q.rq.length ≤ 9223372036854775807) (l : List Int) (hl : l.length ≤ 9223372036854775807) (hoI : ¬ IsOrdI q.rq.length l) (t : Nat) (ht : t ≤ 6) (hte : q.late t = q.late 6) (htm : ∀ p : Nat, p < t → q.late p ≠ q.late 6) (h9 : 0 < t) :
    PureC Try.prog 7 false [.agg q.c, .sl 1 l.length (rowOf intC 0 l)] (· = .prop True inferInstance) := by
  refine pureC_of_exec Try.E_ok Try.func7 rfl (by kernel_rfl) ?_
  (repeat' ((conv => whnf); (first | (with_reducible first | apply spl | apply spl') <;> intro hc <;> try (exfalso; omega) | with_reducible refine iJ fun hc => ?_ | refine vcq (k := ?_) | fail))); all_goals ((try conv => whnf); try with_reducible exact trivial); (repeat' ((first | (refine callee_fo (ready8 q hz hsk hrq) rfl ?_; rintro _ rfl) | (refine pcall_intro (ready8 q hz hsk hrq) rfl ?_) | (refine pcall_soft (fun _ => ready8 q hz hsk hrq) rfl ?_) | (refine callee_fo (works10) rfl ?_; rintro _ rfl) | (refine pcall_intro (works10) rfl ?_) | (refine pcall_soft (fun _ => works10) rfl ?_)); (repeat' ((conv => whnf); (first | (with_reducible first | apply spl | apply spl') <;> intro hc <;> try (exfalso; omega) | with_reducible refine iJ fun hc => ?_ | refine vcq (k := ?_) | fail))); all_goals ((try conv => whnf); try with_reducible exact trivial)))
  · refine ⟨_, rfl, ?_⟩
    (repeat' ((conv => whnf); (first | (with_reducible first | apply spl | apply spl') <;> intro hc <;> try (exfalso; omega) | with_reducible refine iJ fun hc => ?_ | refine vcq (k := ?_) | fail))); all_goals ((try conv => whnf); try with_reducible exact trivial)
  · obtain ⟨hs, hsk1⟩ := Qu.ready (q := q) (Classical.not_not.1 fun g => hc (.inl g))
    have hq := hs.ok
    have hrn := hs.rql
    have hl20 : l.length ≤ 20 := by omega
    clear hc
    refine callee_fo (Sure22 q hq) rfl ?_
    rintro _ rfl
    (repeat' ((conv => whnf); (first | (with_reducible first | apply spl | apply spl') <;> intro hc <;> try (exfalso; omega) | with_reducible refine iJ fun hc => ?_ | refine vcq (k := ?_) | fail))); all_goals ((try conv => whnf); try with_reducible exact trivial)
    refine callee_fo (Tight23t q hq t hte htm) rfl ?_
    rintro _ rfl
    have hsl : (q.sureL q.pas).length ≤ q.rq.length := q.sureT_len q.pas q.rq.length
    (repeat' ((conv => whnf); (first | (with_reducible first | apply spl | apply spl') <;> intro hc <;> try (exfalso; omega) | with_reducible refine iJ fun hc => ?_ | refine vcq (k := ?_) | fail))); all_goals ((try conv => whnf); try with_reducible exact trivial)
    clear hc
    have hpas := hq.pas
    have hO6 := Order18 (q.wp 6) (hq.wp (by omega))
    have hOt := Order18 (q.wp t) (hq.wp (by omega))
    have hOs : 0 < t → PureC Try.prog 18 true [.agg (q.wp (t - 1)).c] (· = .tup [.sl 1 (q.best (t - 1)).1.length (rowOf natC 0 (q.best (t - 1)).1), .int .i64 (q.best (t - 1)).2.1, .int .i64 (q.best (t - 1)).2.2, .int .i64 0]) := fun g => by
      have h := Order18 (q.wp (t - 1)) (hq.wp (by omega))
      rw [show (q.wp (t - 1)).pas = t - 1 from rfl, q.best_wp] at h
      exact h
    rw [show (q.wp 6).pas = 6 from rfl, q.best_wp] at hO6
    rw [show (q.wp t).pas = t from rfl, q.best_wp] at hOt
    have hl6 : (q.best t).2.1 = (q.best 6).2.1 := hte
    have hb6 := best_any (q := q) 6
    have hlt : 0 < t → (q.best 6).2.1 < (q.best (t - 1)).2.1 := fun g => by
      have h1 := htm (t - 1) (by omega)
      have h2 := Qu.best_mono (q := q) (p := ((t - 1 : Nat) : Int)) (p' := 6) (by omega)
      unfold Qu.leB at h2
      rw [show ((t - 1 : Nat) : Int) = (t : Int) - 1 by omega] at h1 h2
      have h1 : (q.best ((t : Int) - 1)).2.1 ≠ (q.best 6).2.1 := h1
      omega
    clear hte htm
    refine callee_fo (With19 q 6) rfl ?_
    rintro _ rfl
    (repeat' ((conv => whnf); (first | (with_reducible first | apply spl | apply spl') <;> intro hc <;> try (exfalso; omega) | with_reducible refine iJ fun hc => ?_ | refine vcq (k := ?_) | fail))); all_goals ((try conv => whnf); try with_reducible exact trivial)
    refine callee_fo hO6 rfl ?_
    rintro _ rfl
    (repeat' ((conv => whnf); (first | (with_reducible first | apply spl | apply spl') <;> intro hc <;> try (exfalso; omega) | with_reducible refine iJ fun hc => ?_ | refine vcq (k := ?_) | fail))); all_goals ((try conv => whnf); try with_reducible exact trivial)
    refine callee_fo (With19 q t) rfl ?_
    rintro _ rfl
    (repeat' ((conv => whnf); (first | (with_reducible first | apply spl | apply spl') <;> intro hc <;> try (exfalso; omega) | with_reducible refine iJ fun hc => ?_ | refine vcq (k := ?_) | fail))); all_goals ((try conv => whnf); try with_reducible exact trivial)
    refine callee_fo hOt rfl ?_
    rintro _ rfl
    (repeat' ((conv => whnf); (first | (with_reducible first | apply spl | apply spl') <;> intro hc <;> try (exfalso; omega) | with_reducible refine iJ fun hc => ?_ | refine vcq (k := ?_) | fail))); all_goals ((try conv => whnf); try with_reducible exact trivial)
    refine callee_fo (With19 q (t - 1)) rfl ?_
    rintro _ rfl
    (repeat' ((conv => whnf); (first | (with_reducible first | apply spl | apply spl') <;> intro hc <;> try (exfalso; omega) | with_reducible refine iJ fun hc => ?_ | refine vcq (k := ?_) | fail))); all_goals ((try conv => whnf); try with_reducible exact trivial)
    refine callee_fo (hOs (by omega)) rfl ?_
    rintro _ rfl
    have hlt := hlt (by omega)
    clear hc
    (repeat' ((conv => whnf); (first | (with_reducible first | apply spl | apply spl') <;> intro hc <;> try (exfalso; omega) | with_reducible refine iJ fun hc => ?_ | refine vcq (k := ?_) | fail))); all_goals ((try conv => whnf); try with_reducible exact trivial)
    clear hO6 hOt hOs hl6 hb6
    refine callee_fo (IsOrder9 q (by omega) l (by omega)) rfl ?_
    rintro _ rfl
    (repeat' ((conv => whnf); (first | (with_reducible first | apply spl | apply spl') <;> intro hc <;> try (exfalso; omega) | with_reducible refine iJ fun hc => ?_ | refine vcq (k := ?_) | fail))); all_goals ((try conv => whnf); try with_reducible exact trivial)
    · exact absurd hc hoI
    · have hK := hoI
      (repeat' ((conv => whnf); (first | (with_reducible first | apply spl | apply spl') <;> intro hc <;> try (exfalso; omega) | with_reducible refine iJ fun hc => ?_ | refine vcq (k := ?_) | fail))); all_goals ((try conv => whnf); try with_reducible exact trivial)
      refine ⟨Nat, fun i => i ≤ q.rq.length, fun i => q.rq.length - i, fun i => [(25, .int .i64 (i : Nat)), (21, .prop (IsOrdI q.rq.length l) (Classical.propDecidable _)), (22, .sl 2 0 (fun _ => [.int .i64 0, .int .i64 0]))], fun _ => [], fun _ => [], 0, ⟨by omega, none, ?_⟩, ?_⟩
      · (repeat' ((conv => whnf); (first | (with_reducible first | apply spl | apply spl') <;> intro hc <;> try (exfalso; omega) | with_reducible refine iJ fun hc => ?_ | refine vcq (k := ?_) | fail))); all_goals ((try conv => whnf); try with_reducible exact trivial)
        all_goals (first | (refine ⟨⟨hK, fun g => g.elim⟩, ?_⟩; (repeat' ((conv => whnf); (first | (with_reducible first | apply spl | apply spl') <;> intro hc <;> try (exfalso; omega) | with_reducible refine iJ fun hc => ?_ | refine vcq (k := ?_) | fail))); all_goals ((try conv => whnf); try with_reducible exact trivial)) | (refine ⟨⟨fun g => g.elim, fun g => g.elim⟩, ?_⟩; (repeat' ((conv => whnf); (first | (with_reducible first | apply spl | apply spl') <;> intro hc <;> try (exfalso; omega) | with_reducible refine iJ fun hc => ?_ | refine vcq (k := ?_) | fail))); all_goals ((try conv => whnf); try with_reducible exact trivial)))
      · intro i hi
        have hi : i ≤ q.rq.length := hi
        have hti : (i : Int).toNat = i := Int.toNat_natCast i
        have hB := fun h => Bound21 q hq i h
        (repeat' ((conv => whnf); (first | (with_reducible first | apply spl | apply spl') <;> intro hc <;> try (exfalso; omega) | with_reducible refine iJ fun hc => ?_ | refine vcq (k := ?_) | fail))); all_goals ((try conv => whnf); try with_reducible exact trivial)
        · have hil : i < q.rq.length := by omega
          clear hc
          have hB := hB hil
          refine callee_fo hB rfl ?_
          rintro _ rfl
          clear hB
          generalize hLL : q.sureL q.pas = L at *
          (repeat' ((conv => whnf); (first | (with_reducible first | apply spl | apply spl') <;> intro hc <;> try (exfalso; omega) | with_reducible refine iJ fun hc => ?_ | refine vcq (k := ?_) | fail))); all_goals ((try conv => whnf); try with_reducible exact trivial)
          refine ⟨Nat, fun k => k ≤ L.length, fun k => L.length - k, fun k => [(29, .int .i64 (k : Nat)), (28, .prop (i ∈ L.take k) inferInstance)], fun _ => [], fun _ => [], 0, ⟨by omega, none, ?_⟩, ?_⟩
          · (repeat' ((conv => whnf); (first | (with_reducible first | apply spl | apply spl') <;> intro hc <;> try (exfalso; omega) | with_reducible refine iJ fun hc => ?_ | refine vcq (k := ?_) | fail))); all_goals ((try conv => whnf); try with_reducible exact trivial)
            refine ⟨by simp, ?_⟩
            (repeat' ((conv => whnf); (first | (with_reducible first | apply spl | apply spl') <;> intro hc <;> try (exfalso; omega) | with_reducible refine iJ fun hc => ?_ | refine vcq (k := ?_) | fail))); all_goals ((try conv => whnf); try with_reducible exact trivial)
          · intro k hk
            have hk : k ≤ L.length := hk
            have htk : (k : Int).toNat = k := Int.toNat_natCast k
            have h0 : 0 ≤ (i : Int) ∧ (i : Int) < q.rq.length := by omega
            (repeat' ((conv => whnf); (fail_if_success (guard_target = False)); (first | ((first | with_reducible refine spl (fun hc => ?_) (fun hc => ?_) | with_reducible refine spl' (fun hc => ?_) (fun hc => ?_))) | with_reducible refine iJ (fun hc => ?_) | with_reducible refine vcH (fun _ => h0) ?_ | with_reducible refine vcH (fun g => absurd g.2.1.1 hK) ?_ | refine vcq (k := ?_))))
            · (repeat' ((conv => whnf); (first | (with_reducible first | apply spl | apply spl') <;> intro hc <;> try (exfalso; omega) | with_reducible refine iJ fun hc => ?_ | refine vcq (k := ?_) | fail))); all_goals ((try conv => whnf); try with_reducible exact trivial)
              have hv := (mem_take_succ (L := L) (k := k) i (by omega))
              refine ⟨k + 1, ⟨by omega, by dsimp only; omega⟩, none, ?_⟩
              (repeat' ((conv => whnf); (first | (with_reducible first | apply spl | apply spl') <;> intro hc <;> try (exfalso; omega) | with_reducible refine iJ fun hc => ?_ | refine vcq (k := ?_) | fail))); all_goals ((try conv => whnf); try with_reducible exact trivial)
              rw [htk]
              refine ⟨hv.symm, ?_⟩
              (repeat' ((conv => whnf); (first | (with_reducible first | apply spl | apply spl') <;> intro hc <;> try (exfalso; omega) | with_reducible refine iJ fun hc => ?_ | refine vcq (k := ?_) | fail))); all_goals ((try conv => whnf); try with_reducible exact trivial)
            · exfalso
              have hkl : k = L.length := by clear hc; omega
              subst hkl
              rw [List.take_length, hti] at hc
              have hms : i ∈ q.sureL q.pas ↔ ((q.rq.getD i Rq.none).du < 0 ∨ q.bound q.pas i ≤ (q.rq.getD i Rq.none).du) := ⟨fun g => (q.sure_iff q.pas i).1 (Qu.mem_sureT.1 g).2, fun g => Qu.mem_sureT.2 ⟨hil, (q.sure_iff q.pas i).2 g⟩⟩
              rw [hLL] at hms
              rcases hc with (g | g) | g
              · exact g rfl
              · exact g hms
              · exact hK g.1.1.1
            · clear hc
              (repeat' ((conv => whnf); (first | (with_reducible first | apply spl | apply spl') <;> intro hc <;> try (exfalso; omega) | with_reducible refine iJ fun hc => ?_ | refine vcq (k := ?_) | fail))); all_goals ((try conv => whnf); try with_reducible exact trivial)
              refine ⟨i + 1, ⟨by omega, by dsimp only; omega⟩, none, ?_⟩
              (repeat' ((conv => whnf); (first | (with_reducible first | apply spl | apply spl') <;> intro hc <;> try (exfalso; omega) | with_reducible refine iJ fun hc => ?_ | refine vcq (k := ?_) | fail))); all_goals ((try conv => whnf); try with_reducible exact trivial)
        · refine callee_fo works10 rfl ?_
          rintro _ rfl
          (repeat' ((conv => whnf); (first | (with_reducible first | apply spl | apply spl') <;> intro hc <;> try (exfalso; omega) | with_reducible refine iJ fun hc => ?_ | refine vcq (k := ?_) | fail))); all_goals ((try conv => whnf); try with_reducible exact trivial)
          refine ⟨_, rfl, ?_⟩
          (repeat' ((conv => whnf); (first | (with_reducible first | apply spl | apply spl') <;> intro hc <;> try (exfalso; omega) | with_reducible refine iJ fun hc => ?_ | refine vcq (k := ?_) | fail))); all_goals ((try conv => whnf); try with_reducible exact trivial)
end Go.Proofs

namespace Go.Proofs
open Go Go.Sx
set_option maxRecDepth 100000
set_option maxHeartbeats 40000000
theorem Sure7_3z (q : Qu) (hz : q.d.Z.length ≤ 9223372036854775807) (hsk : q.sk.length ≤ 9223372036854775807) (hrq : q.rq.length ≤ 9223372036854775807) (l : List Int) (hl : l.length ≤ 9223372036854775807) (hoI : ¬ IsOrdI q.rq.length l) (t : Nat) (ht : t ≤ 6) (hte : q.late t = q.late 6) (htm : ∀ p : Nat, p < t → q.late p ≠ q.late 6) (h9 : t = 0) :
    PureC Try.prog 7 false [.agg q.c, .sl 1 l.length (rowOf intC 0 l)] (· = .prop True inferInstance) := by
  refine pureC_of_exec Try.E_ok Try.func7 rfl (by kernel_rfl) ?_
  (repeat' ((conv => whnf); (first | (with_reducible first | apply spl | apply spl') <;> intro hc <;> try (exfalso; omega) | with_reducible refine iJ fun hc => ?_ | refine vcq (k := ?_) | fail))); all_goals ((try conv => whnf); try with_reducible exact trivial); (repeat' ((first | (refine callee_fo (ready8 q hz hsk hrq) rfl ?_; rintro _ rfl) | (refine pcall_intro (ready8 q hz hsk hrq) rfl ?_) | (refine pcall_soft (fun _ => ready8 q hz hsk hrq) rfl ?_) | (refine callee_fo (works10) rfl ?_; rintro _ rfl) | (refine pcall_intro (works10) rfl ?_) | (refine pcall_soft (fun _ => works10) rfl ?_)); (repeat' ((conv => whnf); (first | (with_reducible first | apply spl | apply spl') <;> intro hc <;> try (exfalso; omega) | with_reducible refine iJ fun hc => ?_ | refine vcq (k := ?_) | fail))); all_goals ((try conv => whnf); try with_reducible exact trivial)))
  · refine ⟨_, rfl, ?_⟩
    (repeat' ((conv => whnf); (first | (with_reducible first | apply spl | apply spl') <;> intro hc <;> try (exfalso; omega) | with_reducible refine iJ fun hc => ?_ | refine vcq (k := ?_) | fail))); all_goals ((try conv => whnf); try with_reducible exact trivial)
  · obtain ⟨hs, hsk1⟩ := Qu.ready (q := q) (Classical.not_not.1 fun g => hc (.inl g))
    have hq := hs.ok
    have hrn := hs.rql
    have hl20 : l.length ≤ 20 := by omega
    clear hc
    refine callee_fo (Sure22 q hq) rfl ?_
    rintro _ rfl
    (repeat' ((conv => whnf); (first | (with_reducible first | apply spl | apply spl') <;> intro hc <;> try (exfalso; omega) | with_reducible refine iJ fun hc => ?_ | refine vcq (k := ?_) | fail))); all_goals ((try conv => whnf); try with_reducible exact trivial)
    refine callee_fo (Tight23t q hq t hte htm) rfl ?_
    rintro _ rfl
    have hsl : (q.sureL q.pas).length ≤ q.rq.length := q.sureT_len q.pas q.rq.length
    (repeat' ((conv => whnf); (first | (with_reducible first | apply spl | apply spl') <;> intro hc <;> try (exfalso; omega) | with_reducible refine iJ fun hc => ?_ | refine vcq (k := ?_) | fail))); all_goals ((try conv => whnf); try with_reducible exact trivial)
    clear hc
    have hpas := hq.pas
    have hO6 := Order18 (q.wp 6) (hq.wp (by omega))
    have hOt := Order18 (q.wp t) (hq.wp (by omega))
    have hOs : 0 < t → PureC Try.prog 18 true [.agg (q.wp (t - 1)).c] (· = .tup [.sl 1 (q.best (t - 1)).1.length (rowOf natC 0 (q.best (t - 1)).1), .int .i64 (q.best (t - 1)).2.1, .int .i64 (q.best (t - 1)).2.2, .int .i64 0]) := fun g => by
      have h := Order18 (q.wp (t - 1)) (hq.wp (by omega))
      rw [show (q.wp (t - 1)).pas = t - 1 from rfl, q.best_wp] at h
      exact h
    rw [show (q.wp 6).pas = 6 from rfl, q.best_wp] at hO6
    rw [show (q.wp t).pas = t from rfl, q.best_wp] at hOt
    have hl6 : (q.best t).2.1 = (q.best 6).2.1 := hte
    have hb6 := best_any (q := q) 6
    have hlt : 0 < t → (q.best 6).2.1 < (q.best (t - 1)).2.1 := fun g => by
      have h1 := htm (t - 1) (by omega)
      have h2 := Qu.best_mono (q := q) (p := ((t - 1 : Nat) : Int)) (p' := 6) (by omega)
      unfold Qu.leB at h2
      rw [show ((t - 1 : Nat) : Int) = (t : Int) - 1 by omega] at h1 h2
      have h1 : (q.best ((t : Int) - 1)).2.1 ≠ (q.best 6).2.1 := h1
      omega
    clear hte htm
    refine callee_fo (With19 q 6) rfl ?_
    rintro _ rfl
    (repeat' ((conv => whnf); (first | (with_reducible first | apply spl | apply spl') <;> intro hc <;> try (exfalso; omega) | with_reducible refine iJ fun hc => ?_ | refine vcq (k := ?_) | fail))); all_goals ((try conv => whnf); try with_reducible exact trivial)
    refine callee_fo hO6 rfl ?_
    rintro _ rfl
    (repeat' ((conv => whnf); (first | (with_reducible first | apply spl | apply spl') <;> intro hc <;> try (exfalso; omega) | with_reducible refine iJ fun hc => ?_ | refine vcq (k := ?_) | fail))); all_goals ((try conv => whnf); try with_reducible exact trivial)
    refine callee_fo (With19 q t) rfl ?_
    rintro _ rfl
    (repeat' ((conv => whnf); (first | (with_reducible first | apply spl | apply spl') <;> intro hc <;> try (exfalso; omega) | with_reducible refine iJ fun hc => ?_ | refine vcq (k := ?_) | fail))); all_goals ((try conv => whnf); try with_reducible exact trivial)
    refine callee_fo hOt rfl ?_
    rintro _ rfl
    (repeat' ((conv => whnf); (first | (with_reducible first | apply spl | apply spl') <;> intro hc <;> try (exfalso; omega) | with_reducible refine iJ fun hc => ?_ | refine vcq (k := ?_) | fail))); all_goals ((try conv => whnf); try with_reducible exact trivial)
    clear hlt
    clear hO6 hOt hOs hl6 hb6
    refine callee_fo (IsOrder9 q (by omega) l (by omega)) rfl ?_
    rintro _ rfl
    (repeat' ((conv => whnf); (first | (with_reducible first | apply spl | apply spl') <;> intro hc <;> try (exfalso; omega) | with_reducible refine iJ fun hc => ?_ | refine vcq (k := ?_) | fail))); all_goals ((try conv => whnf); try with_reducible exact trivial)
    · exact absurd hc hoI
    · have hK := hoI
      (repeat' ((conv => whnf); (first | (with_reducible first | apply spl | apply spl') <;> intro hc <;> try (exfalso; omega) | with_reducible refine iJ fun hc => ?_ | refine vcq (k := ?_) | fail))); all_goals ((try conv => whnf); try with_reducible exact trivial)
      refine ⟨Nat, fun i => i ≤ q.rq.length, fun i => q.rq.length - i, fun i => [(25, .int .i64 (i : Nat)), (21, .prop (IsOrdI q.rq.length l) (Classical.propDecidable _)), (22, .sl 2 0 (fun _ => [.int .i64 0, .int .i64 0]))], fun _ => [], fun _ => [], 0, ⟨by omega, none, ?_⟩, ?_⟩
      · (repeat' ((conv => whnf); (first | (with_reducible first | apply spl | apply spl') <;> intro hc <;> try (exfalso; omega) | with_reducible refine iJ fun hc => ?_ | refine vcq (k := ?_) | fail))); all_goals ((try conv => whnf); try with_reducible exact trivial)
        all_goals (first | (refine ⟨⟨hK, fun g => g.elim⟩, ?_⟩; (repeat' ((conv => whnf); (first | (with_reducible first | apply spl | apply spl') <;> intro hc <;> try (exfalso; omega) | with_reducible refine iJ fun hc => ?_ | refine vcq (k := ?_) | fail))); all_goals ((try conv => whnf); try with_reducible exact trivial)) | (refine ⟨⟨fun g => g.elim, fun g => g.elim⟩, ?_⟩; (repeat' ((conv => whnf); (first | (with_reducible first | apply spl | apply spl') <;> intro hc <;> try (exfalso; omega) | with_reducible refine iJ fun hc => ?_ | refine vcq (k := ?_) | fail))); all_goals ((try conv => whnf); try with_reducible exact trivial)))
      · intro i hi
        have hi : i ≤ q.rq.length := hi
        have hti : (i : Int).toNat = i := Int.toNat_natCast i
        have hB := fun h => Bound21 q hq i h
        (repeat' ((conv => whnf); (first | (with_reducible first | apply spl | apply spl') <;> intro hc <;> try (exfalso; omega) | with_reducible refine iJ fun hc => ?_ | refine vcq (k := ?_) | fail))); all_goals ((try conv => whnf); try with_reducible exact trivial)
        · have hil : i < q.rq.length := by omega
          clear hc
          have hB := hB hil
          refine callee_fo hB rfl ?_
          rintro _ rfl
          clear hB
          generalize hLL : q.sureL q.pas = L at *
          (repeat' ((conv => whnf); (first | (with_reducible first | apply spl | apply spl') <;> intro hc <;> try (exfalso; omega) | with_reducible refine iJ fun hc => ?_ | refine vcq (k := ?_) | fail))); all_goals ((try conv => whnf); try with_reducible exact trivial)
          refine ⟨Nat, fun k => k ≤ L.length, fun k => L.length - k, fun k => [(29, .int .i64 (k : Nat)), (28, .prop (i ∈ L.take k) inferInstance)], fun _ => [], fun _ => [], 0, ⟨by omega, none, ?_⟩, ?_⟩
          · (repeat' ((conv => whnf); (first | (with_reducible first | apply spl | apply spl') <;> intro hc <;> try (exfalso; omega) | with_reducible refine iJ fun hc => ?_ | refine vcq (k := ?_) | fail))); all_goals ((try conv => whnf); try with_reducible exact trivial)
            refine ⟨by simp, ?_⟩
            (repeat' ((conv => whnf); (first | (with_reducible first | apply spl | apply spl') <;> intro hc <;> try (exfalso; omega) | with_reducible refine iJ fun hc => ?_ | refine vcq (k := ?_) | fail))); all_goals ((try conv => whnf); try with_reducible exact trivial)
          · intro k hk
            have hk : k ≤ L.length := hk
            have htk : (k : Int).toNat = k := Int.toNat_natCast k
            have h0 : 0 ≤ (i : Int) ∧ (i : Int) < q.rq.length := by omega
            (repeat' ((conv => whnf); (fail_if_success (guard_target = False)); (first | ((first | with_reducible refine spl (fun hc => ?_) (fun hc => ?_) | with_reducible refine spl' (fun hc => ?_) (fun hc => ?_))) | with_reducible refine iJ (fun hc => ?_) | with_reducible refine vcH (fun _ => h0) ?_ | with_reducible refine vcH (fun g => absurd g.2.1.1 hK) ?_ | refine vcq (k := ?_))))
            · (repeat' ((conv => whnf); (first | (with_reducible first | apply spl | apply spl') <;> intro hc <;> try (exfalso; omega) | with_reducible refine iJ fun hc => ?_ | refine vcq (k := ?_) | fail))); all_goals ((try conv => whnf); try with_reducible exact trivial)
              have hv := (mem_take_succ (L := L) (k := k) i (by omega))
              refine ⟨k + 1, ⟨by omega, by dsimp only; omega⟩, none, ?_⟩
              (repeat' ((conv => whnf); (first | (with_reducible first | apply spl | apply spl') <;> intro hc <;> try (exfalso; omega) | with_reducible refine iJ fun hc => ?_ | refine vcq (k := ?_) | fail))); all_goals ((try conv => whnf); try with_reducible exact trivial)
              rw [htk]
              refine ⟨hv.symm, ?_⟩
              (repeat' ((conv => whnf); (first | (with_reducible first | apply spl | apply spl') <;> intro hc <;> try (exfalso; omega) | with_reducible refine iJ fun hc => ?_ | refine vcq (k := ?_) | fail))); all_goals ((try conv => whnf); try with_reducible exact trivial)
            · exfalso
              have hkl : k = L.length := by clear hc; omega
              subst hkl
              rw [List.take_length, hti] at hc
              have hms : i ∈ q.sureL q.pas ↔ ((q.rq.getD i Rq.none).du < 0 ∨ q.bound q.pas i ≤ (q.rq.getD i Rq.none).du) := ⟨fun g => (q.sure_iff q.pas i).1 (Qu.mem_sureT.1 g).2, fun g => Qu.mem_sureT.2 ⟨hil, (q.sure_iff q.pas i).2 g⟩⟩
              rw [hLL] at hms
              rcases hc with (g | g) | g
              · exact g rfl
              · exact g hms
              · exact hK g.1.1.1
            · clear hc
              (repeat' ((conv => whnf); (first | (with_reducible first | apply spl | apply spl') <;> intro hc <;> try (exfalso; omega) | with_reducible refine iJ fun hc => ?_ | refine vcq (k := ?_) | fail))); all_goals ((try conv => whnf); try with_reducible exact trivial)
              refine ⟨i + 1, ⟨by omega, by dsimp only; omega⟩, none, ?_⟩
              (repeat' ((conv => whnf); (first | (with_reducible first | apply spl | apply spl') <;> intro hc <;> try (exfalso; omega) | with_reducible refine iJ fun hc => ?_ | refine vcq (k := ?_) | fail))); all_goals ((try conv => whnf); try with_reducible exact trivial)
        · refine callee_fo works10 rfl ?_
          rintro _ rfl
          (repeat' ((conv => whnf); (first | (with_reducible first | apply spl | apply spl') <;> intro hc <;> try (exfalso; omega) | with_reducible refine iJ fun hc => ?_ | refine vcq (k := ?_) | fail))); all_goals ((try conv => whnf); try with_reducible exact trivial)
          refine ⟨_, rfl, ?_⟩
          (repeat' ((conv => whnf); (first | (with_reducible first | apply spl | apply spl') <;> intro hc <;> try (exfalso; omega) | with_reducible refine iJ fun hc => ?_ | refine vcq (k := ?_) | fail))); all_goals ((try conv => whnf); try with_reducible exact trivial)
end Go.Proofs

namespace Go.Proofs
open Go Go.Sx
set_option maxRecDepth 100000
set_option maxHeartbeats 40000000
theorem Sure7 (q : Qu) (hz : q.d.Z.length ≤ 9223372036854775807) (hsk : q.sk.length ≤ 9223372036854775807) (hrq : q.rq.length ≤ 9223372036854775807) (l : List Int) (hl : l.length ≤ 9223372036854775807) :
    PureC Try.prog 7 false [.agg q.c, .sl 1 l.length (rowOf intC 0 l)] (· = .prop True inferInstance) := by
  obtain ⟨t, ht, hte, htm⟩ := tight_ex q
  by_cases hoI : IsOrdI q.rq.length l
  · by_cases hall : AllR q.pas.toNat q.od (l.map Int.toNat)
    · rcases Nat.eq_zero_or_pos t with h9 | h9
      · exact Sure7_1z q hz hsk hrq l hl hoI hall t ht hte htm h9
      · exact Sure7_1p q hz hsk hrq l hl hoI hall t ht hte htm h9
    · rcases Nat.eq_zero_or_pos t with h9 | h9
      · exact Sure7_2z q hz hsk hrq l hl hoI hall t ht hte htm h9
      · exact Sure7_2p q hz hsk hrq l hl hoI hall t ht hte htm h9
  · rcases Nat.eq_zero_or_pos t with h9 | h9
    · exact Sure7_3z q hz hsk hrq l hl hoI t ht hte htm h9
    · exact Sure7_3p q hz hsk hrq l hl hoI t ht hte htm h9
end Go.Proofs
