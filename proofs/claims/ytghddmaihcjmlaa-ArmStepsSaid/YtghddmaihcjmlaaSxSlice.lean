/- Own work: a text of the proof of a law (SxSlice). -/
import Derived.Test.YtghddmaihcjmlaaSxStep
import Derived.Laws.MakeOwn
import Derived.Great.BuildSlice
namespace Go.Sx
open Go
variable {P : Program} {E : Env}

theorem run_append_ex (w : World) (t ty e : TypeId) (i : TypeInfo) (z : Value) (ht : P.underlying t = some (.slice e)) (hi : P.info? e = some i) (hz : i.zero = some z)
    (hzs : z.cells.size = i.size) (hsz : 0 < i.size) (v : Value) (n : Nat) (xs : List Value) (hown : w.ownsRow 0 e i.size v n xs)
    (a : Addr) (m c : Nat) (news : List Value) (hl : news.length = m * i.size) (hnews : ∀ j u, news[j]? = some u → w.cell? (a.add j) = some u) (h1 : ∀ u ∈ news, u.oneCell' = true)
    (h63 : n + m ≤ 140737488355328) (hbytes : (n + m) * i.bytes ≤ 140737488355328) :
    ∃ v' w', (Builtin.append_ #[t, t] ty #[v, .slice (some a) m c]).run P w = .ok v' w' ∧ w'.ownsRow 0 e i.size v' (n + m) (xs ++ news) ∧ w.grownBy w' v.ownBlock ∧
      (v' = .slice none 0 0 ↔ v = .slice none 0 0 ∧ m = 0) ∧ (∀ g, v'.ownBlock = some g → v.ownBlock = some g ∨ g = w.heap.size) := by
  have hm : n + m ≤ maxLen := by simp only [maxLen]; omega
  obtain ⟨v', w', hrun, ho, hg, hn⟩ := run_append_own (P := P) w 0 t ty e i z i.size i.bytes ht hi hz rfl rfl hzs hsz v n xs hown a m c news hl hnews h1 hm hbytes (Nat.zero_le _)
  refine ⟨v', w', hrun, ho, hg, hn, fun g hgb => ?_⟩
  rcases hown.2 with ⟨rfl, rfl⟩ | ⟨g', cap, cur, rfl, hbg, hgh, hnc, hcm, hcs, htake⟩
  · by_cases hm0 : m = 0
    · have : v' = .slice none 0 0 := hn.2 ⟨rfl, hm0⟩
      subst this
      simp [Value.ownBlock] at hgb
    · have hr := run_append_nil (P := P) w t ty e i z ht hi hz a m c news hl hnews (by omega) (by omega) (by simp only [Nat.zero_add] at hbytes; omega)
      rw [hrun] at hr
      simp only [Result.ok.injEq] at hr
      rw [hr.1] at hgb
      simp only [Value.ownBlock, Option.some.injEq] at hgb
      exact .inr hgb.symm
  · by_cases hroom : n + m ≤ cap
    · have hfit : n * i.size + news.length ≤ cur.size := by rw [hl, hcs, ← Nat.add_mul]; exact Nat.mul_le_mul_right _ hroom
      have hr := run_append_room (P := P) w t ty e i ht hi g' n cap cur hgh a m c news hl hnews h1 hroom hfit
      rw [hrun] at hr
      simp only [Result.ok.injEq] at hr
      rw [hr.1] at hgb
      exact .inl hgb
    · have holds : ∀ j u, xs[j]? = some u → w.cell? ((⟨g', 0, none⟩ : Addr).add j) = some u := hown.cells (g := g') rfl
      have hr := run_append_grow (P := P) w t ty e i z ht hi hz ⟨g', 0, none⟩ n cap xs hown.1 holds a m c news hl hnews (by omega) (by omega) (growslice_fits (by omega) hbytes)
      rw [hrun] at hr
      simp only [Result.ok.injEq] at hr
      rw [hr.1] at hgb
      simp only [Value.ownBlock, Option.some.injEq] at hgb
      exact .inr hgb.symm

/-- a new object in whatever block, old ones being given up -/
theorem Sat.renew {I : Nat → Prop} {η : Eta} {w w' : World} {H : List O} (h : Sat I η w H) (H₁ : List O) (hl : H₁.length = H.length) (hlive : ∀ (id : Nat) (o : O), H₁[id]? = some o → o.live → H[id]? = some o)
    (row : Option Nat) (hg : w.grownBy w' row) (hrow : ∀ b, row = some b → own η H b ∧ ¬ own η H₁ b) (e : Option Nat × Nat) (o : O)
    (heb : ∀ b c, e = (some b, c) → (row = some b ∨ b = w.heap.size) ∧ b < w'.heap.size) (ho : Mono I η w I (η ++ [e]) w' → SatO I (η ++ [e]) w' e o) :
    Sat I (η ++ [e]) w' (H₁ ++ [o]) ∧ Mono I η w I (η ++ [e]) w' ∧ Step I (own η H) w I (own (η ++ [e]) (H₁ ++ [o])) w' := by
  have hblk : ∀ b, b < w.heap.size → row ≠ some b → w'.heap[b]? = w.heap[b]? := fun b hb hr => hg.block b hb (fun e => hr e.symm)
  have own1 : ∀ b, own η H₁ b → own η H b := fun b ⟨id, c, o', h1, h2, h3⟩ => ⟨id, c, o', h1, hlive id o' h2 h3, h3⟩
  have m : Mono I η w I (η ++ [e]) w' :=
    ⟨fun id e he _ => by rw [List.getElem?_append_left (List.getElem?_eq_some_iff.1 he).1]; exact he, fun _ hb => hb, fun b hb => hblk b (h.ilt b hb) (fun er => h.notI b (hrow b er).1 hb)⟩
  have split : ∀ (j : Nat) (ee : Option Nat × Nat) (oo : O), (η ++ [e])[j]? = some ee → (H₁ ++ [o])[j]? = some oo → (η[j]? = some ee ∧ H₁[j]? = some oo) ∨ (j = η.length ∧ ee = e ∧ oo = o) := by
    intro j ee oo h1 h2
    by_cases hj : j < η.length
    · rw [List.getElem?_append_left hj] at h1
      rw [List.getElem?_append_left (by rw [hl, ← h.len]; exact hj)] at h2
      exact .inl ⟨h1, h2⟩
    · have hlt := (List.getElem?_eq_some_iff.1 h1).1
      simp at hlt
      have hj' : j = η.length := by omega
      subst hj'
      have hlen : η.length = H₁.length := by rw [hl, h.len]
      rw [hlen] at h2
      simp at h1 h2
      exact .inr ⟨rfl, h1.symm, h2.symm⟩
  have hown : ∀ b, own (η ++ [e]) (H₁ ++ [o]) b → own η H₁ b ∨ ((row = some b ∨ b = w.heap.size) ∧ b < w'.heap.size) := by
    rintro b ⟨id, c', o', h1, h2, h3⟩
    rcases split id _ o' h1 h2 with ⟨g1, g2⟩ | ⟨rfl, g1, rfl⟩
    · exact .inl ⟨id, c', o', g1, g2, h3⟩
    · exact .inr (heb b c' g1.symm)
  refine ⟨⟨by simp [h.len, hl], ?_, ?_, ?_, ?_, ?_⟩, m, ⟨hg.os, hg.tape, hg.output, hg.size, fun b hb hw => hblk b hb (fun er => hw (hrow b er).1), fun _ hb => hb, fun _ hb => .inl hb, ?_, m.eta⟩⟩
  · intro id ee oo h1 h2
    rcases split id ee oo h1 h2 with ⟨g1, g2⟩ | ⟨rfl, rfl, rfl⟩
    · by_cases hlv : oo.live
      · refine (h.obj id ee oo g1 (hlive id oo g2 hlv)).mono m ?_
        rintro _ b c' rfl
        refine hblk b (h.lt b (own1 b ⟨id, c', oo, g1, g2, hlv⟩)) (fun er => (hrow b er).2 ⟨id, c', oo, g1, g2, hlv⟩)
      · cases oo <;> first | exact (hlv trivial).elim | trivial
    · exact ho m
  · intro id id' b c1 c2 o1 o2 h1 h2 h3 h4 l1 l2
    rcases split id _ o1 h1 h3 with ⟨g1, g2⟩ | ⟨rfl, g1, rfl⟩ <;> rcases split id' _ o2 h2 h4 with ⟨k1, k2⟩ | ⟨rfl, k1, rfl⟩
    · exact h.apart id id' b c1 c2 o1 o2 g1 k1 (hlive id o1 g2 l1) (hlive id' o2 k2 l2) l1 l2
    · exfalso
      have hb := own1 b ⟨id, c1, o1, g1, g2, l1⟩
      rcases (heb b c2 k1.symm).1 with er | er
      · exact (hrow b er).2 ⟨id, c1, o1, g1, g2, l1⟩
      · have := h.lt b hb; omega
    · exfalso
      have hb := own1 b ⟨id', c2, o2, k1, k2, l2⟩
      rcases (heb b c1 g1.symm).1 with er | er
      · exact (hrow b er).2 ⟨id', c2, o2, k1, k2, l2⟩
      · have := h.lt b hb; omega
    · rfl
  · intro b hb hI
    rcases hown b hb with h1 | ⟨h1 | h1, _⟩
    · exact h.notI b (own1 b h1) hI
    · exact h.notI b (hrow b h1).1 hI
    · have := h.ilt b hI; omega
  · intro b hb
    rcases hown b hb with h1 | ⟨_, h1⟩
    · exact Nat.lt_of_lt_of_le (h.lt b (own1 b h1)) hg.size
    · exact h1
  · intro b hb
    exact Nat.lt_of_lt_of_le (h.ilt b hb) hg.size
  · intro b hb
    rcases hown b hb with h1 | ⟨h1 | h1, _⟩
    · exact .inl (own1 b h1)
    · exact .inl (hrow b h1).1
    · exact .inr (by omega)

/-- the cells of a slice, one behind the other -/
theorem flat_rows {I : Nat → Prop} {w : World} {b o sz : Nat} {g : Nat → List V} : ∀ (m : Nat), (∀ i, i < m → ∃ vs : List Value, vs.length = sz ∧ (∀ j u, vs[j]? = some u → w.cell? ⟨b, o + (i * sz + j), none⟩ = some u) ∧ (∀ u ∈ vs, u.oneCell' = true) ∧ DenL I [] w (g i) vs) →
    ∃ news : List Value, news.length = m * sz ∧ (∀ j u, news[j]? = some u → w.cell? ⟨b, o + j, none⟩ = some u) ∧ (∀ u ∈ news, u.oneCell' = true) ∧ ∀ i, i < m → DenL I [] w (g i) ((news.drop (i * sz)).take sz)
  | 0, _ => ⟨[], by simp, by simp, by simp, fun i hi => by omega⟩
  | m + 1, h => by
    obtain ⟨news, h1, h2, h3, h4⟩ := flat_rows m (fun i hi => h i (by omega))
    obtain ⟨vs, k1, k2, k3, k4⟩ := h m (by omega)
    refine ⟨news ++ vs, by simp [h1, k1, Nat.add_mul], fun j u hj => ?_, fun u hu => ?_, fun i hi => ?_⟩
    · by_cases hjl : j < news.length
      · rw [List.getElem?_append_left hjl] at hj; exact h2 j u hj
      · rw [List.getElem?_append_right (by omega)] at hj
        have := k2 _ u hj
        rw [h1] at this
        rw [show m * sz + (j - m * sz) = j by omega] at this
        exact this
    · rcases List.mem_append.1 hu with hu | hu
      · exact h3 u hu
      · exact k3 u hu
    · by_cases him : i < m
      · have hle : (i + 1) * sz ≤ m * sz := Nat.mul_le_mul_right _ him
        rw [Nat.add_mul] at hle
        have : ((news ++ vs).drop (i * sz)).take sz = (news.drop (i * sz)).take sz := by
          rw [List.drop_append_of_le_length (by omega), List.take_append_of_le_length (by simp; omega)]
        rw [this]
        exact h4 i him
      · have : i = m := by omega
        subst this
        have : ((news ++ vs).drop (i * sz)).take sz = vs := by
          rw [← h1, List.drop_left, List.take_of_length_le (by omega)]
        rw [this]
        exact k4

theorem srcOf_sound {I : Nat → Prop} {η : Eta} {w : World} {H : List O} (hS : Sat I η w H) {sz : Nat} {x : V} {v : Value} {m : Nat} {g : Nat → List V} {c : Option Nat} (h : srcOf H sz x = some (m, g, c)) (hc : ∀ m', c = some m' → m = m') (hd : Den I η w x v) :
    (m = 0 ∧ ∃ a cap, v = .slice a 0 cap) ∨ ∃ b o cap, v = .slice (some ⟨b, o, none⟩) m cap ∧ ∃ news : List Value, news.length = m * sz ∧ (∀ j u, news[j]? = some u → w.cell? ((⟨b, o, none⟩ : Addr).add j) = some u) ∧ (∀ u ∈ news, u.oneCell' = true) ∧
      ∀ i, i < m → DenL I [] w (g i) ((news.drop (i * sz)).take sz) := by
  unfold srcOf at h
  split at h
  · simp only [cond_eq_ite] at h
    split at h
    · rename_i hsz
      obtain rfl := beq_true hsz
      cases h
      rcases hd with hd | ⟨b, o, cap, rfl, _, hr⟩
      · exact .inl hd
      · obtain ⟨news, h1, h2, h3, h4⟩ := flat_rows _ hr
        exact .inr ⟨b, o, cap, rfl, news, h1, fun j u hj => by rw [Addr.add_none]; exact h2 j u hj, h3, h4⟩
    · cases h
  · split at h
    · rename_i ty sz' m' g' nz hgt
      simp only [cond_eq_ite] at h
      split at h
      · rename_i hsz
        obtain rfl := beq_true hsz
        cases h
        obtain rfl := hc _ rfl
        obtain ⟨⟨bb, cp⟩, hη, hz, rfl⟩ := hd
        obtain ⟨xs, hown, h1, hnil, hden⟩ := hS.obj _ _ _ hη (get_live hgt trivial)
        cases bb with
        | none => exact .inl ⟨(hz rfl).1, none, 0, by rfl⟩
        | some b =>
          refine .inr ⟨b, 0, cp, rfl, xs, hown.1, fun j u hj => ?_, h1, hden⟩
          rw [Addr.add_none, Nat.zero_add]
          exact ownsRow_cell hown j u hj
      · cases h
    · cases h
  · cases h

theorem ownsRow_entry {w : World} {e : TypeId} {sz n : Nat} {v : Value} {xs : List Value} (h : w.ownsRow 0 e sz v n xs) : ∃ ee : Option Nat × Nat, v = slVal ee n ∧ (ee.1 = none ↔ v = .slice none 0 0) ∧ ee.1 = v.ownBlock ∧ (∀ b c, ee = (some b, c) → b < w.heap.size) ∧ (ee.1 = none → n = 0 ∧ ee.2 = 0) := by
  rcases h.2 with ⟨rfl, rfl⟩ | ⟨g, cap, cur, rfl, _, hg, _⟩
  · exact ⟨(none, 0), rfl, by simp, rfl, fun b c h => by simp at h, fun _ => ⟨rfl, rfl⟩⟩
  · refine ⟨(some g, cap), rfl, by simp, rfl, fun b c h => ?_, fun h => by simp at h⟩
    simp at h
    obtain ⟨rfl, _⟩ := h
    exact (Array.getElem?_eq_some_iff.1 hg).1

/-- 'append(v, nil...)' -/
theorem run_append_none (w : World) (t ty e : TypeId) (i : TypeInfo) (ht : P.underlying t = some (.slice e)) (hi : P.info? e = some i) {v : Value} {n : Nat} {xs : List Value} (hown : w.ownsRow 0 e i.size v n xs) (a : Option Addr) (cap : Nat) :
    (Builtin.append_ #[t, t] ty #[v, .slice a 0 cap]).run P w = .ok v w := by
  rcases hown.2 with ⟨rfl, rfl⟩ | ⟨g, cap, cur, rfl, _, hg, hnc, _⟩ <;> cases a
  · simp [Builtin.append_, run_underlying ht, sizeOf, typeInfo, hi, Builtin.lenOf, Builtin.firstCells]
  · simp [Builtin.append_, run_underlying ht, sizeOf, typeInfo, hi, Builtin.lenOf, Builtin.firstCells, loadCells, loadCellsFrom]
  · simp [Builtin.append_, run_underlying ht, sizeOf, typeInfo, hi, Builtin.lenOf, Builtin.firstCells, hnc, storeCells]
  · simp [Builtin.append_, run_underlying ht, sizeOf, typeInfo, hi, Builtin.lenOf, Builtin.firstCells, hnc, storeCells, loadCells, loadCellsFrom]

theorem srcC_spec {m : Nat} {c : Option Nat} {K : Prop} (h : srcC m c K) : (∀ m', c = some m' → m = m') ∧ K := by
  cases c with
  | none => exact ⟨fun _ h => by simp at h, h⟩
  | some m' => exact ⟨fun _ hm => by simp at hm; rw [← hm]; exact h.1, h.2⟩

theorem natK_eq (n : Nat) (K : Nat → Prop) : natK n K = K n := by
  unfold natK
  split <;> rfl

theorem append_sound {I : Nat → Prop} {η : Eta} {w : World} {H : List O} (hS : Sat I η w H) (t ty e : TypeId) (i : TypeInfo) (z : Value) (ht : P.underlying t = some (.slice e)) (hi : P.info? e = some i) (hz : i.zero = some z)
    (hzs : z.cells.size = i.size) (hsz : 0 < i.size) {v : Value} {n : Nat} {xs : List Value} (hown : w.ownsRow 0 e i.size v n xs) {x : V} {xv : Value} {m : Nat} {g : Nat → List V} {c : Option Nat} (h : srcOf H i.size x = some (m, g, c)) (hc : ∀ m', c = some m' → m = m') (hd : Den I η w x xv)
    (h63 : n + m ≤ 140737488355328) (hbytes : (n + m) * i.bytes ≤ 140737488355328) :
    ∃ v' w' news, (Builtin.append_ #[t, t] ty #[v, xv]).run P w = .ok v' w' ∧ w'.ownsRow 0 e i.size v' (n + m) (xs ++ news) ∧ w.grownBy w' v.ownBlock ∧
      (v' = .slice none 0 0 ↔ v = .slice none 0 0 ∧ m = 0) ∧ (∀ g, v'.ownBlock = some g → v.ownBlock = some g ∨ g = w.heap.size) ∧
      news.length = m * i.size ∧ (∀ u ∈ news, u.oneCell' = true) ∧ ∀ k, k < m → DenL I [] w (g k) ((news.drop (k * i.size)).take i.size) := by
  rcases srcOf_sound hS h hc hd with ⟨rfl, a0, cap0, rfl⟩ | ⟨b, o, cap, rfl, news, h1, h2, h3, h4⟩
  · exact ⟨v, w, [], run_append_none w t ty e i ht hi hown a0 cap0, by simpa using hown, ⟨rfl, rfl, rfl, Nat.le_refl _, fun _ _ _ => rfl⟩, by simp, fun g hg => .inl hg, by simp, by simp, fun k hk => by omega⟩
  · obtain ⟨v', w', g1, g2, g3, g4, g5⟩ := run_append_ex w t ty e i z ht hi hz hzs hsz v n xs hown ⟨b, o, none⟩ m cap news h1 h2 h3 h63 hbytes
    exact ⟨v', w', news, g1, g2, g3, g4, g5, h1, h3, h4⟩

theorem slVal_nil {e : Option Nat × Nat} {n : Nat} : slVal e n = .slice none 0 0 ↔ e.1 = none := by
  obtain ⟨bb, c⟩ := e
  cases bb <;> simp [slVal]

theorem slVal_own (e : Option Nat × Nat) (n : Nat) : (slVal e n).ownBlock = e.1 := by
  obtain ⟨bb, c⟩ := e
  cases bb <;> rfl

theorem appended_rows {I : Nat → Prop} {w : World} {n m sz : Nat} {f g : Nat → List V} {xs news : List Value} (hx : xs.length = n * sz) (hn : news.length = m * sz) (hf : ∀ i, i < n → DenL I [] w (f i) ((xs.drop (i * sz)).take sz))
    (hg : ∀ i, i < m → DenL I [] w (g i) ((news.drop (i * sz)).take sz)) : ∀ i, i < n + m → DenL I [] w (appF n f g i) (((xs ++ news).drop (i * sz)).take sz) := by
  intro i hi
  unfold appF
  by_cases hin : i < n
  · rw [if_pos hin]
    have hle : (i + 1) * sz ≤ n * sz := Nat.mul_le_mul_right _ hin
    rw [Nat.add_mul] at hle
    have : ((xs ++ news).drop (i * sz)).take sz = (xs.drop (i * sz)).take sz := by
      rw [List.drop_append_of_le_length (by omega), List.take_append_of_le_length (by simp; omega)]
    rw [this]
    exact hf i hin
  · rw [if_neg hin]
    have hsub : (i - n) * sz = i * sz - n * sz := Nat.sub_mul _ _ _
    have hle : n * sz ≤ i * sz := Nat.mul_le_mul_right _ (by omega)
    have : (xs ++ news).drop (i * sz) = news.drop ((i - n) * sz) := by
      rw [List.drop_append, List.drop_of_length_le (by omega), List.nil_append, hx, hsub]
    rw [this]
    exact hg (i - n) (by omega)

theorem fillRows {I : Nat → Prop} {η : Eta} {w : World} {T : List V} {a : Act} (hT : SatT I η w T a.tmps) (sz : Nat) : ∀ (l : List (Nat × Operand)) (k : Nat) (rows : List (List V)) (cs : List Value),
    (∀ p ∈ l, There T p.2) → rowsOf sz T k l = some rows → (k + l.length) * sz ≤ cs.length → (∀ u ∈ cs, u.oneCell' = true) →
    ∃ cells : List Value, Instr.fill (fun i => some (i * sz, sz)) cs.toArray (l.map fun p => (p.1, a.eval p.2)) = some cells.toArray ∧ cells.length = cs.length ∧ cells.take (k * sz) = cs.take (k * sz) ∧ (∀ u ∈ cells, u.oneCell' = true) ∧
      rows.length = l.length ∧ ∀ (j : Nat) (z : List V), rows[j]? = some z → DenL I [] w z ((cells.drop ((k + j) * sz)).take sz)
  | [], k, rows, cs, _, h, _, h1 => by
    simp only [rowsOf, Option.some.injEq] at h
    subst h
    exact ⟨cs, rfl, rfl, rfl, h1, rfl, fun j z hj => by simp at hj⟩
  | (i, x) :: l, k, rows, cs, ht, h, hle, h1 => by
    simp only [rowsOf] at h
    split at h
    · rename_i z rs hz hr
      simp only [cond_eq_ite, Bool.and_eq_true] at h
      split at h
      · rename_i hc
        obtain ⟨⟨hc1, hc2⟩, hfo⟩ := hc
        obtain rfl := beq_true hc1
        rw [len_eq] at hc2
        have hzl := beq_true hc2
        cases h
        have hx := ev_den hT (ht (i, x) (by simp))
        obtain ⟨ws, hws, hw1, hwd⟩ := cells?_den hz hx
        have hwl := hwd.length
        simp only [List.length_cons] at hle
        have hle' : i * sz + sz ≤ cs.length := by
          have : (i + 1) * sz ≤ (i + (l.length + 1)) * sz := Nat.mul_le_mul_right _ (by omega)
          rw [Nat.add_mul] at this
          omega
        have hspl : (Sx.splice cs (i * sz) ws) = cs.take (i * sz) ++ ws ++ cs.drop (i * sz + ws.length) := splice_eq ws cs (i * sz) (by omega)
        obtain ⟨cells, g1, g2, g3, g4, g5, g6⟩ := fillRows hT sz l (i + 1) rs (cs.take (i * sz) ++ ws ++ cs.drop (i * sz + ws.length)) (fun p hp => ht p (by simp [hp])) hr (by
            simp only [List.length_append, List.length_take, List.length_drop]
            have : (i + 1 + l.length) * sz = (i + (l.length + 1)) * sz := by rw [show i + 1 + l.length = i + (l.length + 1) by omega]
            omega) (by
          intro u hu
          simp only [List.mem_append] at hu
          rcases hu with (hu | hu) | hu
          · exact h1 u (List.mem_of_mem_take hu)
          · exact hw1 u hu
          · exact h1 u (List.mem_of_mem_drop hu))
        have hlen : (cs.take (i * sz) ++ ws ++ cs.drop (i * sz + ws.length)).length = cs.length := by
          simp only [List.length_append, List.length_take, List.length_drop]; omega
        refine ⟨cells, ?_, g2.trans hlen, ?_, g4, by simp [g5], ?_⟩
        · simp only [List.map_cons, Instr.fill]
          rw [hws]
          simp only [List.size_toArray]
          rw [if_neg (by simp; omega)]
          have := foldl_set ws (i * sz) cs 0 (by omega)
          simp only [Nat.add_zero] at this
          have e2 : (Array.foldl (fun cs (x : Value × Nat) => cs.setIfInBounds (i * sz + x.2) x.1) cs.toArray ws.toArray.zipIdx) = (Sx.splice cs (i * sz) ws).toArray := by
            rw [← this]
            simp
          rw [e2, hspl]
          exact g1
        · have hh : (cells.take ((i + 1) * sz)).take (i * sz) = cells.take (i * sz) := by rw [List.take_take]; congr 1; rw [Nat.add_mul]; omega
          rw [← hh, g3, List.take_take]
          have : min (i * sz) ((i + 1) * sz) = i * sz := by rw [Nat.add_mul]; omega
          rw [this, List.append_assoc, List.take_append_of_le_length (by simp; omega), List.take_take]
          congr 1
          omega
        · intro j zz hj
          cases j with
          | succ j =>
            have := g6 j zz (by simpa using hj)
            rw [show i + 1 + j = i + (j + 1) by omega] at this
            exact this
          | zero =>
            simp at hj
            subst hj
            have e3 : (cells.drop ((i + 0) * sz)).take sz = ws := by
              have hh : ((cells.take ((i + 1) * sz)).drop (i * sz)) = (cells.drop (i * sz)).take sz := by
                rw [List.drop_take]; congr 1; rw [Nat.add_mul]; omega
              rw [Nat.add_zero, ← hh, g3]
              have e4 : (i + 1) * sz = i * sz + ws.length := by rw [Nat.add_mul]; omega
              rw [e4, List.take_append_of_le_length (by simp; omega), List.take_of_length_le (by simp; omega), List.drop_append_of_le_length (by simp; omega), List.drop_of_length_le (by simp; omega), List.nil_append]
            rw [e3]
            exact fo_nil_list _ _ hfo hwd
      · cases h
    · cases h

theorem forceLL_eq : ∀ (l : List (List V)) (K : List (List V) → Prop), forceLL l K = K l
  | [], _ => rfl
  | z :: l, K => by simp only [forceLL]; rw [forceL_eq, forceLL_eq l]

theorem built_run {I : Nat → Prop} {η : Eta} {w : World} {T : List V} {a : Act} (hT : SatT I η w T a.tmps) {o : Oper} {t e : TypeId} {k : Nat} {parts : Array (Nat × Operand)} (hop : o.op = .buildSlice t k parts) {i : TypeInfo} {zv : Value}
    (hu : P.underlying t = some (.slice e)) (hinfo : P.info? e = some i) (hzv : i.zero = some zv) (hz1 : ∀ u ∈ zv.cells.toList, u.oneCell' = true) (hzs : zv.cells.size = i.size) (ht : ∀ p ∈ parts.toList, There T p.2) {rows : List (List V)}
    (hrows : rowsOf i.size T 0 parts.toList = some rows) (hc1 : rows.length = k) (hc2 : 1 ≤ i.size) (hc3 : k * i.size ≤ 16777216) :
    ∃ cells : List Value, (execOp a.eval o).run P w = .ok (.value (.slice (some ⟨w.heap.size, 0, none⟩) k k)) (w.alloc (.cells cells.toArray e)) ∧ cells.length = k * i.size ∧ (∀ u ∈ cells, u.oneCell' = true) ∧
      ∀ (j : Nat) (z : List V), rows[j]? = some z → DenL I [] w z ((cells.drop ((0 + j) * i.size)).take i.size) := by
  have hcs1 : ∀ u ∈ ((Array.range (k * i.size)).map (zv.cells[· % zv.cells.size]!)).toList, u.oneCell' = true := by
    intro u hu
    simp only [Array.toList_map, Array.toList_range, List.mem_map, List.mem_range] at hu
    obtain ⟨j, hj, rfl⟩ := hu
    have hmod : j % zv.cells.size < zv.cells.size := Nat.mod_lt _ (by omega)
    rw [getElem!_pos zv.cells _ hmod]
    exact hz1 _ (by simp)
  obtain ⟨cells, g1, g2, g3, g4, g5, g6⟩ := fillRows hT i.size parts.toList 0 rows _ ht hrows (by
    have : (rowsOf i.size T 0 parts.toList).isSome := by rw [hrows]; rfl
    have hlr : ∀ (l : List (Nat × Operand)) (q : Nat) (rs : List (List V)), rowsOf i.size T q l = some rs → rs.length = l.length := by
      intro l
      induction l with
      | nil => intro q rs hq; simp only [rowsOf, Option.some.injEq] at hq; subst hq; rfl
      | cons p l ih =>
        intro q rs hq
        simp only [rowsOf] at hq
        split at hq
        · rename_i z' r' hz' hr'
          simp only [cond_eq_ite] at hq
          split at hq
          · cases hq; simp [ih _ _ hr']
          · cases hq
        · cases hq
    have := hlr _ _ _ hrows
    simp only [Array.toList_map, Array.toList_range, List.length_map, List.length_range, Nat.zero_add]
    rw [← this, hc1]
    exact Nat.le_refl _) hcs1
  have hlen : cells.length = k * i.size := by rw [g2]; simp
  have hrun : (execOp a.eval o).run P w = .ok (.value (.slice (some ⟨w.heap.size, 0, none⟩) k k)) (w.alloc (.cells cells.toArray e)) := by
    by_cases hk0 : k * i.size = 0
    · have hk : k = 0 := by
        rcases Nat.mul_eq_zero.1 hk0 with h0 | h0
        · exact h0
        · omega
      subst hk
      have hcn : cells = [] := List.eq_nil_of_length_eq_zero (by simpa using hlen)
      subst hcn
      have hr0 : parts.toList = [] := by
        have : rows.length = parts.toList.length := g5
        exact List.eq_nil_of_length_eq_zero (by omega)
      have hp0 : parts = #[] := by rw [← Array.toList_eq_nil_iff]; exact hr0
      subst hp0
      simp [execOp, hop, Instr.buildSlice, run_underlying hu, sizeOf, typeInfo, hinfo, Instr.fill, newRow, newObj, Sem.run, Array.range_zero']
    · have hb := run_buildSlice (P := P) w t e k (parts.map fun (p : Nat × Operand) => (p.1, a.eval p.2)) cells.toArray i zv hu hinfo hzv (by omega) hk0 (by
        rw [← g1]
        congr 1
        simp)
      simp only [execOp, hop, Sem.run_bind]
      rw [show (Array.map (fun x => match x with | (i, x) => (i, a.eval x)) parts) = parts.map (fun (p : Nat × Operand) => (p.1, a.eval p.2)) from rfl, hb]
      simp
  exact ⟨cells, hrun, hlen, g4, g6⟩

theorem made_run {I : Nat → Prop} {w : World} {t e : TypeId} {i : TypeInfo} {zv : Value} (hu : P.underlying t = some (.slice e)) (hinfo : P.info? e = some i) (hzv : i.zero = some zv) (hz1 : ∀ u ∈ zv.cells.toList, u.oneCell' = true) (hzs : zv.cells.size = i.size)
    (kl kc : IntKind) {lv cv : Int} (h0 : 0 ≤ lv) (hlc : lv ≤ cv) (hc2 : cv ≤ 137438953472) (hb1 : i.bytes ≤ 1024) :
    ∃ cells : List Value, (Instr.makeSlice t (.int kl lv) (.int kc cv)).run P w = .ok (.slice (some ⟨w.heap.size, 0, none⟩) lv.toNat cv.toNat) (w.alloc (.cells cells.toArray e)) ∧ cells.length = cv.toNat * i.size ∧ (∀ u ∈ cells, u.oneCell' = true) ∧
      ∀ k, k < lv.toNat → DenL I [] w (zv.cells.toList.map ofZ) ((cells.drop (k * i.size)).take i.size) := by
  have hbytes : cv * (i.bytes : Int) ≤ 137438953472 * 1024 := Int.mul_le_mul hc2 (by omega) (by omega) (by omega)
  have hrun := run_make (P := P) w t e i zv hu hinfo hzv kl kc lv cv h0 hlc (by rw [Int.mul_comm]; omega) (by omega)
  have hcells : ∀ j, j < cv.toNat * i.size → (madeCells zv.cells (cv.toNat * i.size)).toList[j]? = some (zv.cells[j % zv.cells.size]!) := by
    intro j hj
    simp [madeCells, hj]
  refine ⟨(madeCells zv.cells (cv.toNat * i.size)).toList, by simpa using hrun, by simp [madeCells], ?_, ?_⟩
  · intro u hu
    obtain ⟨j, hj, rfl⟩ := List.getElem_of_mem hu
    have hj' : j < cv.toNat * i.size := by simpa [madeCells] using hj
    have := hcells j hj'
    rw [List.getElem?_eq_getElem hj] at this
    rw [Option.some.inj this]
    have hpos : 0 < i.size := by
      rcases Nat.eq_zero_or_pos i.size with h0 | h0
      · rw [h0] at hj'; simp at hj'
      · exact h0
    have hmod : j % zv.cells.size < zv.cells.size := Nat.mod_lt _ (by omega)
    rw [getElem!_pos zv.cells _ hmod]
    exact hz1 _ (by simp)
  · intro k hk
    have : ((madeCells zv.cells (cv.toNat * i.size)).toList.drop (k * i.size)).take i.size = zv.cells.toList := by
      apply List.ext_getElem?
      intro j
      rw [List.getElem?_take, List.getElem?_drop]
      have hle : (k + 1) * i.size ≤ cv.toNat * i.size := Nat.mul_le_mul_right _ (by omega)
      rw [Nat.add_mul] at hle
      by_cases hj : j < i.size
      · rw [if_pos hj, hcells _ (by omega), hzs]
        have : (k * i.size + j) % i.size = j := by rw [Nat.mul_comm, Nat.mul_add_mod, Nat.mod_eq_of_lt hj]
        rw [this, getElem!_pos zv.cells j (by omega)]
        simp [hzs, hj]
      · rw [if_neg hj, List.getElem?_eq_none (by simp; omega)]
    rw [this]
    exact den_ofC_list I [] w _

section
variable {R : Rel} (hR : RelOk R) (hE : EnvOk E P) {r : Option Nat} {n : Nat} {Q : Exit → Act → World → Prop}
include hR hE

omit hE in
theorem builtAt {T : List V} {H : List O} {o : Oper} {K : KT} {I : Nat → Prop} {η : Eta} {w : World} {a : Act} (hg : Good I η w T H a) (hd : ∀ c, o.op ≠ .defer c) (ty sz k cap : Nat) (hkc : k ≤ cap) (hcap : cap ≤ maxLen) (f : Nat → List V) (cells : List Value)
    (hrun : (execOp a.eval o).run P w = .ok (.value (.slice (some ⟨w.heap.size, 0, none⟩) k cap)) (w.alloc (.cells cells.toArray ty))) (hl : cells.length = cap * sz) (h1 : ∀ u ∈ cells, u.oneCell' = true)
    (hrow : ∀ i, i < k → DenL I [] w (f i) ((cells.drop (i * sz)).take sz)) (hk : K (match o.dst with | some d => set T d (.osl H.length k) | none => T) (H ++ [.row ty sz k f false])) :
    o.wpIn (Fw r) n P a w (After R I (own η H) w a.defers K) Q := by
  have hlt : ∀ i, i < k → (i + 1) * sz ≤ k * sz := fun i hi => Nat.mul_le_mul_right _ hi
  have hkm : k * sz ≤ cap * sz := Nat.mul_le_mul_right _ hkc
  have m0 : Mono I [] w I [] (w.alloc (.cells cells.toArray ty)) := ⟨fun _ _ he _ => he, fun _ hb => hb, fun b hb => by
    have := hg.sat.ilt b hb
    rw [World.alloc_heap, Array.getElem?_push]
    have : b ≠ w.heap.size := by omega
    simp [this]⟩
  obtain ⟨s1, s2, s3⟩ := hg.sat.push (.cells cells.toArray ty) (.row ty sz k f false) cap (by
    refine ⟨cells.take (k * sz), ⟨by rw [List.length_take, hl]; omega, .inr ⟨w.heap.size, cap, cells.toArray, rfl, Nat.zero_le _, by rw [World.alloc_heap]; simp, hkc, hcap, by simpa using hl, by simp⟩⟩, fun u hu => h1 u (List.mem_of_mem_take hu), by simp, fun i hi => ?_⟩
    have := hlt i hi
    rw [Nat.add_mul] at this
    have e1 : ((cells.take (k * sz)).drop (i * sz)).take sz = (cells.drop (i * sz)).take sz := by
      rw [List.drop_take, List.take_take]
      congr 1
      omega
    rw [e1]
    exact DenL.mono m0 _ _ (hrow i hi))
  refine wpIn_value hd hrun ⟨Act.put_defers' _ _ _, I, _, _, _, hk, ⟨s1, (hg.tmp.mono s2).put ⟨(some w.heap.size, cap), ?_, fun h => by simp at h, rfl⟩⟩, hR.step s3⟩
  rw [← hg.sat.len]
  simp

theorem sliceOp_sound {T : List V} {H : List O} {o : Oper} {K : KT} {I : Nat → Prop} {η : Eta} {w : World} {a : Act} (hg : Good I η w T H a) (h : sliceOp E T H o K) (ht : ∀ x ∈ o.op.operands.toList, There T x) :
    o.wpIn (Fw r) n P a w (After R I (own η H) w a.defers K) Q := by
  have hd : ∀ c, o.op ≠ .defer c := by
    intro c hc
    unfold sliceOp at h
    rw [hc] at h
    exact h
  unfold sliceOp at h
  split at h
  · rename_i t k parts hop
    split at h
    · rename_i e he
      obtain ⟨hu, i, hinfo, hs, hby, hke, hzz⟩ := elemOf_spec hE he
      split at h
      · rename_i z rows hz hrows
        rw [hzz] at hz
        obtain ⟨zv, hzv, _, hz1, hzs⟩ := zeroOf_spec hz
        rw [← hs] at *
        simp only [cond_eq_ite, Bool.and_eq_true] at h
        split at h
        · rename_i hc
          obtain ⟨⟨hc1, hc2⟩, hc3⟩ := hc
          rw [len_eq] at hc1
          have hc1 := beq_true hc1
          have hc2 := Nat.le_of_ble_eq_true hc2
          have hc3 := Nat.le_of_ble_eq_true hc3
          obtain ⟨cells, hrun, hlen, g4, g6⟩ := built_run (P := P) hg.tmp hop hu hinfo hzv hz1 hzs (fun p hp => ht p.2 (by simp [hop, Op.operands]; exact ⟨p.1, by simpa using hp⟩)) hrows hc1 hc2 hc3
          rw [natK_eq, lenK_eq, forceLL_eq] at h
          have hkm : k ≤ maxLen := by
            have : k * 1 ≤ k * i.size := Nat.mul_le_mul_left _ hc2
            simp only [maxLen]
            omega
          match rows, h, hc1, g6 with
          | [c], h, hc1, g6 =>
            simp only at h
            rw [pushK_eq, putK_eq] at h
            refine builtAt hR hg hd e i.size k k (Nat.le_refl _) hkm (fun _ => c) cells hrun hlen g4 (fun q hq => ?_) h
            have hk1 : k = 1 := by simpa using hc1.symm
            have : q = 0 := by omega
            subst this
            have := g6 0 c rfl
            simpa using this
          | [], h, hc1, g6 =>
            simp only at h
            rw [pushK_eq, putK_eq] at h
            exact builtAt hR hg hd e i.size k k (Nat.le_refl _) hkm (fun q => get [] [] q) cells hrun hlen g4 (fun q hq => by simp at hc1; omega) h
          | r1 :: r2 :: rs, h, hc1, g6 =>
            simp only at h
            rw [pushK_eq, putK_eq] at h
            refine builtAt hR hg hd e i.size k k (Nat.le_refl _) hkm (fun q => get [] (r1 :: r2 :: rs) q) cells hrun hlen g4 (fun q hq => ?_) h
            have hq' : q < (r1 :: r2 :: rs).length := by omega
            have := g6 q (r1 :: r2 :: rs)[q] (by rw [List.getElem?_eq_getElem hq'])
            rw [get_eq, List.getElem?_eq_getElem hq']
            simpa using this
        · exact h.elim
      · exact h.elim
    · exact h.elim
  · rename_i t l c hop
    have hl := ev_den hg.tmp (ht l (by simp [hop, Op.operands]))
    have hc := ev_den hg.tmp (ht c (by simp [hop, Op.operands]))
    split at h
    · rename_i e kl lv kc cv he hlv hcv
      rw [hlv] at hl
      rw [hcv] at hc
      have hl : a.eval l = .int kl lv := hl
      have hc : a.eval c = .int kc cv := hc
      obtain ⟨hu, i, hinfo, hs, hby, hke, hzz⟩ := elemOf_spec hE he
      split at h
      · rename_i z hz
        rw [hzz] at hz
        obtain ⟨zv, hzv, rfl, hz1, hzs⟩ := zeroOf_spec hz
        simp only [cond_eq_ite] at h
        split at h
        · rename_i hfo
          simp only [Bool.and_eq_true] at hfo
          have hb1 := Nat.le_of_ble_eq_true hfo.2
          obtain ⟨h0, hlc, hc2, h⟩ := h
          rw [natK_eq, lenK_eq, forceL_eq, pushK_eq, putK_eq] at h
          rw [← hs] at *
          rw [← hby] at *
          obtain ⟨cells, hrun, hlen, g4, g6⟩ := made_run (P := P) (I := I) (w := w) hu hinfo hzv hz1 hzs kl kc h0 hlc hc2 hb1
          refine builtAt hR hg hd e i.size lv.toNat cv.toNat (by omega) (by simp only [maxLen]; omega) (fun _ => zv.cells.toList.map ofZ) cells ?_ hlen g4 g6 h
          simp [execOp, hop, hl, hc, hrun]
        · exact h.elim
      · exact h.elim
    · exact h.elim
  · rename_i sx x t t' hop
    have hs := ev_den hg.tmp (ht sx (by simp [hop, Op.operands, Call.operands]))
    have hx := ev_den hg.tmp (ht x (by simp [hop, Op.operands, Call.operands]))
    split at h
    · rename_i e he htt
      obtain rfl := beq_true htt
      obtain ⟨hu, i, hinfo, hsz, hby, hke, hzz⟩ := elemOf_spec hE he
      split at h
      · rename_i z m g c hz hsrc hpos
        rw [hzz] at hz
        obtain ⟨zv, hzv, _, hz1, hzs⟩ := zeroOf_spec hz
        simp only [Bool.and_eq_true] at hpos
        have hb1024 := Nat.le_of_ble_eq_true hpos.2
        have hpos := Nat.le_of_ble_eq_true hpos.1
        rw [← hsz] at *
        rw [← hby] at *
        have hrunof : ∀ v' w', (Builtin.append_ #[t, t] o.type #[a.eval sx, a.eval x]).run P w = .ok v' w' → (execOp a.eval o).run P w = .ok (.value v') w' := by
          intro v' w' hr
          simp [execOp, hop, resolve, invoke, builtin, hr]
        split at h
        · rename_i id n0 hsv
          rw [hsv] at hs
          split at h
          · rename_i ty sz n' f nz hgt
            simp only [cond_eq_ite, Bool.and_eq_true] at h
            split at h
            · rename_i hcc
              obtain rfl := beq_true hcc.1
              obtain rfl := beq_true hcc.2
              have h0 := srcC_spec h
              clear h
              obtain ⟨hc, hnn, hb2, h⟩ := h0
              subst hnn
              have hb1 : (n0 + m) * i.bytes ≤ 137438953472 * 1024 := Nat.mul_le_mul hb2 hb1024
              rw [lenK_eq, setK_eq, pushK_eq, putK_eq, set_eq] at h
              obtain ⟨ee, hη, hnz, hsval⟩ := hs
              have hH := get_live hgt trivial
              obtain ⟨xs, hown, h1, hnil, hden⟩ := hg.sat.obj id _ _ hη hH
              obtain ⟨v', w', news, g1, g2, g3, g4, g5, g6, g7, g8⟩ := append_sound (P := P) hg.sat t o.type ty i zv hu hinfo hzv hzs hpos hown hsrc hc hx (by omega) (by omega)
              obtain ⟨e', k1, k2, k3, k4, k5⟩ := ownsRow_entry g2
              rw [slVal_own] at g3 g5
              obtain ⟨s1, s2, s3⟩ := hg.sat.renew (H.set id .gone) (by simp) (fun j o1 hj hl => by
                rw [List.getElem?_set] at hj
                by_cases hji : id = j
                · rw [if_pos hji] at hj
                  split at hj
                  · cases hj; exact hl.elim
                  · cases hj
                · rw [if_neg hji] at hj; exact hj) ee.1 g3 (fun b hb => by
                obtain ⟨bb, cp⟩ := ee
                simp only at hb
                subst hb
                refine ⟨⟨id, cp, _, hη, hH, trivial⟩, ?_⟩
                rintro ⟨j, c2, o2, q1, q2, q3⟩
                rw [List.getElem?_set] at q2
                by_cases hji : id = j
                · rw [if_pos hji] at q2
                  split at q2
                  · cases q2; exact q3.elim
                  · cases q2
                · rw [if_neg hji] at q2
                  exact hji (hg.sat.apart id j b cp c2 _ o2 hη q1 hH q2 trivial q3)) e' (.row ty i.size (n0 + m) (appF n0 f g) nz) (fun b c2 hb => by
                refine ⟨?_, k4 b c2 hb⟩
                rw [k1, slVal_own] at g5
                have := g5 b (by rw [hb])
                exact this) (fun m0 => by
                refine ⟨xs ++ news, by rw [← k1]; exact g2, fun u hu => ?_, ?_, ?_⟩
                · rcases List.mem_append.1 hu with hu | hu
                  · exact h1 u hu
                  · exact g7 u hu
                · rw [k2, g4, slVal_nil, hnil]
                  constructor
                  · rintro ⟨⟨q1, q2⟩, q3⟩; exact ⟨q1, by omega⟩
                  · rintro ⟨q1, q2⟩; exact ⟨⟨q1, by omega⟩, by omega⟩
                · intro k hk
                  exact DenL.mono m0.nil _ _ (appended_rows hown.1 g6 hden g8 k hk))
              rw [hsval] at hrunof
              refine wpIn_value hd (hrunof v' w' g1) ⟨Act.put_defers' _ _ _, I, _, _, _, h, ⟨s1, (hg.tmp.mono s2).put ⟨e', ?_, k5, k1⟩⟩, hR.step s3⟩
              rw [← hg.sat.len]
              simp
            · exact h.elim
          · exact h.elim
        · rename_i hsv
          rw [hsv] at hs
          have hsval : a.eval sx = .slice none 0 0 := hs
          have h0 := srcC_spec h
          clear h
          obtain ⟨hc, hb2, h⟩ := h0
          have hb1 : m * i.bytes ≤ 137438953472 * 1024 := Nat.mul_le_mul hb2 hb1024
          rw [natK_eq, lenK_eq, pushK_eq, putK_eq] at h
          obtain ⟨v', w', news, g1, g2, g3, g4, g5, g6, g7, g8⟩ := append_sound (P := P) hg.sat t o.type e i zv hu hinfo hzv hzs hpos (World.ownsRow_nil w 0 e i.size) hsrc hc hx (by omega) (by simp only [Nat.zero_add]; omega)
          simp only [Nat.zero_add, List.nil_append] at g2
          obtain ⟨e', k1, k2, k3, k4, k5⟩ := ownsRow_entry g2
          obtain ⟨s1, s2, s3⟩ := hg.sat.renew H rfl (fun j o1 hj hl => hj) none g3 (fun b hb => by cases hb) e' (.row e i.size m g true) (fun b c2 hb => by
            refine ⟨.inr ?_, k4 b c2 hb⟩
            rw [k1, slVal_own] at g5
            rcases g5 b (by rw [hb]) with q | q
            · simp [Value.ownBlock] at q
            · exact q) (fun m0 => by
            refine ⟨news, by rw [← k1]; exact g2, g7, ?_, fun k hk => DenL.mono m0.nil _ _ (g8 k hk)⟩
            rw [k2, g4]
            simp)
          rw [hsval] at hrunof
          refine wpIn_value hd (hrunof v' w' g1) ⟨Act.put_defers' _ _ _, I, _, _, _, h, ⟨s1, (hg.tmp.mono s2).put ⟨e', ?_, k5, k1⟩⟩, hR.step s3⟩
          rw [← hg.sat.len]
          simp
        · exact h.elim
      · exact h.elim
    · exact h.elim
  · exact h.elim
end
end Go.Sx
