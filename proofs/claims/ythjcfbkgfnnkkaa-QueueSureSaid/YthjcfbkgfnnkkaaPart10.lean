/- Own work: texts of the proof of a law (SyDraw4). No condition. -/
import Derived.Test.YthjcfbkgfnnkkaaPart9
namespace Go.Sx
open Go
variable {P : Program} {E : Env}
theorem Sat.forget {I : Nat → Prop} {η : Eta} {w : World} {H H1 : List O} (h : Sat I η w H) (hl : H1.length = H.length) (hlive : ∀ (i : Nat) (o : O), H1[i]? = some o → o.live → H[i]? = some o) : Sat I η w H1 := by
  have ow : ∀ b, own η H1 b → own η H b := fun b ⟨i, c, o, h1, h2, h3⟩ => ⟨i, c, o, h1, hlive i o h2 (O.has_live h3), h3⟩
  refine ⟨by rw [hl]; exact h.len, ?_, ?_, fun b hb => h.notI b (ow b hb), fun b hb => h.lt b (ow b hb), h.ilt⟩
  · intro i e o he ho
    by_cases hlv : o.live
    · exact h.obj i e o he (hlive i o ho hlv)
    · cases o <;> first | exact (hlv trivial).elim | trivial
  · intro i j b c c' o o' h1 h2 h3 h4 l1 l2
    exact h.apart i j b c c' o o' h1 h2 (hlive i o h3 (O.has_live l1)) (hlive j o' h4 (O.has_live l2)) l1 l2
theorem Sat.readd {I I1 : Nat → Prop} {η η1 : Eta} {w w1 : World} {H H' H1 H1' : List O} (h : Sat I η w H') (hH : ∀ (i : Nat) (o : O), H[i]? = some o → o.live → H'[i]? = some o)
    (h1 : Sat I1 η1 w1 H1) (hst : Step I (own η H) w I1 (own η1 H1) w1) (heta : ∀ (id : Nat) (e : Option Nat × Nat), η[id]? = some e → η1[id]? = some e) (hl : H1'.length = H1.length)
    (hcs : ∀ (i : Nat) (o : O), H1'[i]? = some o → o.live → H1[i]? = some o ∨ (H'[i]? = some o ∧ ∀ o', H[i]? = some o' → ¬ o'.live)) :
    Sat I1 η1 w1 H1' ∧ Step I (own η H') w I1 (own η1 H1') w1 ∧ Mono I η w I1 η1 w1 := by
  have ow0 : ∀ b, own η H b → own η H' b := fun b ⟨i, c, o, g1, g2, g3⟩ => ⟨i, c, o, g1, hH i o g2 (O.has_live g3), g3⟩
  have back : ∀ (i : Nat) (e : Option Nat × Nat) (o : O), H'[i]? = some o → η1[i]? = some e → η[i]? = some e := by
    intro i e o ho he
    have hi : i < η.length := by rw [h.len]; exact (List.getElem?_eq_some_iff.1 ho).1
    have := heta i η[i] (by simp [hi])
    rw [he] at this
    cases this
    simp [hi]
  have fr0 : ∀ (i b : Nat) (c : Option Nat × Nat) (o : O), η[i]? = some c → H'[i]? = some o → o.has c b → (∀ o', H[i]? = some o' → ¬ o'.live) → ¬ own η H b := by
    rintro i b c o g1 g2 g3 g4 ⟨j, c', o', k1, k2, k3⟩
    have := h.apart i j b c c' o o' g1 k1 g2 (hH j o' k2 (O.has_live k3)) g3 k3
    subst this
    exact g4 o' k2 (O.has_live k3)
  have fr1 : ∀ (i b : Nat) (c : Option Nat × Nat) (o : O), η[i]? = some c → H'[i]? = some o → o.has c b → (∀ o', H[i]? = some o' → ¬ o'.live) → ¬ own η1 H1 b := by
    intro i b c o g1 g2 g3 g4 hb
    rcases hst.wnew b hb with k | k
    · exact fr0 i b c o g1 g2 g3 g4 k
    · have := h.lt b ⟨i, c, o, g1, g2, g3⟩; omega
  have m : Mono I η w I1 η1 w1 := ⟨fun id e he _ => heta id e he, hst.imono, fun b hb => hst.block b (h.ilt b hb) (fun ho => h.notI b (ow0 b ho) hb)⟩
  have oc : ∀ b, own η1 H1' b → own η1 H1 b ∨ ∃ (i : Nat) (c : Option Nat × Nat) (o : O), η[i]? = some c ∧ H'[i]? = some o ∧ o.has c b ∧ ∀ (o' : O), H[i]? = some o' → ¬ o'.live := by
    rintro b ⟨i, c, o, g1, g2, g3⟩
    rcases hcs i o g2 (O.has_live g3) with k | ⟨k1, k2⟩
    · exact .inl ⟨i, c, o, g1, k, g3⟩
    · exact .inr ⟨i, c, o, back i _ o k1 g1, k1, g3, k2⟩
  refine ⟨⟨by rw [hl]; exact h1.len, ?_, ?_, ?_, ?_, h1.ilt⟩, ⟨hst.os, hst.tape, hst.output, hst.size, fun b hb hw => hst.block b hb (fun ho => hw (ow0 b ho)), hst.imono, ?_, ?_, m.eta⟩, m⟩
  · intro i e o he ho
    by_cases hlv : o.live
    · rcases hcs i o ho hlv with k | ⟨k1, k2⟩
      · exact h1.obj i e o he k
      · have he' := back i e o k1 he
        refine (h.obj i e o he' k1).mono m ?_
        intro b hb
        exact hst.block b (h.lt b ⟨i, _, o, he', k1, hb⟩) (fr0 i b _ o he' k1 hb k2)
    · cases o <;> first | exact (hlv trivial).elim | trivial
  · intro i j b c c' o o' g1 g2 g3 g4 l1 l2
    rcases hcs i o g3 (O.has_live l1) with k | ⟨k1, k2⟩ <;> rcases hcs j o' g4 (O.has_live l2) with q | ⟨q1, q2⟩
    · exact h1.apart i j b c c' o o' g1 g2 k q l1 l2
    · exact (fr1 j b c' o' (back j _ o' q1 g2) q1 l2 q2 ⟨i, c, o, g1, k, l1⟩).elim
    · exact (fr1 i b c o (back i _ o k1 g1) k1 l1 k2 ⟨j, c', o', g2, q, l2⟩).elim
    · exact h.apart i j b c c' o o' (back i _ o k1 g1) (back j _ o' q1 g2) k1 q1 l1 l2
  · intro b hb hI
    rcases oc b hb with hb | ⟨i, c, o, g1, g2, g3, g4⟩
    · exact h1.notI b hb hI
    · rcases hst.inew b hI with k | k | k
      · exact h.notI b ⟨i, c, o, g1, g2, g3⟩ k
      · exact fr0 i b c o g1 g2 g3 g4 k
      · have := h.lt b ⟨i, c, o, g1, g2, g3⟩; omega
  · intro b hb
    rcases oc b hb with hb | ⟨i, c, o, g1, g2, g3, g4⟩
    · exact h1.lt b hb
    · exact Nat.lt_of_lt_of_le (h.lt b ⟨i, c, o, g1, g2, g3⟩) hst.size
  · intro b hb
    rcases hst.inew b hb with k | k | k
    · exact .inl k
    · exact .inr (.inl (ow0 b k))
    · exact .inr (.inr k)
  · intro b hb
    rcases oc b hb with hb | ⟨i, c, o, g1, g2, g3, g4⟩
    · rcases hst.wnew b hb with k | k
      · exact .inl (ow0 b k)
      · exact .inr k
    · exact .inl ⟨i, c, o, g1, g2, g3⟩
theorem run_plain {w : World} {o : Oper} {a : Act} (hk : midKind o.op = true) (hcl : ∀ c ar ty, o.op ≠ .call { callee := .value c, args := ar, argTypes := ty }) (hn : ∀ x, o.op = .nilCheck x → ∃ q, a.eval x = .pointer (some q)) : (∃ x w', (execOp a.eval o).run P w = .ok (.value x) w') ∨ (∃ w', (execOp a.eval o).run P w = .ok .skip w') ∨ ∀ nx w', (execOp a.eval o).run P w ≠ .ok nx w' := by
  have val : ∀ (s : Sem Value), (∃ x w', (do pure (.value (← s)) : Sem Next).run P w = .ok (.value x) w') ∨ (∃ w', (do pure (.value (← s)) : Sem Next).run P w = .ok .skip w') ∨ ∀ nx w', (do pure (.value (← s)) : Sem Next).run P w ≠ .ok nx w' := by
    intro s
    cases hs : s.run P w with
    | ok x w' => exact .inl ⟨x, w', by simp [hs]⟩
    | _ => exact .inr (.inr fun nx w' => by simp [hs])
  have skp : ∀ (s : Sem Unit), (∃ x w', (do s; pure .skip : Sem Next).run P w = .ok (.value x) w') ∨ (∃ w', (do s; pure .skip : Sem Next).run P w = .ok .skip w') ∨ ∀ nx w', (do s; pure .skip : Sem Next).run P w ≠ .ok nx w' := by
    intro s
    cases hs : s.run P w with
    | ok x w' => exact .inr (.inl ⟨w', by simp [hs]⟩)
    | _ => exact .inr (.inr fun nx w' => by simp [hs])
  cases hop : o.op <;> rw [hop] at hk <;> simp only [midKind, Bool.false_eq_true] at hk
  case move x => exact .inl ⟨a.eval x, w, by simp [execOp, hop]⟩
  case assign x => exact .inl ⟨a.eval x, w, by simp [execOp, hop]⟩
  case store t x y => have := skp (Instr.storeAt t (a.eval x) (a.eval y)); simpa only [execOp, hop] using this
  case load t x => have := val (Instr.loadAt t (a.eval x)); simpa only [execOp, hop] using this
  case fieldAddr t x f => have := val (Instr.fieldAt t (a.eval x) f); simpa only [execOp, hop] using this
  case field t x f => have := val (Instr.field t (a.eval x) f); simpa only [execOp, hop] using this
  case indexAddr t x i => have := val (Instr.indexAt t (a.eval x) (a.eval i)); simpa only [execOp, hop] using this
  case extract x i => have := val (Instr.extract (a.eval x) i); simpa only [execOp, hop] using this
  case buildSlice t k parts => have := val (Instr.buildSlice t k (parts.map fun p => (p.1, a.eval p.2))); simpa only [execOp, hop] using this
  case build t ps => have := val (Instr.build t (ps.map fun p => (p.1, a.eval p.2))); simpa only [execOp, hop] using this
  case unOp op t x => have := val (Op.unary op (a.eval x)); simpa only [execOp, hop] using this
  case mapEntry t m k => have := val (Instr.mapEntry t (a.eval m) (a.eval k)); simpa only [execOp, hop] using this
  case entryStore t m s x => have := skp (Instr.entryStore t (a.eval m) (a.eval s) (a.eval x)); simpa only [execOp, hop] using this
  case nilCheck x =>
    obtain ⟨q, hq⟩ := hn x hop
    exact .inl ⟨.pointer (some q), w, by simp [execOp, hop, hq]⟩
  case call c =>
    obtain ⟨cal, ar, ty⟩ := c
    cases cal with
    | builtin b =>
      cases b with
      | append =>
        have := val (Builtin.append_ ty o.type (ar.map a.eval))
        simpa [execOp, hop, resolve, invoke, builtin] using this
      | copy =>
        have := val (Builtin.copy_ ty o.type (ar.map a.eval))
        simpa [execOp, hop, resolve, invoke, builtin] using this
      | _ => exact Bool.noConfusion hk
    | value f => exact (hcl f ar ty hop).elim
    | _ => exact Bool.noConfusion hk
theorem wpIn_put {r : Option Nat} {n : Nat} {o : Oper} {a : Act} {w : World} {next : Act → World → Prop} {Q : Exit → Act → World → Prop} (hk : midKind o.op = true) (hcl : ∀ c ar ty, o.op ≠ .call { callee := .value c, args := ar, argTypes := ty }) (hn : ∀ x, o.op = .nilCheck x → ∃ q, a.eval x = .pointer (some q)) (h : o.wpIn (Fw r) n P a w next Q) :
    o.wpIn (Fw r) n P a w (fun a' w' => next a' w' ∧ ∃ x, a' = a.put o.dst x) Q := by
  have hd : ∀ c, o.op ≠ .defer c := by intro c hc; rw [hc] at hk; cases hk
  refine ⟨h.1, ?_⟩
  have h2 := h.2
  rw [Oper.semAt_eq _ _ _ hd] at h2 ⊢
  rcases run_plain (P := P) (w := w) (a := a) hk hcl hn with ⟨x, w', e⟩ | ⟨w', e⟩ | e
  · rw [e] at h2 ⊢; exact ⟨h2, x, rfl⟩
  · rw [e] at h2 ⊢; exact ⟨h2, undef, rfl⟩
  · generalize (execOp a.eval o).run P w = res at *
    cases res with
    | ok nx w' => exact (e nx w' rfl).elim
    | halt hh w' => cases hh <;> exact h2
theorem mkZ_spec {T : List V} {H : List O} : ∀ {l : List Oper} {zd : List LZ}, mkZ T H l = some zd → (∀ o ∈ l, ∃ x ∈ zd, x.o = o) ∧ ∀ x ∈ zd, x.o ∈ l ∧ x.o.dst = some x.d ∧
    ((isMk x.o.op = true ∧ OfId (get .any T x.d) x.id ∧ x.v = get .any T x.d ∧ x.ob = some (get .gone H x.id)) ∨ (isMk x.o.op = false ∧ x.v = get .any T x.d ∧ x.ob = none ∧ x.id = 0))
  | [], zd, h => by simp [mkZ] at h; subst h; simp
  | o :: l, zd, h => by
    simp only [mkZ] at h
    split at h
    · rename_i d r hd hr
      obtain ⟨h1, h2⟩ := mkZ_spec hr
      have fin : ∀ (x : LZ), x.o = o → x.d = d → zd = x :: r → ((isMk x.o.op = true ∧ OfId (get .any T x.d) x.id ∧ x.v = get .any T x.d ∧ x.ob = some (get .gone H x.id)) ∨ (isMk x.o.op = false ∧ x.v = get .any T x.d ∧ x.ob = none ∧ x.id = 0)) →
          (∀ o' ∈ o :: l, ∃ x ∈ zd, x.o = o') ∧ ∀ x ∈ zd, x.o ∈ o :: l ∧ x.o.dst = some x.d ∧ ((isMk x.o.op = true ∧ OfId (get .any T x.d) x.id ∧ x.v = get .any T x.d ∧ x.ob = some (get .gone H x.id)) ∨ (isMk x.o.op = false ∧ x.v = get .any T x.d ∧ x.ob = none ∧ x.id = 0)) := by
        rintro x rfl rfl rfl hx
        refine ⟨fun o' ho' => ?_, fun y hy => ?_⟩
        · rcases List.mem_cons.1 ho' with rfl | ho'
          · exact ⟨x, by simp, rfl⟩
          · obtain ⟨y, hy, e⟩ := h1 o' ho'
            exact ⟨y, by simp [hy], e⟩
        · rcases List.mem_cons.1 hy with rfl | hy
          · exact ⟨by simp, hd, hx⟩
          · exact ⟨by simp [(h2 y hy).1], (h2 y hy).2⟩
      split at h
      · rename_i t l' c hop
        split at h
        · rename_i id n hv
          split at h
          · rename_i ty sz k f nz hrow
            simp only [Option.some.injEq] at h
            exact fin _ rfl rfl h.symm (.inl ⟨by simp [isMk, hop], .inl ⟨n, hv⟩, hv.symm, by rw [hrow]⟩)
          · cases h
        · cases h
      · rename_i t l' c hop
        split at h
        · rename_i id n hv
          split at h
          · rename_i ty sz k f nz hrow
            simp only [Option.some.injEq] at h
            exact fin _ rfl rfl h.symm (.inl ⟨by simp [isMk, hop], .inl ⟨n, hv⟩, hv.symm, by rw [hrow]⟩)
          · cases h
        · cases h
      · rename_i t hop
        split at h
        · rename_i id hv
          split at h
          · rename_i ty vs hcl
            simp only [Option.some.injEq] at h
            exact fin _ rfl rfl h.symm (.inl ⟨by simp [isMk, hop], .inr hv, hv.symm, by rw [hcl]⟩)
          · cases h
        · cases h
      · rename_i hop hop3 hop2
        simp only [Option.some.injEq] at h
        refine fin _ rfl rfl h.symm (.inr ⟨?_, rfl, rfl, rfl⟩)
        cases ho : o.op <;> first | rfl | exact (hop _ _ _ ho).elim | exact (hop2 _ ho).elim | exact (hop3 _ _ _ ho).elim
    · cases h
theorem get_set_eq {T : List V} {d : Nat} {v : V} (h : d < T.length ∨ v = .any) : get .any (set T d v) d = v := by
  rw [get_set']
  by_cases hl : d < T.length
  · rw [if_pos ⟨rfl, hl⟩]
  · rw [if_neg (fun hh => hl hh.2), h.resolve_left hl, get_eq, List.getElem?_eq_none (by omega)]
    rfl
theorem hideK_spec : ∀ {zd : List LZ} {T : List V} {H : List O} {K : List V → List O → Prop}, hideK zd T H K → ∃ (T1 : List V) (H1 : List O), K T1 H1 ∧ T1.length = T.length ∧ H1.length = H.length ∧
    (∀ x, (∀ z ∈ zd, z.d ≠ x) → get .any T1 x = get .any T x) ∧ (∀ x, get .any T x = .any → get .any T1 x = .any) ∧ (∀ z ∈ zd, get .any T1 z.d = .any) ∧
    (∀ i : Nat, (∀ z ∈ zd, z.ob.isSome = true → z.id ≠ i) → H1[i]? = H[i]?) ∧ (∀ i : Nat, H[i]? = some .gone → H1[i]? = some .gone)
  | [], T, H, K, h => ⟨T, H, h, rfl, rfl, fun _ _ => rfl, fun _ h => h, fun z hz => by simp at hz, fun _ _ => rfl, fun _ h => h⟩
  | z :: l, T, H, K, h => by
    simp only [hideK] at h
    rw [setK_eq] at h
    have ha : get .any (set T z.d .any) z.d = .any := get_set_eq (.inr rfl)
    have hset : ∀ x, get .any T x = .any → get .any (set T z.d .any) x = .any := by
      intro x hx
      rw [get_set']
      split
      · rfl
      · exact hx
    cases ho : z.ob with
    | none =>
      rw [ho] at h
      obtain ⟨T1, H1, h1, h2, h3, h4, h5, h6, h7, h8⟩ := hideK_spec h
      refine ⟨T1, H1, h1, by rw [h2, set_eq]; simp, h3, fun x hx => ?_, fun x hx => h5 x (hset x hx), fun y hy => ?_, fun i hi => h7 i (fun y hy => hi y (by simp [hy])), h8⟩
      · rw [h4 x (fun y hy => hx y (by simp [hy])), get_set', if_neg (fun hh => hx z (by simp) hh.1.symm)]
      · rcases List.mem_cons.1 hy with rfl | hy
        · exact h5 _ ha
        · exact h6 y hy
    | some b =>
      rw [ho] at h
      simp only [setK_eq, set_eq] at h
      obtain ⟨T1, H1, h1, h2, h3, h4, h5, h6, h7, h8⟩ := hideK_spec h
      refine ⟨T1, H1, h1, by rw [h2]; simp, by rw [h3]; simp, fun x hx => ?_, fun x hx => h5 x (by rw [← set_eq]; exact hset x hx), fun y hy => ?_, fun i hi => ?_, fun i hi => h8 i ?_⟩
      · rw [h4 x (fun y hy => hx y (by simp [hy])), ← set_eq, get_set', if_neg (fun hh => hx z (by simp) hh.1.symm)]
      · rcases List.mem_cons.1 hy with rfl | hy
        · exact h5 _ (by rw [← set_eq]; exact ha)
        · exact h6 y hy
      · rw [h7 i (fun y hy => hi y (by simp [hy])), List.getElem?_set, if_neg (hi z (by simp) (by simp [ho]))]
      · rw [List.getElem?_set]
        split
        · rename_i e; subst e; simp [(List.getElem?_eq_some_iff.1 hi).1]
        · exact hi
theorem clrT_spec : ∀ {zd : List LZ} {T : List V} {K : List V → Prop}, clrT zd T K → ∃ T1, K T1 ∧ T1.length = T.length ∧ (∀ x, get .any T1 x = .any ∨ get .any T1 x = get .any T x) ∧ (∀ x, get .any T x = .any → get .any T1 x = .any) ∧ (∀ z ∈ zd, get .any T1 z.d = .any) ∧ ∀ x, (∀ z ∈ zd, z.d ≠ x) → get .any T1 x = get .any T x
  | [], T, K, h => ⟨T, h, rfl, fun _ => .inr rfl, fun _ h => h, fun z hz => by simp at hz, fun _ _ => rfl⟩
  | z :: l, T, K, h => by
    simp only [clrT] at h
    rw [setK_eq] at h
    obtain ⟨T1, h1, h2, h3, h4, h5, h6⟩ := clrT_spec h
    have ha : get .any (set T z.d .any) z.d = .any := get_set_eq (.inr rfl)
    refine ⟨T1, h1, by rw [h2, set_eq]; simp, fun x => ?_, fun x hx => h4 x ?_, fun y hy => ?_, fun x hx => by rw [h6 x (fun y hy => hx y (by simp [hy])), get_set', if_neg (fun hh => hx z (by simp) hh.1.symm)]⟩
    · rcases h3 x with g | g
      · exact .inl g
      · by_cases hx : x = z.d
        · subst hx; rw [ha] at g; exact .inl g
        · rw [get_set', if_neg (fun hh => hx hh.1)] at g; exact .inr g
    · rw [get_set']
      split
      · rfl
      · exact hx
    · rcases List.mem_cons.1 hy with rfl | hy
      · exact h4 _ ha
      · exact h5 y hy
theorem clrT_triv : ∀ (zd : List LZ) (T : List V), clrT zd T (fun _ => True)
  | [], _ => trivial
  | z :: l, T => by simp only [clrT]; rw [setK_eq]; exact clrT_triv l _
theorem backT_triv : ∀ (zd : List LZ) (T : List V), backT zd T (fun _ => True)
  | [], _ => trivial
  | z :: l, T => by simp only [backT]; rw [setK_eq]; exact backT_triv l _
theorem backH_triv : ∀ (zd : List LZ) (H : List O), backH zd H (fun _ => True)
  | [], _ => trivial
  | z :: l, H => by
    simp only [backH]
    split
    · exact backH_triv l H
    · rw [setK_eq]; exact backH_triv l _
theorem backT_spec : ∀ {zd : List LZ} {T : List V} {K : List V → Prop}, backT zd T K → (∀ x ∈ zd, ∀ y ∈ zd, x.d = y.d → x.v = y.v) → (∀ x ∈ zd, T.length ≤ x.d → x.v = .any) → ∃ T1, K T1 ∧ T1.length = T.length ∧
    (∀ x, (∀ z ∈ zd, z.d ≠ x) → get .any T1 x = get .any T x) ∧ ∀ z ∈ zd, get .any T1 z.d = z.v
  | [], T, K, h, _, _ => ⟨T, h, rfl, fun _ _ => rfl, fun z hz => by simp at hz⟩
  | z :: l, T, K, h, hi, hr => by
    simp only [backT] at h
    rw [setK_eq] at h
    have hlen : (set T z.d z.v).length = T.length := by rw [set_eq]; simp
    obtain ⟨T1, h1, h2, h3, h4⟩ := backT_spec h (fun x hx y hy => hi x (by simp [hx]) y (by simp [hy])) (fun x hx hl => hr x (by simp [hx]) (by rw [hlen] at hl; exact hl))
    refine ⟨T1, h1, h2.trans hlen, fun x hx => ?_, fun y hy => ?_⟩
    · rw [h3 x (fun y hy => hx y (by simp [hy])), get_set', if_neg (fun hh => hx z (by simp) hh.1.symm)]
    · rcases List.mem_cons.1 hy with rfl | hy
      · by_cases hc : ∃ u ∈ l, u.d = y.d
        · obtain ⟨u, hu, he⟩ := hc
          rw [← he, h4 u hu]
          exact hi u (by simp [hu]) y (by simp) he
        · rw [h3 y.d (fun u hu he => hc ⟨u, hu, he⟩)]
          refine get_set_eq ?_
          by_cases hl : y.d < T.length
          · exact .inl hl
          · exact .inr (hr y (by simp) (by omega))
      · exact h4 y hy
theorem backH_spec : ∀ {zd : List LZ} {H : List O} {K : List O → Prop}, backH zd H K → (∀ x ∈ zd, ∀ y ∈ zd, x.ob.isSome = true → y.ob.isSome = true → x.id = y.id → x.ob = y.ob) → ∃ (H1 : List O), K H1 ∧ H1.length = H.length ∧
    (∀ i : Nat, (∀ z ∈ zd, z.ob.isSome = true → z.id ≠ i) → H1[i]? = H[i]?) ∧ ∀ z ∈ zd, ∀ b, z.ob = some b → z.id < H.length → H1[z.id]? = some b
  | [], H, K, h, _ => ⟨H, h, rfl, fun _ _ => rfl, fun z hz => by simp at hz⟩
  | z :: l, H, K, h, hi => by
    simp only [backH] at h
    have hi' : ∀ x ∈ l, ∀ y ∈ l, x.ob.isSome = true → y.ob.isSome = true → x.id = y.id → x.ob = y.ob := fun x hx y hy => hi x (by simp [hx]) y (by simp [hy])
    cases ho : z.ob with
    | none =>
      rw [ho] at h
      obtain ⟨H1, h1, h2, h3, h4⟩ := backH_spec h hi'
      refine ⟨H1, h1, h2, fun i hh => h3 i (fun y hy => hh y (by simp [hy])), fun y hy b hb hl => ?_⟩
      rcases List.mem_cons.1 hy with rfl | hy
      · rw [ho] at hb; cases hb
      · exact h4 y hy b hb hl
    | some b =>
      rw [ho] at h
      simp only [setK_eq, set_eq] at h
      obtain ⟨H1, h1, h2, h3, h4⟩ := backH_spec h hi'
      refine ⟨H1, h1, by rw [h2]; simp, fun i hh => ?_, fun y hy b' hb hl => ?_⟩
      · rw [h3 i (fun y hy => hh y (by simp [hy])), List.getElem?_set, if_neg (hh z (by simp) (by simp [ho]))]
      · rcases List.mem_cons.1 hy with rfl | hy
        · rw [ho] at hb
          cases hb
          by_cases hc : ∃ u ∈ l, u.ob.isSome = true ∧ u.id = y.id
          · obtain ⟨u, hu, hs, he⟩ := hc
            have := hi u (by simp [hu]) y (by simp) hs (by simp [ho]) he
            rw [← he]
            exact h4 u hu b (by rw [this, ho]) (by rw [he]; simpa using hl)
          · rw [h3 y.id (fun u hu hs he => hc ⟨u, hu, hs, he⟩), List.getElem?_set, if_pos rfl, if_pos hl]
        · exact h4 y hy b' hb (by simpa using hl)
theorem zSameK_spec {S : Sys} {ops : List Oper} {H0 : List O} {T : List V} {K : Prop} : ∀ {zd : List LZ}, zSameK S E ops H0 T K zd → K ∧ ∀ z ∈ zd, drawOp S E ops H0 T z.id z.o (fun v ob => v = z.v ∧ ob = z.ob)
  | [], h => ⟨h, fun z hz => by simp at hz⟩
  | z :: l, h => by
    simp only [zSameK] at h
    obtain ⟨v, ob, ⟨rfl, rfl, h1⟩, h2⟩ := drawOp_ex h
    obtain ⟨k1, k2⟩ := zSameK_spec h1
    refine ⟨k1, fun y hy => ?_⟩
    rcases List.mem_cons.1 hy with rfl | hy
    · exact h2
    · exact k2 y hy
theorem goneB_spec {H : List O} : ∀ {zd : List LZ}, goneB H zd = true → ∀ z ∈ zd, z.ob.isSome = true → H[z.id]? = some .gone
  | [], _, z, hz, _ => by simp at hz
  | y :: l, h, z, hz, hs => by
    simp only [goneB, Bool.and_eq_true] at h
    rcases List.mem_cons.1 hz with rfl | hz
    · cases ho : z.ob with
      | none => rw [ho] at hs; cases hs
      | some b =>
        have h1 := h.1
        rw [ho] at h1
        simp only [Bool.and_eq_true] at h1
        have hlt : z.id < H.length := by have := Nat.le_of_ble_eq_true h1.1; rw [len_eq] at this; exact this
        have h2 := h1.2
        rw [get_eq, List.getElem?_eq_getElem hlt] at h2
        rw [List.getElem?_eq_getElem hlt]
        simp only [Option.getD_some] at h2
        cases hx : H[z.id] <;> rw [hx] at h2 <;> first | rfl | cases h2
    · exact goneB_spec h.2 z hz hs
structure Late (ops : Array Oper) (p q n0 : Nat) (zs : List Nat) (zd : List LZ) (len : Nat) : Prop where
  ok : DOk ops p zs
  pq : p ≤ q
  qn : q ≤ ops.size
  mid : ∀ (j : Nat) (o : Oper), ops[j]? = some o → p ≤ j → j < q → midKind o.op = true ∧ ∀ x ∈ zd, o.dst ≠ some x.d
  fin : ∀ j, j < ops.size → q ≤ j → ∀ z ∈ zs, z ∈ closure ops.toList (j + 1) j
  to : ∀ z ∈ zs, ∃ x ∈ zd, ops[z]? = some x.o ∧ x.o.dst = some x.d
  of : ∀ x ∈ zd, ∃ z ∈ zs, ops[z]? = some x.o ∧ x.o.dst = some x.d
  dinj : ∀ x ∈ zd, ∀ y ∈ zd, x.d = y.d → x = y
  idinj : ∀ x ∈ zd, ∀ y ∈ zd, x.ob.isSome = true → y.ob.isSome = true → x.id = y.id → x = y
  rng : ∀ x ∈ zd, len ≤ x.d → x.v = .any
  idge : ∀ x ∈ zd, x.ob.isSome = true → n0 ≤ x.id
def Dn (ops : Array Oper) (zs : List Nat) (l : Array Bool) (x : LZ) : Prop := ∃ z, z ∈ zs ∧ ops[z]? = some x.o ∧ l.getD z false = true
structure LSt' (ops : Array Oper) (zs : List Nat) (zd : List LZ) (l : Array Bool) (T : List V) (H : List O) (T' : List V) (H' : List O) : Prop where
  tlen : T'.length = T.length
  hlen : H'.length = H.length
  ton : ∀ x ∈ zd, Dn ops zs l x → get .any T' x.d = x.v
  toff : ∀ y, (∀ x ∈ zd, Dn ops zs l x → x.d ≠ y) → get .any T' y = get .any T y
  hon : ∀ x ∈ zd, ∀ b, x.ob = some b → Dn ops zs l x → H'[x.id]? = some b
  hoff : ∀ i : Nat, (∀ x ∈ zd, x.ob.isSome = true → Dn ops zs l x → x.id ≠ i) → H'[i]? = H[i]?
theorem list_get_ext {T T' : List V} (hl : T'.length = T.length) (h : ∀ x, get .any T' x = get .any T x) : T' = T := by
  apply List.ext_getElem hl
  intro x h1 h2
  have := h x
  rw [get_eq, get_eq, List.getElem?_eq_getElem h1, List.getElem?_eq_getElem h2] at this
  exact this
def RE : Rel := fun I W w I' W' w' => Step I W w I' W' w' ∧ ∀ (id : Nat) (e : Option Nat × Nat), W.eta[id]? = some e → W'.eta[id]? = some e
theorem relH_RE : RelH RE := ⟨fun h k => ⟨h, k⟩⟩
theorem RE.tr {I W w I' W' w' I'' W'' w''} (h : RE I W w I' W' w') (k : RE I' W' w' I'' W'' w'') : RE I W w I'' W'' w'' := ⟨h.1.trans k.1, fun id e he => k.2 id e (h.2 id e he)⟩
section
variable {r : Option Nat} {n : Nat} {Q : Exit → Act → World → Prop}
theorem midOp_sound (hE : EnvOk E P) {T : List V} {H : List O} {o : Oper} {K : KT} {I : Nat → Prop} {η : Eta} {w : World} {a : Act} (hk : midKind o.op = true) (hg : Good I η w T H a) (h : midOp (sys P) E T H o K) :
    o.wpIn (Fw r) n P a w (fun a' w' => After RE I (own η H) w a.defers K a' w' ∧ ∃ x, a' = a.put o.dst x) Q := by
  have hd : ∀ c, o.op ≠ .defer c := by intro c hc; rw [hc] at hk; cases hk
  have hn : ∀ x, o.op = .nilCheck x → ∃ q, a.eval x = .pointer (some q) := by
    intro x hx
    unfold midOp stepPure at h
    rw [hx] at h
    simp only [pureOp] at h
    have hv : (∃ v, nilCheckV (ev T x) = .ok v) ∧ There T x := by
      cases hv : nilCheckV (ev T x) with
      | ok v =>
        rw [hv] at h
        exact ⟨⟨v, rfl⟩, (conds_true trivial h).1 x (by simp [condOps, Op.operands])⟩
      | need c v => unfold nilCheckV at hv; split at hv <;> cases hv
      | bad =>
        rw [hv] at h
        have h9 := (conds_true trivial h).2
        have hg0 : isGrid T H o = false := by unfold isGrid; rw [hx]
        rw [hg0] at h9
        exact h9.elim
    obtain ⟨⟨v, hv⟩, hth⟩ := hv
    have hx := ev_den hg.tmp hth
    unfold nilCheckV at hv
    split at hv
    · rename_i he; rw [he] at hx; obtain ⟨b, c, _, e⟩ := hx; exact ⟨_, e⟩
    · rename_i he; rw [he] at hx; obtain ⟨b, c, _, e⟩ := hx; exact ⟨_, e⟩
    · rename_i he; rw [he] at hx; obtain ⟨b, c, _, e, _⟩ := hx; exact ⟨_, e⟩
    · cases hv
  by_cases hcl : ∃ c ar ty, o.op = .call { callee := .value c, args := ar, argTypes := ty }
  · obtain ⟨f, ar, ty, hop⟩ := hcl
    unfold midOp stepPure at h
    rw [hop] at h
    simp only [pureOp] at h
    obtain ⟨hth, h2⟩ := conds_true trivial h
    have hgr : isGrid T H o = false := by unfold isGrid; rw [hop]
    rw [hgr] at h2
    simp only [cond_false] at h2
    split at h2
    · rename_i g first cap hf
      rw [forceL_eq, app_eq, app_eq] at h2
      have hfo : f ∈ o.op.operands.toList := by simp [hop, Op.operands, Call.operands]
      have hfd := ev_den hg.tmp (hth f (by simp [Op.operands, Call.operands]))
      rw [hf] at hfd
      obtain ⟨as, bs, hfv, had, hbd⟩ := hfd
      have hargs := evs_den hg.tmp ar.toList (fun x hx => hth x (by simp [Op.operands, Call.operands]; exact .inr (by simpa using hx)))
      rcases h2 with ⟨v, hp, hk2⟩ | ⟨R0, hp, hk2⟩ | ⟨ps, ids, args', R0, hfz, hps, hp, hk2⟩
      · rw [force_eq, putK_eq] at hk2
        obtain ⟨hpl, hcall⟩ := pcall_run2 hg.sat (fun _ _ h => h) hp (had.append (hargs.append hbd))
        refine ⟨fun _ _ => trivial, ?_⟩
        rw [Oper.semAt_eq _ _ _ hd, call_run hop hfv hpl]
        refine ⟨fun hsome => by simp [Fw] at hsome, calls_fw (hcall.mono ?_)⟩
        rintro e' w' ⟨x, rfl, s1, s2, s3, s4⟩
        exact ⟨⟨Act.put_defers' _ _ _, grow I w w', η, _, H, hk2, ⟨s1, (hg.tmp.mono s3).put s2⟩, s4, fun _ _ hh => hh⟩, x, rfl⟩
      · unfold sys NNew at hp
        obtain ⟨hfo2, hpl, hc⟩ := hp
        refine ⟨fun _ _ => trivial, ?_⟩
        rw [Oper.semAt_eq _ _ _ hd, call_run hop hfv hpl]
        refine ⟨fun hsome => by simp [Fw] at hsome, calls_fw ((hc I w _ hg.sat.ilt (fo_nil_list _ _ hfo2 (had.append (hargs.append hbd)))).mono ?_)⟩
        rintro e w' ⟨I', η', H', ret, v, rfl, hr, hS', hden, hst⟩
        obtain ⟨s1, s2, s3⟩ := hg.sat.join hS' hst
        have hk3 := hk2 ret H' hr
        rw [lenK_eq, force_eq, appK_eq, putK_eq] at hk3
        exact ⟨⟨Act.put_defers' _ _ _, I', η ++ η', _, _, hk3, ⟨s1, (hg.tmp.mono s2).put (Den.shift (fun j e he => by rw [List.getElem?_append_right (by rw [hg.sat.len]; omega), hg.sat.len]; simpa using he) _ _ hden)⟩, s3, fun id e he => by have he : η[id]? = some e := he; show (η ++ η')[id]? = some e; rw [List.getElem?_append_left (List.getElem?_eq_some_iff.1 he).1]; exact he⟩, v, rfl⟩
      · obtain ⟨q1, q2, q3⟩ := hg.sat.freeze ids
        have hd' := frzL_sound (J := frzI I η H ids) (C := fun id => ∀ e o b, η[id]? = some e → H[id]? = some o → o.has e b → frzI I η H ids b) (fun v v' ps ids x => frzV_sound hg.sat.obj (fun b hb => .inl hb) 8 v v' ps ids x) _ args' ps ids _ hfz hps
          (fun id hid e o b he ho hb => .inr ⟨id, hid, e, o, he, ho, hb⟩) (had.append (hargs.append hbd))
        unfold sys NNew at hp
        obtain ⟨hfo2, hpl, hc⟩ := hp
        refine ⟨fun _ _ => trivial, ?_⟩
        rw [Oper.semAt_eq _ _ _ hd, call_run hop hfv hpl]
        refine ⟨fun hsome => by simp [Fw] at hsome, calls_fw ((hc _ w _ q1.ilt hd').mono ?_)⟩
        rintro e w' ⟨I', η', H', ret, v, rfl, hr, hS', hden, hst⟩
        obtain ⟨s1, s2, s3⟩ := q1.join hS' hst
        have hk3 := hk2 ret H' hr
        rw [goneK_eq, lenK_eq, force_eq, appK_eq, putK_eq] at hk3
        exact ⟨⟨Act.put_defers' _ _ _, I', η ++ η', _, _, hk3, ⟨s1, ((hg.tmp.mono q2).mono s2).put (Den.shift (fun j e he => by rw [List.getElem?_append_right (by rw [q1.len]; omega), q1.len]; simpa using he) _ _ hden)⟩, q3.trans s3, fun id e he => by have he : η[id]? = some e := he; show (η ++ η')[id]? = some e; rw [List.getElem?_append_left (List.getElem?_eq_some_iff.1 he).1]; exact he⟩, v, rfl⟩
    · exact h2.elim
  have hcl : ∀ c ar ty, o.op ≠ .call { callee := .value c, args := ar, argTypes := ty } := fun c ar ty e => hcl ⟨c, ar, ty, e⟩
  refine wpIn_put hk hcl hn ?_
  rcases stepPure_sound relH_RE hE (r := r) (n := n) (Q := Q) hg h hd with h1 | h1
  · exact h1
  · obtain ⟨hth, h2⟩ := conds_true trivial h1
    cases hgr : isGrid T H o with
    | true =>
      rw [hgr] at h2
      exact gridOp_sound relH_RE hE hg h2 hth
    | false =>
      rw [hgr] at h2
      simp only [cond_false] at h2
      split at h2
      · exact heapOp_sound relH_RE hE hg h2 hth
      · exact sliceOp_sound relH_RE hE hg h2 hth
      · rename_i hop
        exact (hcl _ _ _ hop).elim
      · exact extOp_sound relH_RE hE hg h2 hth
      · exact extOp_sound relH_RE hE hg h2 hth
      · exact h2.elim
theorem noObj_spec : ∀ {zd : List LZ}, noObj zd = true → ∀ x ∈ zd, x.ob = none
  | [], _, x, hx => by cases hx
  | z :: l, h, x, hx => by
    simp only [noObj, Bool.and_eq_true, Option.isNone_iff_eq_none] at h
    rcases List.mem_cons.1 hx with rfl | hx
    · exact h.1
    · exact noObj_spec h.2 x hx
theorem stepCall_sound {R : Rel} (hR : RelOk R) (hE : EnvOk E P) {T : List V} {H : List O} {o : Oper} {K : KT} {I : Nat → Prop} {η : Eta} {w : World} {a : Act} (hk : isCallOp o.op = true) (hg : Good I η w T H a) (h : stepOp (sys P) E T H o K) :
    o.wpIn (Fw r) n P a w (fun a' w' => (a'.defers = a.defers ∧ ∃ I' η' T' H', K T' H' ∧ Good I' η' w' T' H' a' ∧ R I (own η H) w I' (own η' H') w' ∧ Mono I η w I' η' w') ∧ ∃ x, a' = a.put o.dst x) Q := by
  have hd : ∀ c, o.op ≠ .defer c := by intro c hc; rw [hc] at hk; cases hk
  by_cases hv : ∃ c ar ty, o.op = .call { callee := .value c, args := ar, argTypes := ty }
  · obtain ⟨fo, args, ty, hop⟩ := hv
    unfold stepOp stepPure at h
    rw [hop] at h
    simp only [pureOp] at h
    obtain ⟨ht, h2⟩ := conds_true trivial h
    have hgr : isGrid T H o = false := by unfold isGrid; rw [hop]
    have hex : isExt T o = false := by unfold isExt; rw [hop]
    have hfz : isFrz T o = false := by unfold isFrz; rw [hop]
    rw [hgr, hex, hfz] at h2
    simp only [cond_false] at h2
    unfold callOp at h2
    rw [hop] at h2
    simp only at h2
    split at h2
    · rename_i g first cap hf
      rw [forceL_eq, app_eq, app_eq] at h2
      have hfd := ev_den hg.tmp (ht fo (by simp [Op.operands, Call.operands]))
      rw [hf] at hfd
      obtain ⟨as, bs, hfv, had, hbd⟩ := hfd
      have hargs := evs_den hg.tmp args.toList (fun x hx => ht x (by simp [Op.operands, Call.operands]; exact .inr (by simpa using hx)))
      have hall : DenL I η w (first ++ (evs T args.toList ++ cap)) (as ++ (args.toList.map a.eval ++ bs)) := had.append (hargs.append hbd)
      unfold sys Callee at h2
      obtain ⟨⟨fn, hfn, hnm, hbody⟩, hcall⟩ := h2
      have hc := hcall I η w _ hg.sat hall
      refine ⟨fun _ _ => trivial, ?_⟩
      rw [Oper.semAt_eq _ _ _ hd, call_run hop hfv ⟨fn, hfn, hnm, hbody⟩]
      refine ⟨fun hsome => by simp [Fw] at hsome, calls_fw (hc.mono ?_)⟩
      rintro e w' ⟨I', η', H', ret, v, rfl, hk, hs, hden, hm, hr⟩
      rw [putK_eq] at hk
      exact ⟨⟨Act.put_defers' _ _ _, I', η', _, H', hk, ⟨hs, (hg.tmp.mono hm).put hden⟩, hR.step hr, hm⟩, v, rfl⟩
    · rename_i id hf
      rw [forceL_eq] at h2
      have hfd := ev_den hg.tmp (ht fo (by simp [Op.operands, Call.operands]))
      rw [hf] at hfd
      have hargs := evs_den hg.tmp args.toList (fun x hx => ht x (by simp [Op.operands, Call.operands]; exact .inr (by simpa using hx)))
      unfold sys YCall at h2
      obtain ⟨b, c, fn, tmps, assign, body, hη, hinv, hround⟩ := h2 I η w _ hg.sat hargs
      obtain ⟨b', c', hη', hfv⟩ := hfd
      rw [hη] at hη'
      cases hη'
      refine ⟨fun _ _ => trivial, ?_⟩
      rw [Oper.semAt_eq _ _ _ hd]
      have hrun : (execOp a.eval o).run P w = .ok (.round b fn tmps assign body) w := by
        rw [← hinv]
        have hmap : Array.map a.eval args = (List.map a.eval args.toList).toArray := by rw [← Array.toList_map, Array.toArray_toList]
        simp only [execOp, hop, resolve, hfv, Deferred.ofValue, Sem.run_bind, Sem.run_pure, Result.andThen_ok, hmap]
        simp
      rw [hrun]
      refine ⟨fun hsome => by simp [Fw] at hsome, round_fw (hround.mono ?_)⟩
      rintro e w' ⟨I', η', H', ret, v, rfl, hk, hs, hden, hm, hr⟩
      rw [putK_eq] at hk
      exact ⟨⟨Act.put_defers' _ _ _, I', η', _, H', hk, ⟨hs, (hg.tmp.mono hm).put hden⟩, hR.step hr, hm⟩, v, rfl⟩
    · rename_i D hf
      rw [forceL_eq] at h2
      have hfd := ev_den hg.tmp (ht fo (by simp [Op.operands, Call.operands]))
      rw [hf] at hfd
      have hargs := evs_den hg.tmp args.toList (fun x hx => ht x (by simp [Op.operands, Call.operands]; exact .inr (by simpa using hx)))
      unfold sys SCall at h2
      obtain ⟨g, as, bs, hfv, ⟨fn, hfn, hnm, hbody⟩, hc⟩ := h2 I η w _ _ hg.sat hfd hargs
      refine ⟨fun _ _ => trivial, ?_⟩
      rw [Oper.semAt_eq _ _ _ hd]
      have hrun : (execOp a.eval o).run P w = .ok (.enter g (as ++ (args.toList.map a.eval).toArray ++ bs)) w := by
        have hb' : fn.body.isNone = false := hbody
        have hmap : Array.map a.eval args = (List.map a.eval args.toList).toArray := by rw [← Array.toList_map, Array.toArray_toList]
        simp only [execOp, hop, resolve, hfv, Deferred.ofValue, Sem.run_bind, Sem.run_pure, Result.andThen_ok, invoke, callFunc, run_program, hfn, hnm, hb', hmap]
        simp
      rw [hrun]
      refine ⟨fun hsome => by simp [Fw] at hsome, calls_fw (hc.mono ?_)⟩
      rintro e w' ⟨I', η', H', ret, v, rfl, hk, hs, hden, hm, hr⟩
      rw [putK_eq] at hk
      exact ⟨⟨Act.put_defers' _ _ _, I', η', _, H', hk, ⟨hs, (hg.tmp.mono hm).put hden⟩, hR.step hr, hm⟩, v, rfl⟩
    · exact h2.elim
  · have hcl : ∀ c ar ty, o.op ≠ .call { callee := .value c, args := ar, argTypes := ty } := fun c ar ty e => hv ⟨c, ar, ty, e⟩
    have hop : (∃ args ty, o.op = .call { callee := .builtin .append, args := args, argTypes := ty }) ∨ (∃ args ty, o.op = .call { callee := .builtin .copy, args := args, argTypes := ty }) ∨ ∃ t k ps, o.op = .buildSlice t k ps := by
      unfold isCallOp at hk
      split at hk
      · exact .inl ⟨_, _, by assumption⟩
      · exact .inr (.inl ⟨_, _, by assumption⟩)
      · exact .inr (.inr ⟨_, _, _, by assumption⟩)
      · rename_i he; exact (hcl _ _ _ he).elim
      · cases hk
    have hmk : midKind o.op = true := by rcases hop with ⟨_, _, hop⟩ | ⟨_, _, hop⟩ | ⟨_, _, _, hop⟩ <;> rw [hop] <;> rfl
    have hn : ∀ x, o.op = .nilCheck x → ∃ q, a.eval x = .pointer (some q) := by intro x hx; rcases hop with ⟨_, _, hop⟩ | ⟨_, _, hop⟩ | ⟨_, _, _, hop⟩ <;> rw [hop] at hx <;> cases hx
    have main : o.wpIn (Fw r) n P a w (After RE I (own η H) w a.defers K) Q := by
      unfold stepOp at h
      rcases stepPure_sound relH_RE hE (r := r) (n := n) (Q := Q) hg h hd with h1 | h1
      · exact h1
      · obtain ⟨ht, h2⟩ := conds_true trivial h1
        by_cases hgr : isGrid T H o = true
        · rw [hgr] at h2
          exact gridOp_sound relH_RE hE hg h2 ht
        rw [Bool.not_eq_true] at hgr
        rw [hgr] at h2
        simp only [cond_false] at h2
        by_cases hex : isExt T o = true
        · rw [hex] at h2
          exact extOp_sound relH_RE hE hg h2 ht
        rw [Bool.not_eq_true] at hex
        rw [hex] at h2
        simp only [cond_false] at h2
        by_cases hfz : isFrz T o = true
        · rw [hfz] at h2
          exact frzOp_sound relH_RE RE.tr hE hg h2 ht
        rw [Bool.not_eq_true] at hfz
        rw [hfz] at h2
        simp only [cond_false] at h2
        rcases hop with ⟨_, _, hop⟩ | ⟨_, _, hop⟩ | ⟨_, _, _, hop⟩
        · rw [hop] at h2
          exact sliceOp_sound relH_RE hE hg h2 ht
        · rw [hop] at h2
          exact sliceOp_sound relH_RE hE hg h2 ht
        · rw [hop] at h2
          exact sliceOp_sound relH_RE hE hg h2 ht
    refine Oper.wpIn_mono ?_ (wpIn_put hmk hcl hn main)
    rintro a' w' ⟨⟨g1, I1, η1, T1, H1, g2, g3, g4, g5⟩, x, e⟩
    exact ⟨⟨g1, I1, η1, T1, H1, g2, g3, hR.step g4, ⟨fun id e he _ => g5 id e he, g4.imono, fun b hb => g4.block b (hg.sat.ilt b hb) (fun ho => hg.sat.notI b ho hb)⟩⟩, x, e⟩
theorem mem_sureZ {ops : List Oper} {zs : List Nat} {k : Nat} : ∀ {zd : List LZ} {x : LZ}, x ∈ sureZ ops zs k zd → x ∈ zd ∧ ∃ z ∈ zs, z ∈ closure ops (k + 1) k ∧ ∃ o, ops[z]? = some o ∧ o.dst = some x.d
  | [], x, h => by simp [sureZ] at h
  | y :: l, x, h => by
    simp only [sureZ, cond_eq_ite] at h
    split at h
    · rename_i hb
      rcases List.mem_cons.1 h with rfl | h
      · rw [List.any_eq_true] at hb
        obtain ⟨z, hz, hb⟩ := hb
        simp only [Bool.and_eq_true] at hb
        obtain ⟨h1, h2⟩ := hb
        cases ho : (ops[z]? : Option Oper) with
        | none => rw [ho] at h2; cases h2
        | some o =>
          rw [ho] at h2
          exact ⟨by simp, z, hz, by simpa using h1, o, ho, by simpa using h2⟩
      · obtain ⟨h1, h2⟩ := mem_sureZ h
        exact ⟨by simp [h1], h2⟩
    · obtain ⟨h1, h2⟩ := mem_sureZ h
      exact ⟨by simp [h1], h2⟩
theorem keptH_spec {H : List O} {K : Prop} : ∀ {zd : List LZ}, keptH H K zd → K ∧ ∀ x ∈ zd, ∀ b, x.ob = some b → get .gone H x.id = b
  | [], h => ⟨h, fun x hx => by simp at hx⟩
  | z :: l, h => by
    simp only [keptH] at h
    cases ho : z.ob with
    | none =>
      rw [ho] at h
      obtain ⟨h1, h2⟩ := keptH_spec h
      refine ⟨h1, fun x hx b hb => ?_⟩
      rcases List.mem_cons.1 hx with rfl | hx
      · rw [ho] at hb; cases hb
      · exact h2 x hx b hb
    | some b0 =>
      rw [ho] at h
      obtain ⟨h1, h2⟩ := keptH_spec h.2
      refine ⟨h1, fun x hx b hb => ?_⟩
      rcases List.mem_cons.1 hx with rfl | hx
      · rw [ho] at hb; cases hb; exact h.1
      · exact h2 x hx b hb
theorem late_sound {R : Rel} (hR : RelOk R) (hE : EnvOk E P) {ops : Array Oper} {p q n0 len : Nat} {zs : List Nat} {zd : List LZ} (L : Late ops p q n0 zs zd len) {K2 : KT} {I₀ : Nat → Prop} {W₀ : Own} {w₀ : World} {ds : List Deferred}
    (hfin : ∀ (m : Nat) (l : Array Bool) (T : List V) (H : List O) (I : Nat → Prop) (η : Eta) (a : Act) (w : World), l.size = ops.size → l.count false = m → Down ops l → (∀ j, j < ops.size → (l.getD j false = true ↔ j < q)) → K2 T H → Good I η w T H a → a.defers = ds → R I₀ W₀ w₀ I (own η H) w → wpAnyIn (Fw r) n P .any ops Q m l a w) :
    ∀ (m k : Nat) (l : Array Bool) (T : List V) (H : List O) (I : Nat → Prop) (η : Eta) (a : Act) (w : World) (T' : List V) (H' : List O), p ≤ k → k ≤ q → l.size = ops.size → l.count false = m → Down ops l → (∀ j, j < ops.size → j ∉ zs → (l.getD j false = true ↔ j < k)) →
      lateOps (sys P) E ops.toList n0 zs zd K2 k ((ops.toList.drop k).take (q - k)) T H → (∀ x ∈ zd, get .any T x.d = .any) → T.length = len → LSt' ops zs zd l T H T' H' → Good I η w T' H' a →
      (∀ x ∈ zd, ∀ b, x.ob = some b → ¬ Dn ops zs l x → η[x.id]? = some (none, 1)) → a.defers = ds → R I₀ W₀ w₀ I (own η H') w → wpAnyIn (Fw r) n P .any ops Q m l a w := by
  -- all have come
  have fin1 : ∀ (m : Nat) (l : Array Bool) (T : List V) (H : List O) (I : Nat → Prop) (η : Eta) (a : Act) (w : World) (T' : List V) (H' : List O), l.size = ops.size → l.count false = m → Down ops l → (∀ j, j < ops.size → j ∉ zs → (l.getD j false = true ↔ j < q)) →
      lateOps (sys P) E ops.toList n0 zs zd K2 q [] T H → T.length = len → LSt' ops zs zd l T H T' H' → Good I η w T' H' a → a.defers = ds → R I₀ W₀ w₀ I (own η H') w → (∀ z ∈ zs, l.getD z false = true) → wpAnyIn (Fw r) n P .any ops Q m l a w := by
    intro m l T H I η a w T' H' hs hc hdn hl h hTl st hg hds hr hall
    have hDn : ∀ x ∈ zd, Dn ops zs l x := fun x hx => by
      obtain ⟨z, hz, ho, _⟩ := L.of x hx
      exact ⟨z, hz, ho, hall z hz⟩
    simp only [lateOps, cond_eq_ite] at h
    split at h
    · rename_i hgn
      obtain ⟨Tr, h1, h2, h3, h4⟩ := backT_spec h (fun x hx y hy e => by rw [L.dinj x hx y hy e]) (fun x hx hl => L.rng x hx (by rw [← hTl]; exact hl))
      obtain ⟨h5, _⟩ := zSameK_spec h1
      obtain ⟨Hr, h6, h7, h8, h9⟩ := backH_spec h5 (fun x hx y hy s1 s2 e => by rw [L.idinj x hx y hy s1 s2 e])
      have eT : T' = Tr := by
        refine list_get_ext (by rw [st.tlen, h2]) (fun x => ?_)
        by_cases hx : ∃ y ∈ zd, y.d = x
        · obtain ⟨y, hy, rfl⟩ := hx
          rw [st.ton y hy (hDn y hy), h4 y hy]
        · rw [st.toff x (fun y hy _ e => hx ⟨y, hy, e⟩), h3 x (fun y hy e => hx ⟨y, hy, e⟩)]
      have eH : H' = Hr := by
        apply List.ext_getElem?
        intro i
        by_cases hx : ∃ y ∈ zd, y.ob.isSome = true ∧ y.id = i
        · obtain ⟨y, hy, hsm, rfl⟩ := hx
          obtain ⟨b, hb⟩ := Option.isSome_iff_exists.1 hsm
          have hlt : y.id < H.length := (List.getElem?_eq_some_iff.1 (goneB_spec hgn y hy hsm)).1
          rw [st.hon y hy b hb (hDn y hy), h9 y hy b hb hlt]
        · rw [st.hoff i (fun y hy hsm _ e => hx ⟨y, hy, hsm, e⟩), h8 i (fun y hy hsm e => hx ⟨y, hy, hsm, e⟩)]
      subst eT eH
      refine hfin m l T' H' I η a w hs hc hdn (fun j hj => ?_) h6 hg hds hr
      by_cases hz : j ∈ zs
      · exact ⟨fun _ => by have := L.ok.zlt j hz; have := L.pq; omega, fun _ => hall j hz⟩
      · exact hl j hj hz
    · exact h.elim
  intro m
  induction m with
  | zero =>
    intro k l T H I η a w T' H' hpk hkq hs hc hdn hl h hcl hTl st hg hpend hds hr
    have hkq' : k = q := by
      rcases Nat.lt_or_ge k q with h1 | h1
      · have hk : k < ops.size := by have := L.qn; omega
        have := (hl k hk (fun hz => by have := L.ok.zlt k hz; omega)).1 (count_zero hc k (by omega)); omega
      · omega
    subst hkq'
    rw [Nat.sub_self, List.take_zero] at h
    exact fin1 0 l T H I η a w T' H' hs hc hdn hl h hTl st hg hds hr (fun z hz => count_zero hc z (by have := L.ok.zlt z hz; have := L.ok.le; omega))
  | succ m ih =>
    intro k l T H I η a w T' H' hpk hkq hs hc hdn hl h hcl hTl st hg hpend hds hr
    by_cases hend : k = q ∧ ∀ z ∈ zs, l.getD z false = true
    · obtain ⟨rfl, hall⟩ := hend
      rw [Nat.sub_self, List.take_zero] at h
      exact fin1 (m + 1) l T H I η a w T' H' hs hc hdn hl h hTl st hg hds hr hall
    · have stage : goneB H zd = true ∧ ∃ Tr, Tr.length = T.length ∧ (∀ x, (∀ z ∈ zd, z.d ≠ x) → get .any Tr x = get .any T x) ∧ (∀ z ∈ zd, get .any Tr z.d = z.v) ∧
          (∀ z ∈ zd, drawOp (sys P) E ops.toList (take n0 H) Tr z.id z.o (fun v ob => v = z.v ∧ ob = z.ob)) ∧ (∀ o rest, (ops.toList.drop k).take (q - k) = o :: rest → backT (sureZ ops.toList zs k zd) T fun T => backH (sureZ ops.toList zs k zd) H fun H => midG (sys P) E ops.toList zd T H o fun T H => keptH H (hideK (sureZ ops.toList zs k zd) T H fun T H => clrT zd T fun T => lateOps (sys P) E ops.toList n0 zs zd K2 (k + 1) rest T H) (sureZ ops.toList zs k zd)) := by
        cases hlist : (ops.toList.drop k).take (q - k) with
        | nil =>
          rw [hlist] at h
          simp only [lateOps, cond_eq_ite] at h
          split at h
          · rename_i hgn
            obtain ⟨Tr, h1, h2, h3, h4⟩ := backT_spec h (fun x hx y hy e => by rw [L.dinj x hx y hy e]) (fun x hx hl => L.rng x hx (by rw [← hTl]; exact hl))
            exact ⟨hgn, Tr, h2, h3, h4, (zSameK_spec h1).2, fun o rest e => by cases e⟩
          · exact h.elim
        | cons o rest =>
          rw [hlist] at h
          simp only [lateOps, cond_eq_ite] at h
          split at h
          · rename_i hgn
            obtain ⟨Tr, h1, h2, h3, h4⟩ := backT_spec h (fun x hx y hy e => by rw [L.dinj x hx y hy e]) (fun x hx hl => L.rng x hx (by rw [← hTl]; exact hl))
            exact ⟨hgn, Tr, h2, h3, h4, (zSameK_spec h1).2, fun o' rest' e => by cases e; exact (zSameK_spec h1).1⟩
          · exact h.elim
      obtain ⟨hgn, Tr, r1, r2, r3, r4, r5⟩ := stage
      constructor
      · intro hnil
        have : ∃ i, i < ops.size ∧ ¬ l.getD i false = true := by
          have hm : false ∈ l := by
            apply Classical.byContradiction
            intro hm
            rw [← Array.count_eq_zero] at hm
            omega
          obtain ⟨i, hi, he⟩ := Array.mem_iff_getElem.1 hm
          exact ⟨i, by omega, by simp [hi, he]⟩
        obtain ⟨i, hi, hn⟩ := this
        exact (least_ready L.ok.toDTail hs i hi hn hnil).elim
      · intro i hi
        rw [mem_ready] at hi
        obtain ⟨h0, o, ho, hall⟩ := hi
        have hlt := (Array.getElem?_eq_some_iff.1 ho).1
        have hnl : ¬ l.getD i false = true := (getD_tf (by omega)).1 h0
        have hdn' : Down ops (l.setIfInBounds i true) := by
          intro j o2 ho2 hj e he hb
          rw [getD_set (by omega)] at hj ⊢
          rcases hj with rfl | hj
          · rw [ho] at ho2; cases ho2
            exact .inr (hall e he hb)
          · exact .inr (hdn j o2 ho2 hj e he hb)
        have uniq : ∀ z ∈ zs, ∀ z' ∈ zs, ∀ x ∈ zd, ops[z]? = some x.o → ops[z']? = some x.o → z = z' := by
          intro z hz z' hz' x hx e1 e2
          refine Classical.byContradiction fun hne => L.ok.apart z z' x.o x.o (L.ok.zlt z hz) (L.ok.zlt z' hz') e1 e2 hne rfl
        unfold wpOpIn
        simp only [ho]
        by_cases hz : i ∈ zs
        · obtain ⟨x, hx, hxo, hxd⟩ := L.to i hz
          rw [ho] at hxo
          have hxo : o = x.o := Option.some.inj hxo
          have hnd : ¬ Dn ops zs l x := by
            rintro ⟨z, hz', ho', hl'⟩
            have := uniq z hz' i hz x hx ho' (by rw [ho, hxo])
            subst this
            exact hnl hl'
          have hDn : ∀ y ∈ zd, (Dn ops zs (l.setIfInBounds i true) y ↔ y.o = o ∨ Dn ops zs l y) := by
            intro y hy
            constructor
            · rintro ⟨z, hz', ho', hl'⟩
              rw [getD_set (by omega)] at hl'
              rcases hl' with rfl | hl'
              · rw [ho] at ho'; exact .inl (Option.some.inj ho').symm
              · exact .inr ⟨z, hz', ho', hl'⟩
            · rintro (e | ⟨z, hz', ho', hl'⟩)
              · exact ⟨i, hz, by rw [ho, e], by rw [getD_set (by omega)]; exact .inl rfl⟩
              · exact ⟨z, hz', ho', by rw [getD_set (by omega)]; exact .inr hl'⟩
          have hfact := drawOp_fact hR hE (r4 x hx)
          rw [← hxo] at hfact
          have hag : ∀ t ∈ looks ops.toList o, get .any T' t = get .any Tr t := by
            intro t ht
            by_cases hy : ∃ y ∈ zd, y.d = t
            · obtain ⟨y, hy, rfl⟩ := hy
              obtain ⟨z, hz', ho', hd'⟩ := L.of y hy
              obtain ⟨_, e, he, hb, hon⟩ := L.ok.look i z o y.o (L.ok.zlt i hz) (L.ok.zlt z hz') ho ho' y.d ht hd'
              have hdone := hall e he hb
              rw [hon] at hdone
              rw [st.ton y hy ⟨z, hz', ho', hdone⟩, r3 y hy]
            · rw [st.toff t (fun y hy' _ e => hy ⟨y, hy', e⟩), r2 t (fun y hy' e => hy ⟨y, hy', e⟩)]
          have hold : ∀ (j : Nat) (oo : O), (take n0 H)[j]? = some oo → H'[j]? = some oo := by
            intro j oo hj
            rw [take_eq, List.getElem?_take] at hj
            split at hj
            · rename_i hjn
              rw [st.hoff j (fun y hy hsm _ e => by have := L.idge y hy hsm; omega)]
              exact hj
            · cases hj
          have hplace : x.ob.isSome = true → η[x.id]? = some (none, 1) ∧ H'[x.id]? = some .gone := by
            intro hsm
            obtain ⟨b, hb⟩ := Option.isSome_iff_exists.1 hsm
            refine ⟨hpend x hx b hb hnd, ?_⟩
            rw [st.hoff x.id (fun y hy hys hyd e => ?_)]
            · exact goneB_spec hgn x hx hsm
            · have eo := L.idinj y hy x hx hys hsm e
              subst eo
              exact hnd hyd
          have := hfact r n Q I η w a T' H' hag hold hg hplace
          have next : ∀ (a'' : Act) (w'' : World), (a''.defers = a.defers ∧ ∃ I'' η'', Good I'' η'' w'' (match o.dst with | some d => set T' d x.v | none => T') (match x.ob with | some b => H'.set x.id b | none => H') a'' ∧
              (∀ (j : Nat), j ≠ x.id → η''[j]? = η[j]?) ∧ (x.ob = none → η'' = η) ∧ R I (own η H') w I'' (own η'' (match x.ob with | some b => H'.set x.id b | none => H')) w'') → wpAnyIn (Fw r) n P .any ops Q m (l.setIfInBounds i true) a'' w'' := by
            rintro a'' w'' ⟨hds', I'', η'', hg'', hη1, hη2, hr''⟩
            rw [hxo, hxd] at hg''
            simp only at hg''
            refine ih k (l.setIfInBounds i true) T H I'' η'' a'' w'' _ _ hpk hkq (by simpa using hs) (count_set h0 hc) hdn' (fun j hj hjz => ?_) h hcl hTl ?_ hg'' ?_ (hds'.trans hds) (hR.trans hr hr'')
            · rw [getD_set (by omega), hl j hj hjz]
              constructor
              · rintro (rfl | hh)
                · exact (hjz hz).elim
                · exact hh
              · exact .inr
            · refine ⟨by rw [set_eq]; simpa using st.tlen, ?_, fun y hy hyd => ?_, fun y hy => ?_, fun y hy b hb hyd => ?_, fun j hj => ?_⟩
              · split
                · simpa using st.hlen
                · exact st.hlen
              · rcases (hDn y hy).1 hyd with e | e
                · have hyd' : y.d = x.d := by
                    obtain ⟨z, _, _, hd'⟩ := L.of y hy
                    rw [e, hxo, hxd] at hd'
                    exact (Option.some.inj hd').symm
                  rw [hyd', L.dinj y hy x hx hyd']
                  refine get_set_eq ?_
                  by_cases hlt2 : x.d < T'.length
                  · exact .inl hlt2
                  · exact .inr (L.rng x hx (by rw [← hTl, ← st.tlen]; omega))
                · by_cases hyx : y.d = x.d
                  · rw [L.dinj y hy x hx hyx] at e
                    exact (hnd e).elim
                  · rw [get_set', if_neg (fun hh => hyx hh.1)]
                    exact st.ton y hy e
              · have hxy : x.d ≠ y := hy x hx ((hDn x hx).2 (.inl hxo.symm))
                rw [get_set', if_neg (fun hh => hxy hh.1.symm)]
                exact st.toff y (fun u hu hud => hy u hu ((hDn u hu).2 (.inr hud)))
              · rcases (hDn y hy).1 hyd with e | e
                · have hyx : y.d = x.d := by
                    obtain ⟨z, _, _, hd'⟩ := L.of y hy
                    rw [e, hxo, hxd] at hd'
                    exact (Option.some.inj hd').symm
                  have := L.dinj y hy x hx hyx
                  subst this
                  rw [hb]
                  simp only
                  have hlt2 : y.id < H'.length := (List.getElem?_eq_some_iff.1 (hplace (by simp [hb])).2).1
                  simp [hlt2]
                · have h1 := st.hon y hy b hb e
                  have hyx : x.ob.isSome = true → y.id ≠ x.id := fun hsm he => by
                    rw [L.idinj y hy x hx (by simp [hb]) hsm he] at e
                    exact hnd e
                  split
                  · rename_i b' hb'
                    rw [List.getElem?_set, if_neg (fun he => hyx (by simp [hb']) he.symm)]
                    exact h1
                  · exact h1
              · have h1 : H'[j]? = H[j]? := st.hoff j (fun u hu hsm hud => hj u hu hsm ((hDn u hu).2 (.inr hud)))
                split
                · rename_i b' hb'
                  rw [List.getElem?_set, if_neg (hj x hx (by simp [hb']) ((hDn x hx).2 (.inl hxo.symm)))]
                  exact h1
                · exact h1
            · intro y hy b hb hyd
              have hny : ¬ Dn ops zs l y := fun e => hyd ((hDn y hy).2 (.inr e))
              by_cases hxs : x.ob = none
              · rw [hη2 hxs]
                exact hpend y hy b hb hny
              · rw [hη1 y.id (fun he => ?_)]
                · exact hpend y hy b hb hny
                · have := L.idinj y hy x hx (by simp [hb]) (by cases hh : x.ob <;> simp_all) he
                  subst this
                  exact hyd ((hDn y hy).2 (.inl hxo.symm))
          split
          · rename_i hw
            rw [if_pos hw] at this
            exact Oper.wpIn_mono next this
          · rename_i hw
            rw [if_neg hw] at this
            exact ⟨fun _ _ => trivial, next _ _ this⟩
        · have hki : k ≤ i := by
            rcases Nat.lt_or_ge i k with h1 | h1
            · exact (hnl ((hl i hlt hz).2 h1)).elim
            · exact h1
          have hik : i = k := by
            rcases Nat.lt_or_ge k i with h1 | h1
            · have hkz : k ∉ zs := fun hh => by have := L.ok.zlt k hh; omega
              have := closure_sub hdn (i + 1) i o ho hall k ((L.ok.tail i hlt (by omega) k h1).resolve_right hkz)
              have := (hl k (by omega) hkz).1 this
              omega
            · omega
          subst hik
          have hiq : i < q := by
            rcases Nat.lt_or_ge i q with h1 | h1
            · exact h1
            · exfalso
              exact hend ⟨by omega, fun z hz' => closure_sub hdn (i + 1) i o ho hall z (L.fin i hlt h1 z hz')⟩
          obtain ⟨hmk, hmd⟩ := L.mid i o ho hpk hiq
          have hdrop : (ops.toList.drop i).take (q - i) = o :: (ops.toList.drop (i + 1)).take (q - (i + 1)) := by
            have hil : i < ops.toList.length := by simpa using hlt
            rw [List.drop_eq_getElem_cons hil, show q - i = (q - (i + 1)) + 1 by omega, List.take_succ_cons]
            congr 1
            have : ops.toList[i]? = some o := by simpa using ho
            rw [List.getElem?_eq_getElem hil] at this
            exact Option.some.inj this
          have hmid0 := r5 o _ hdrop
          have hsub : ∀ x ∈ sureZ ops.toList zs i zd, x ∈ zd := fun x hx => (mem_sureZ hx).1
          have hsd : ∀ x ∈ sureZ ops.toList zs i zd, Dn ops zs l x := by
            intro x hx
            obtain ⟨hxz, z, hz', hcl', o', ho', hd'⟩ := mem_sureZ hx
            have ho' : ops[z]? = some o' := by simpa using ho'
            obtain ⟨z0, hz0, hzo, hzd'⟩ := L.of x hxz
            have : z0 = z := Classical.byContradiction fun hne => L.ok.apart z0 z x.o o' (L.ok.zlt z0 hz0) (L.ok.zlt z hz') hzo ho' hne (by rw [hzd', hd'])
            subst this
            exact ⟨z0, hz0, hzo, closure_sub hdn (i + 1) i o ho hall z0 hcl'⟩
          obtain ⟨Tm, hmid1, m2, m3, m4⟩ := backT_spec hmid0 (fun x hx y hy e => by rw [L.dinj x (hsub x hx) y (hsub y hy) e]) (fun x hx hl => L.rng x (hsub x hx) (by rw [← hTl]; exact hl))
          obtain ⟨Hm, hmid, n2, n3, n4⟩ := backH_spec hmid1 (fun x hx y hy s1 s2 e => by rw [L.idinj x (hsub x hx) y (hsub y hy) s1 s2 e])
          -- without them
          have hlv : ∀ (j : Nat) (oo : O), Hm[j]? = some oo → oo.live → H'[j]? = some oo := by
            intro j oo hj hlo
            by_cases hx : ∃ y ∈ sureZ ops.toList zs i zd, y.ob.isSome = true ∧ y.id = j
            · obtain ⟨y, hy, hsm, rfl⟩ := hx
              obtain ⟨b, hb⟩ := Option.isSome_iff_exists.1 hsm
              have hlt : y.id < H.length := (List.getElem?_eq_some_iff.1 (goneB_spec hgn y (hsub y hy) hsm)).1
              rw [n4 y hy b hb hlt] at hj
              cases hj
              exact st.hon y (hsub y hy) _ hb (hsd y hy)
            · rw [n3 j (fun y hy hsm e => hx ⟨y, hy, hsm, e⟩)] at hj
              rw [st.hoff j (fun y hy hsm _ e => ?_)]
              · exact hj
              · have := goneB_spec hgn y hy hsm
                rw [e, hj] at this
                cases this
                exact hlo
          have hg0 : Good I η w Tm Hm a := by
            refine ⟨hg.sat.forget (n2.trans st.hlen.symm) hlv, hg.tmp.loose (m2.trans st.tlen.symm) (fun x => ?_)⟩
            by_cases hx : ∃ y ∈ sureZ ops.toList zs i zd, y.d = x
            · obtain ⟨y, hy, rfl⟩ := hx
              exact .inr (by rw [m4 y hy, st.ton y (hsub y hy) (hsd y hy)])
            · rw [m3 x (fun y hy e => hx ⟨y, hy, e⟩)]
              by_cases hy : ∃ y ∈ zd, y.d = x
              · obtain ⟨y, hy, rfl⟩ := hy
                exact .inl (hcl y hy)
              · exact .inr (st.toff x (fun y hy' _ e => hy ⟨y, hy', e⟩)).symm
          have hDn0 : ∀ y, (Dn ops zs (l.setIfInBounds i true) y ↔ Dn ops zs l y) := by
            intro y
            constructor
            · rintro ⟨z, hz', ho', hl'⟩
              rw [getD_set (by omega)] at hl'
              rcases hl' with rfl | hl'
              · exact (hz hz').elim
              · exact ⟨z, hz', ho', hl'⟩
            · rintro ⟨z, hz', ho', hl'⟩
              exact ⟨z, hz', ho', by rw [getD_set (by omega)]; exact .inr hl'⟩
          unfold midG at hmid
          obtain ⟨hw1, hw2, _⟩ := guardV_spec (ops := ops) (o := o) hg0.tmp
          have fin2 : ∀ (a1 : Act) (w1 : World), (After RE I (own η Hm) w a.defers (fun T H => keptH H (hideK (sureZ ops.toList zs i zd) T H fun T H => clrT zd T fun T => lateOps (sys P) E ops.toList n0 zs zd K2 (i + 1) ((ops.toList.drop (i + 1)).take (q - (i + 1))) T H) (sureZ ops.toList zs i zd)) a1 w1 ∧ ∃ x, a1 = a.put o.dst x) → wpAnyIn (Fw r) n P .any ops Q m (l.setIfInBounds i true) a1 w1 := by
            rintro a1 w1 ⟨⟨g1, I1, η1, T1, H1, g2', g3, g4, g5⟩, xv, rfl⟩
            obtain ⟨hsk, hkept⟩ := keptH_spec g2'
            obtain ⟨Ta, Ha, ga, a2, a3, a4, a5, a6, a7, a8⟩ := hideK_spec hsk
            obtain ⟨T2, t1, t2', t3', t4, t5, t6⟩ := clrT_spec ga
            have t2 : T2.length = T1.length := t2'.trans a2
            have t3 : ∀ x, get .any T2 x = .any ∨ get .any T2 x = get .any T1 x := by
              intro x
              by_cases hx : ∃ y ∈ zd, y.d = x
              · obtain ⟨y, hy, rfl⟩ := hx
                exact .inl (t5 y hy)
              · exact .inr (by rw [t6 x (fun y hy e => hx ⟨y, hy, e⟩), a4 x (fun y hy e => hx ⟨y, hsub y hy, e⟩)])
            have hlen1 : T1.length = T.length := by
              have e1 := g3.tmp.1
              have e2 := hg0.tmp.1
              have e3 : (a.put o.dst xv).tmps.size = a.tmps.size := by cases o.dst <;> simp [Act.put]
              omega
            have hgn1 : goneB Ha zd = true := by
              cases hlist : (ops.toList.drop (i + 1)).take (q - (i + 1)) with
              | nil =>
                rw [hlist] at t1
                simp only [lateOps, cond_eq_ite] at t1
                split at t1
                · assumption
                · exact t1.elim
              | cons o' rest =>
                rw [hlist] at t1
                simp only [lateOps, cond_eq_ite] at t1
                split at t1
                · assumption
                · exact t1.elim
            have hDn : ∀ y, (Dn ops zs (l.setIfInBounds i true) y ↔ Dn ops zs l y) := by
              intro y
              constructor
              · rintro ⟨z, hz', ho', hl'⟩
                rw [getD_set (by omega)] at hl'
                rcases hl' with rfl | hl'
                · exact (hz hz').elim
                · exact ⟨z, hz', ho', hl'⟩
              · rintro ⟨z, hz', ho', hl'⟩
                exact ⟨z, hz', ho', by rw [getD_set (by omega)]; exact .inr hl'⟩
            have hzd : ∀ y, y ∈ zd.filter (fun y => @decide (Dn ops zs l y) (Classical.propDecidable _)) ↔ y ∈ zd ∧ Dn ops zs l y := by
              intro y
              simp
            obtain ⟨T2', _, u2, u3, u4⟩ := backT_spec (backT_triv (zd.filter (fun y => @decide (Dn ops zs l y) (Classical.propDecidable _))) T2) (fun x hx y hy e => by rw [L.dinj x ((hzd x).1 hx).1 y ((hzd y).1 hy).1 e]) (fun x hx hl => L.rng x ((hzd x).1 hx).1 (by rw [← hTl, ← hlen1, ← t2]; exact hl))
            obtain ⟨H1', _, v2, v3, v4⟩ := backH_spec (backH_triv (zd.filter (fun y => @decide (Dn ops zs l y) (Classical.propDecidable _))) Ha) (fun x hx y hy s1 s2 e => by rw [L.idinj x ((hzd x).1 hx).1 y ((hzd y).1 hy).1 s1 s2 e])
            have hv4 : ∀ x ∈ zd, ∀ b, x.ob = some b → Dn ops zs l x → H1'[x.id]? = some b := fun x hx b hb hd => v4 x ((hzd x).2 ⟨hx, hd⟩) b hb (List.getElem?_eq_some_iff.1 (goneB_spec hgn1 x hx (by simp [hb]))).1
            have hv3 : ∀ j : Nat, (∀ x ∈ zd, x.ob.isSome = true → Dn ops zs l x → x.id ≠ j) → H1'[j]? = Ha[j]? := fun j hj => v3 j (fun x hx hsm => hj x ((hzd x).1 hx).1 hsm ((hzd x).1 hx).2)
            obtain ⟨s1, s2, s3⟩ := hg.sat.readd (H := Hm) hlv g3.sat g4 g5 (v2.trans a3) (fun j oo hj hlo => by
              by_cases hx : ∃ y ∈ zd, y.ob.isSome = true ∧ Dn ops zs l y ∧ y.id = j
              · obtain ⟨y, hy, hsm, hyd, rfl⟩ := hx
                obtain ⟨b, hb⟩ := Option.isSome_iff_exists.1 hsm
                have e1 := hv4 y hy b hb hyd
                rw [hj] at e1
                cases e1
                by_cases hys : y ∈ sureZ ops.toList zs i zd
                · left
                  have e2 := hkept y hys _ hb
                  have hlt : y.id < H1.length := by rw [← a3]; exact (List.getElem?_eq_some_iff.1 (goneB_spec hgn1 y hy hsm)).1
                  rw [get_eq, List.getElem?_eq_getElem hlt] at e2
                  rw [List.getElem?_eq_getElem hlt, ← e2]
                  rfl
                · right
                  refine ⟨st.hon y hy _ hb hyd, fun o' ho' => ?_⟩
                  rw [n3 y.id (fun u hu hsu e => hys (by rw [← L.idinj u (hsub u hu) y hy hsu hsm e]; exact hu)), goneB_spec hgn y hy hsm] at ho'
                  cases ho'
                  exact fun hh => hh
              · left
                rw [← a7 j (fun y hy hsm e => hx ⟨y, hsub y hy, hsm, hsd y hy, e⟩), ← hv3 j (fun y hy hsm hyd e => hx ⟨y, hy, hsm, hyd, e⟩)]
                exact hj)
            refine ih (i + 1) (l.setIfInBounds i true) T2 Ha I1 η1 _ w1 T2' H1' (by omega) (by omega) (by simpa using hs) (count_set h0 hc) hdn' (fun j hj hjz => ?_) t1 t5 (by rw [t2, hlen1, hTl]) ?_ ⟨s1, ?_⟩ (fun x hx b hb hnd => ?_) ((Act.put_defers' _ _ _).trans hds) (hR.trans hr (hR.step s2))
            · rw [getD_set (by omega), hl j hj hjz]
              omega
            · refine ⟨u2, v2, fun x hx hd => u4 x ((hzd x).2 ⟨hx, (hDn x).1 hd⟩), fun y hy => u3 y (fun x hx => hy x ((hzd x).1 hx).1 ((hDn x).2 ((hzd x).1 hx).2)), fun x hx b hb hd => hv4 x hx b hb ((hDn x).1 hd), fun j hj => hv3 j (fun x hx hsm hd => hj x hx hsm ((hDn x).2 hd))⟩
            · refine ⟨by rw [u2, t2]; exact g3.tmp.1, fun x => ?_⟩
              by_cases hy : ∃ y ∈ zd, Dn ops zs l y ∧ y.d = x
              · obtain ⟨y, hy, hyd, rfl⟩ := hy
                rw [u4 y ((hzd y).2 ⟨hy, hyd⟩)]
                have e1 := hg.tmp.2 y.d
                rw [st.ton y hy hyd] at e1
                have e2 : (a.put o.dst xv).tmps.getD y.d undef = a.tmps.getD y.d undef := by
                  cases hod : o.dst with
                  | none => rfl
                  | some d =>
                    have hne : d ≠ y.d := fun e => hmd y hy (by rw [hod, e])
                    simp only [Act.put, Array.getD_eq_getD_getElem?, Array.getElem?_setIfInBounds]
                    simp [hne]
                rw [e2]
                exact Den.mono s3 _ _ e1
              · rw [u3 x (fun y hy' e => hy ⟨y, ((hzd y).1 hy').1, ((hzd y).1 hy').2, e⟩)]
                rcases t3 x with e | e
                · rw [e]; trivial
                · rw [e]; exact g3.tmp.2 x
            · exact g5 _ _ (hpend x hx b hb (fun e => hnd ((hDn x).2 e)))
          split at hmid
          rotate_left
          · rename_i hgv
            rw [if_neg (by rw [hw2 hgv]; simp)]
            rw [putK_eq] at hmid
            exact ⟨fun _ _ => trivial, fin2 _ _ ⟨⟨Act.put_defers' _ _ _, I, η, _, _, hmid, ⟨hg0.sat, hg0.tmp.put trivial⟩, ⟨Step.refl _ _ _, fun _ _ he => he⟩⟩, undef, rfl⟩⟩
          · exact hmid.elim
          rename_i hgv
          rw [if_pos (hw1 hgv)]
          by_cases hgen : (isCallOp o.op && noObj zd) = true
          · rw [hgen] at hmid
            simp only [cond_true] at hmid
            simp only [Bool.and_eq_true] at hgen
            have hno : ∀ x ∈ zd, x.ob = none := noObj_spec hgen.2
            have hHH : H' = H := by
              apply List.ext_getElem?
              intro j
              exact st.hoff j (fun x hx hsm => by rw [hno x hx] at hsm; cases hsm)
            have hHm : Hm = H := by
              apply List.ext_getElem?
              intro j
              exact n3 j (fun x hx hsm => by rw [hno x (hsub x hx)] at hsm; cases hsm)
            refine Oper.wpIn_mono ?_ (stepCall_sound (P := P) hR hE (r := r) (n := n) (Q := Q) hgen.1 hg0 hmid)
            rintro a1 w1 ⟨⟨g1, I1, η1, T1, H1, g2', g3, g4, g5m⟩, xv, rfl⟩
            obtain ⟨Ta, Ha, ga, a2, a3, a4, a5, a6, a7, a8⟩ := hideK_spec (keptH_spec g2').1
            have hHa : Ha = H1 := by
              apply List.ext_getElem?
              intro j
              exact a7 j (fun x hx hsm => by rw [hno x (hsub x hx)] at hsm; cases hsm)
            subst hHa
            obtain ⟨T2, t1, t2', t3', t4, t5, t6⟩ := clrT_spec ga
            have t2 : T2.length = T1.length := t2'.trans a2
            have t3 : ∀ x, get .any T2 x = .any ∨ get .any T2 x = get .any T1 x := by
              intro x
              by_cases hx : ∃ y ∈ zd, y.d = x
              · obtain ⟨y, hy, rfl⟩ := hx
                exact .inl (t5 y hy)
              · exact .inr (by rw [t6 x (fun y hy e => hx ⟨y, hy, e⟩), a4 x (fun y hy e => hx ⟨y, hsub y hy, e⟩)])
            have hlen1 : T1.length = T.length := by
              have e1 := g3.tmp.1
              have e2 := hg0.tmp.1
              have e3 : (a.put o.dst xv).tmps.size = a.tmps.size := by cases o.dst <;> simp [Act.put]
              omega
            have hzd : ∀ y, y ∈ zd.filter (fun y => @decide (Dn ops zs l y) (Classical.propDecidable _)) ↔ y ∈ zd ∧ Dn ops zs l y := by
              intro y
              simp
            obtain ⟨T2', _, u2, u3, u4⟩ := backT_spec (backT_triv (zd.filter (fun y => @decide (Dn ops zs l y) (Classical.propDecidable _))) T2) (fun x hx y hy e => by rw [L.dinj x ((hzd x).1 hx).1 y ((hzd y).1 hy).1 e]) (fun x hx hl => L.rng x ((hzd x).1 hx).1 (by rw [← hTl, ← hlen1, ← t2]; exact hl))
            refine ih (i + 1) (l.setIfInBounds i true) T2 Ha I1 η1 _ w1 T2' Ha (by omega) (by omega) (by simpa using hs) (count_set h0 hc) hdn' (fun j hj hjz => ?_) t1 t5 (by rw [t2, hlen1, hTl]) ?_ ⟨g3.sat, ?_⟩ (fun x hx b hb hnd => by rw [hno x hx] at hb; cases hb) ((Act.put_defers' _ _ _).trans hds) (hR.trans hr (by rw [hHH, ← hHm]; exact g4))
            · rw [getD_set (by omega), hl j hj hjz]
              omega
            · refine ⟨u2, rfl, fun x hx hd => u4 x ((hzd x).2 ⟨hx, (hDn0 x).1 hd⟩), fun y hy => u3 y (fun x hx => hy x ((hzd x).1 hx).1 ((hDn0 x).2 ((hzd x).1 hx).2)), fun x hx b hb hd => (by rw [hno x hx] at hb; cases hb), fun j hj => rfl⟩
            · refine ⟨by rw [u2, t2]; exact g3.tmp.1, fun x => ?_⟩
              by_cases hy : ∃ y ∈ zd, Dn ops zs l y ∧ y.d = x
              · obtain ⟨y, hy, hyd, rfl⟩ := hy
                rw [u4 y ((hzd y).2 ⟨hy, hyd⟩)]
                have e1 := hg.tmp.2 y.d
                rw [st.ton y hy hyd] at e1
                have e2 : (a.put o.dst xv).tmps.getD y.d undef = a.tmps.getD y.d undef := by
                  cases hod : o.dst with
                  | none => rfl
                  | some d =>
                    have hne : d ≠ y.d := fun e => hmd y hy (by rw [hod, e])
                    simp only [Act.put, Array.getD_eq_getD_getElem?, Array.getElem?_setIfInBounds]
                    simp [hne]
                rw [e2]
                exact Den.mono g5m _ _ e1
              · rw [u3 x (fun y hy' e => hy ⟨y, ((hzd y).1 hy').1, ((hzd y).1 hy').2, e⟩)]
                rcases t3 x with e | e
                · rw [e]; trivial
                · rw [e]; exact g3.tmp.2 x
          rw [Bool.not_eq_true] at hgen
          rw [hgen] at hmid
          simp only [cond_false] at hmid
          exact Oper.wpIn_mono fin2 (midOp_sound (P := P) hE (r := r) (n := n) (Q := Q) hmk hg0 hmid)
theorem lateOk_spec {ops : Array Oper} {p q : Nat} {zs : List Nat} (h : lateOk ops.toList p q zs = true) :
    (∀ z ∈ zs, ∀ o, ops[z]? = some o → lateKind o.op = true) ∧ p ≤ q ∧ q ≤ ops.size ∧
    (∀ (j : Nat) (o : Oper), ops[j]? = some o → p ≤ j → j < q → midKind o.op = true ∧ ∀ (i : Nat) (o' : Oper), i < p → ops[i]? = some o' → ∀ d, o.dst = some d → o'.dst ≠ some d) ∧
    (∀ j, j < ops.size → q ≤ j → ∀ z ∈ zs, z ∈ closure ops.toList (j + 1) j) := by
  unfold lateOk at h
  simp only [Bool.and_eq_true, List.all_eq_true, List.mem_range] at h
  obtain ⟨⟨⟨⟨h1, h2⟩, h3⟩, h4⟩, h5⟩ := h
  refine ⟨fun z hz o ho => ?_, Nat.le_of_ble_eq_true h2, by simpa using Nat.le_of_ble_eq_true h3, fun j o ho hp hq => ?_, fun j hj hq z hz => ?_⟩
  · have := h1 z hz
    have ho1 : ops.toList[z]? = some o := by simpa using ho
    rw [ho1] at this
    simp only [Bool.and_eq_true] at this
    exact this.1
  · have hlt : j < ops.toList.length := by simpa using (Array.getElem?_eq_some_iff.1 ho).1
    have := h4 j hlt
    have ho1 : ops.toList[j]? = some o := by simpa using ho
    rw [ho1] at this
    simp only [Bool.or_eq_true] at this
    rcases this with (g | g) | g
    · have := Nat.le_of_ble_eq_true g; omega
    · have := Nat.le_of_ble_eq_true g; omega
    · simp only [Bool.and_eq_true, List.all_eq_true, List.mem_range] at g
      refine ⟨g.1, fun i o' hi ho' d hd hd' => ?_⟩
      have := g.2 i hi
      have ho2 : ops.toList[i]? = some o' := by simpa using ho'
      rw [ho2] at this
      simp [hd, hd'] at this
  · have := h5 j (by simpa using hj)
    simp only [Bool.or_eq_true, List.all_eq_true] at this
    rcases this with g | g
    · have := Nat.le_of_ble_eq_true g; omega
    · simpa using g z hz
theorem draw_sound2 {R : Rel} (hR : RelOk R) (hE : EnvOk E P) {ops : Array Oper} {K : KT} {T : List V} {H : List O} {I : Nat → Prop} {η : Eta} {w : World} {a : Act}
    {p q : Nat} {zs : List Nat} (hok : DOk ops p zs) (hlate : lateOk ops.toList p q zs = true)
    (h : drawOps (sys P) E ops.toList H (fun T' L => appK H L fun H' => match mkZ T' H' (zs.filterMap (ops.toList[·]?)) with
      | some zd => hideK zd T' H' fun T H' => lateOps (sys P) E ops.toList H.length zs zd (fun T H => execOps (sys P) E ops.toList K (drop q ops.toList) T H) p (take (q - p) (drop p ops.toList)) T H'
      | none => False) (take p ops.toList) H.length T [])
    (hg : Good I η w T H a) (hQ : ∀ a' w', After R I (own η H) w a.defers K a' w' → Q .normal a' w') : wpAnyIn (Fw r) n P .any ops Q ops.size (Array.replicate ops.size false) a { w with drawn := w.drawn + 1 } := by
  obtain ⟨z1, z2, z3, z4, z5⟩ := lateOk_spec hlate
  refine draw_phase hR hE hok h hg ?_
  intro Ts Ls val ob dst tr hK m l a' w' I' η' T' H' hs hc hdn htl hds hall hg' hr' hT hH hη
  rw [appK_eq] at hK
  split at hK
  · rename_i zd hzd
    obtain ⟨m1, m2⟩ := mkZ_spec hzd
    obtain ⟨Tc, Hc, k1, k2, k3, k4, k5, k6, k7, k8⟩ := hideK_spec hK
    rw [take_eq, drop_eq, drop_eq] at k1
    have hTp := tr.isT p (Nat.le_refl _)
    have ff : ∀ x ∈ zd, ∃ z ∈ zs, ops[z]? = some x.o ∧ x.o.dst = some x.d ∧ dst z = x.d ∧ x.v = get .any (Ts p) x.d ∧ x.ob = ob z ∧ (x.ob.isSome = true → x.id = H.length + (Ls z).length) := by
      intro x hx
      obtain ⟨g1, g2, g3⟩ := m2 x hx
      rw [List.mem_filterMap] at g1
      obtain ⟨z, hz, hzo⟩ := g1
      have hzo : ops[z]? = some x.o := by simpa using hzo
      have hzp := hok.zlt z hz
      obtain ⟨o, ho, hd, _, _, _, _, hlf⟩ := tr.dsts z hzp
      rw [hzo] at ho
      cases ho
      obtain ⟨f1, f2⟩ := hlf (z1 z hz x.o hzo)
      have hdz : dst z = x.d := by rw [g2] at hd; exact (Option.some.inj hd).symm
      refine ⟨z, hz, hzo, g2, hdz, ?_⟩
      rcases g3 with ⟨q1, q2, q3, q4⟩ | ⟨q1, q2, q3⟩
      · have hlt : dst z < T.length := by
          rcases Nat.lt_or_ge (dst z) T.length with h1 | h1
          · exact h1
          · rw [get_eq, List.getElem?_eq_none (by rw [hTp.len, ← hdz]; exact h1)] at q2
            rcases q2 with ⟨_, q2⟩ | q2 <;> cases q2
        have hv := hTp.on z hzp hzp hlt
        rw [hdz] at hv
        rcases f2 q1 with ⟨b, e1, e2⟩ | ⟨e1, _⟩
        rotate_left
        · rw [hv, e1] at q2
          rcases q2 with ⟨_, q2⟩ | q2 <;> cases q2
        have hid : x.id = H.length + (Ls z).length := by rw [← hv] at e1; exact q2.inj e1
        refine ⟨q3, ?_, fun _ => hid⟩
        have hon := tr.full.on z b hzp e2 trivial
        rw [q4, e2, get_eq, hid, hon]
        rfl
      · exact ⟨q2, by rw [q3.1, f1 q1], fun hsm => by rw [q3.1] at hsm; cases hsm⟩
    have same : ∀ x ∈ zd, ∀ y ∈ zd, ∀ z : Nat, ops[z]? = some x.o → ops[z]? = some y.o → x = y := by
      intro x hx y hy z e1 e2
      have eo : x.o = y.o := by rw [e1] at e2; exact Option.some.inj e2
      obtain ⟨_, a2, a3⟩ := m2 x hx
      obtain ⟨_, b2, b3⟩ := m2 y hy
      have ed : x.d = y.d := by rw [eo, b2] at a2; exact (Option.some.inj a2).symm
      obtain ⟨xo, xd, xv, xi, xb⟩ := x
      obtain ⟨yo, yd, yv, yi, yb⟩ := y
      simp only at *
      subst eo ed
      rcases a3 with ⟨q1, q2, q3, q4⟩ | ⟨q1, q2, q3⟩ <;> rcases b3 with ⟨p1, p2, p3, p4⟩ | ⟨p1, p2, p3⟩
      · have e := q2.inj p2
        subst e
        rw [q3, p3, q4, p4]
      · rw [q1] at p1; cases p1
      · rw [q1] at p1; cases p1
      · rw [q2, p2, q3.1, p3.1, q3.2, p3.2]
    have L : Late ops p q H.length zs zd T.length := by
      refine ⟨hok, z2, z3, fun j o ho hp hq => ?_, z5, fun z hz => ?_, fun x hx => ?_, fun x hx y hy e => ?_, fun x hx y hy s1 s2 e => ?_, fun x hx hl => ?_, fun x hx hsm => ?_⟩
      · obtain ⟨g2, g3⟩ := z4 j o ho hp hq
        refine ⟨g2, fun x hx e => ?_⟩
        obtain ⟨z, hz, hzo, hd, _⟩ := ff x hx
        exact g3 z x.o (hok.zlt z hz) hzo x.d e hd
      · have hzp := hok.zlt z hz
        have hle := hok.le
        have hzo : ops[z]? = some ops[z] := by simp [show z < ops.size by omega]
        obtain ⟨x, hx, e⟩ := m1 ops[z] (by rw [List.mem_filterMap]; exact ⟨z, hz, by simp⟩)
        obtain ⟨_, _, _, hd, _⟩ := ff x hx
        exact ⟨x, hx, by rw [hzo, e], hd⟩
      · obtain ⟨z, hz, hzo, hd, _⟩ := ff x hx
        exact ⟨z, hz, hzo, hd⟩
      · obtain ⟨z, hz, hzo, _, hdz, _⟩ := ff x hx
        obtain ⟨z', hz', hzo', _, hdz', _⟩ := ff y hy
        have : z = z' := Classical.byContradiction fun hne => tr.ap z' z (hok.zlt z' hz') (hok.zlt z hz) hne (by rw [hdz, hdz', e])
        subst this
        exact same x hx y hy z hzo hzo'
      · obtain ⟨z, hz, hzo, _, _, _, hob, hid⟩ := ff x hx
        obtain ⟨z', hz', hzo', _, _, _, hob', hid'⟩ := ff y hy
        obtain ⟨b, hb⟩ := Option.isSome_iff_exists.1 s1
        obtain ⟨b', hb'⟩ := Option.isSome_iff_exists.1 s2
        have : z = z' := tr.idinj z z' b b' (hok.zlt z hz) (hok.zlt z' hz') (by rw [← hob, hb]) (by rw [← hob', hb']) (by rw [← hid s1, ← hid' s2, e])
        subst this
        exact same x hx y hy z hzo hzo'
      · obtain ⟨z, hz, hzo, _, hdz, hv, _⟩ := ff x hx
        rw [hv, get_eq, List.getElem?_eq_none (by rw [hTp.len]; exact hl)]
        rfl
      · obtain ⟨z, hz, hzo, _, hdz, hv, hob, hid⟩ := ff x hx
        rw [hid hsm]
        omega
    have hgn : goneB Hc zd = true := by
      cases hlist : (ops.toList.drop p).take (q - p) with
      | nil =>
        rw [hlist] at k1
        simp only [lateOps, cond_eq_ite] at k1
        split at k1
        · assumption
        · exact k1.elim
      | cons o' rest =>
        rw [hlist] at k1
        simp only [lateOps, cond_eq_ite] at k1
        split at k1
        · assumption
        · exact k1.elim
    have dn : ∀ x ∈ zd, ∀ z ∈ zs, ops[z]? = some x.o → (Dn ops zs l x ↔ l.getD z false = true) := by
      intro x hx z hz hzo
      constructor
      · rintro ⟨z', hz', hzo', hl'⟩
        have : z' = z := Classical.byContradiction fun hne => hok.apart z' z x.o x.o (hok.zlt z' hz') (hok.zlt z hz) hzo' hzo hne rfl
        subst this
        exact hl'
      · exact fun hl' => ⟨z, hz, hzo, hl'⟩
    have hzd : ∀ y, y ∈ zd.filter (fun y => @decide (¬ Dn ops zs l y) (Classical.propDecidable _)) ↔ y ∈ zd ∧ ¬ Dn ops zs l y := by
      intro y
      simp
    obtain ⟨T2, _, t2, t3, _, t5, t6⟩ := clrT_spec (clrT_triv (zd.filter (fun y => @decide (¬ Dn ops zs l y) (Classical.propDecidable _))) T')
    have full : ∀ y, (∀ i, i < p → dst i = y → l.getD i false = true) → get .any T' y = get .any (Ts p) y := fun y hy => hT.same hTp (fun i hi e => ⟨fun _ => hi, fun _ => hy i hi e⟩)
    refine late_sound hR hE L (K2 := fun T H => execOps (sys P) E ops.toList K (List.drop q ops.toList) T H) (I₀ := I) (W₀ := own η H) (w₀ := w) (ds := a.defers) ?_ m p l Tc Hc I' η' a' w' T2 H' (Nat.le_refl _) z2 hs hc hdn (fun j hj hjz => ⟨fun hh => ?_, fun hh => hall j hh hjz⟩) k1 k6 (by rw [k2, hTp.len]) ?_ ⟨hg'.sat, hg'.tmp.loose t2 t3⟩ (fun x hx b hb hnd => ?_) hds hr'
    · intro m l T1 H1 I1 η1 a1 w1 s1 s2 s3 s4 s5 s6 s7 s8
      refine tail_sound hR hE (zs := []) (zo := []) (p := q) ⟨hok.back, fun j hj hqj i hi => .inl ?_, z3, fun z hz => by cases hz⟩ (fun z hz => by cases hz) (fun z hz => by cases hz) hQ m q l T1 H1 I1 η1 a1 w1 (Nat.le_refl _) z3 s1 s2 s3 (fun j hj _ => s4 j hj) (by rw [execOpsZ_nil]; exact s5) (fun o ho => by cases ho) s6 s7 s8
      rcases hok.tail j hj (by omega) i hi with g | g
      · exact g
      · exact z5 j hj hqj i g
    · rcases Nat.lt_or_ge j p with h1 | h1
      · exact h1
      · exact (htl j h1 hj hh).elim
    · refine ⟨by rw [t2, hT.len, k2, hTp.len], by rw [hH.len, k3]; simp, fun x hx hd => ?_, fun y hy => ?_, fun x hx b hb hd => ?_, fun i hi => ?_⟩
      · obtain ⟨z, hz, hzo, _, hdz, hv, _⟩ := ff x hx
        rw [t6 x.d (fun u hu e => ?_), full x.d (fun i hi e => ?_), hv]
        · have : i = z := Classical.byContradiction fun hne => tr.ap z i (hok.zlt z hz) hi hne (by rw [e, hdz])
          rw [this]
          exact (dn x hx z hz hzo).1 hd
        · have := L.dinj u ((hzd u).1 hu).1 x hx e
          subst this
          exact ((hzd u).1 hu).2 hd
      · by_cases hp : ∃ x ∈ zd, x.d = y
        · obtain ⟨x, hx, rfl⟩ := hp
          have hnd : ¬ Dn ops zs l x := fun hd => hy x hx hd rfl
          rw [t5 x ((hzd x).2 ⟨hx, hnd⟩), k6 x hx]
        · rw [t6 y (fun u hu e => hp ⟨u, ((hzd u).1 hu).1, e⟩), full y (fun i hi e => ?_), k4 y (fun x hx e => hp ⟨x, hx, e⟩)]
          refine hall i hi (fun hz => ?_)
          obtain ⟨x, hx, hxo, hxd⟩ := L.to i hz
          obtain ⟨o, ho, hd, _⟩ := tr.dsts i hi
          rw [ho] at hxo
          cases hxo
          rw [hd, e] at hxd
          exact hp ⟨x, hx, (Option.some.inj hxd).symm⟩
      · obtain ⟨z, hz, hzo, _, hdz, hv, hob, hid⟩ := ff x hx
        rw [hid (by simp [hb])]
        exact hH.on z b (hok.zlt z hz) (by rw [← hob, hb]) ((dn x hx z hz hzo).1 hd)
      · by_cases hp : ∃ x ∈ zd, x.ob.isSome = true ∧ x.id = i
        · obtain ⟨x, hx, hsm, rfl⟩ := hp
          obtain ⟨b, hb⟩ := Option.isSome_iff_exists.1 hsm
          obtain ⟨z, hz, hzo, _, hdz, hv, hob, hid⟩ := ff x hx
          have hnd : ¬ Dn ops zs l x := fun hd => hi x hx hsm hd rfl
          rw [goneB_spec hgn x hx hsm, hid hsm]
          exact hH.off z b (hok.zlt z hz) (by rw [← hob, hb]) (fun hh => hnd ((dn x hx z hz hzo).2 hh))
        · rw [k7 i (fun x hx hsm e => hp ⟨x, hx, hsm, e⟩)]
          rcases Nat.lt_or_ge i H.length with h1 | h1
          · rw [hH.old i h1, tr.full.old i h1]
          · rcases Nat.lt_or_ge i (H.length + (Ls p).length) with h2 | h2
            · obtain ⟨j, b, hj, hb, e⟩ := tr.cov i h1 h2
              have hjz : j ∉ zs := fun hz => by
                obtain ⟨x, hx, hxo, _⟩ := L.to j hz
                obtain ⟨z, hz', hzo, _, _, _, hob, hid⟩ := ff x hx
                have : z = j := Classical.byContradiction fun hne => hok.apart z j x.o x.o (hok.zlt z hz') hj hzo hxo hne rfl
                subst this
                have hsm : x.ob.isSome = true := by rw [hob, hb]; rfl
                exact hp ⟨x, hx, hsm, by rw [hid hsm, e]⟩
              subst e
              rw [hH.on j b hj hb (hall j hj hjz), tr.full.on j b hj hb trivial]
            · rw [List.getElem?_eq_none (by rw [hH.len]; exact h2), List.getElem?_eq_none (by simp; omega)]
    · obtain ⟨z, hz, hzo, _, hdz, hv, hob, hid⟩ := ff x hx
      rw [hid (by simp [hb])]
      exact hη z b (hok.zlt z hz) (by rw [← hob, hb]) (fun hh => hnd ((dn x hx z hz hzo).2 hh))
  · exact hK.elim
theorem draw_sound0 {R : Rel} (hR : RelOk R) (hE : EnvOk E P) {ops : Array Oper} {K : KT} {T : List V} {H : List O} {I : Nat → Prop} {η : Eta} {w : World} {a : Act}
    {p : Nat} (hok : drawOk0 ops.toList p = true) (h : drawBody (sys P) E ops.toList p K T H) (hg : Good I η w T H a) (hQ : ∀ a' w', After R I (own η H) w a.defers K a' w' → Q .normal a' w') : wpAnyIn (Fw r) n P .any ops Q ops.size (Array.replicate ops.size false) a { w with drawn := w.drawn + 1 } := by
  unfold drawOk0 at hok
  unfold drawBody at h
  cases h2 : Nat.ble 2000 p with
  | true =>
    have hle := Nat.le_of_ble_eq_true h2
    have e1 : Nat.blt p 1000 = false := by
      cases hb : Nat.blt p 1000 with
      | false => rfl
      | true => have := Nat.le_of_ble_eq_true hb; omega
    have e2 : Nat.blt p 2000 = false := by
      cases hb : Nat.blt p 2000 with
      | false => rfl
      | true => have := Nat.le_of_ble_eq_true hb; omega
    rw [h2] at h
    rw [e1, e2] at hok
    simp only [cond_true, cond_false, lenK_eq, Bool.and_eq_true] at h hok
    generalize p - 2000 = p' at h hok
    exact draw_sound2 hR hE (drawOk_spec hok.1) hok.2 h hg hQ
  | false =>
    rw [h2] at h
    simp only [cond_false] at h
    cases hb : Nat.blt p 1000 with
    | true =>
      rw [hb] at h hok
      simp only [cond_true, lenK_eq, Bool.and_eq_true] at h hok
      refine draw_soundZ hR hE (zo := []) (drawOk_spec hok.1) (lazyOk_spec hok.2) (fun z hz => by cases hz) ?_ hg hQ
      simp only [execOpsZ_nil]
      exact h
    | false =>
      have e2 : Nat.blt p 2000 = true := by
        cases hb2 : Nat.blt p 2000 with
        | true => rfl
        | false =>
          exfalso
          have g1 : ¬ (p < 2000) := fun hh => by rw [show Nat.blt p 2000 = true from Nat.ble_eq_true_of_le hh] at hb2; cases hb2
          have g2 : ¬ (2000 ≤ p) := fun hh => by rw [Nat.ble_eq_true_of_le hh] at h2; cases h2
          omega
      rw [hb] at h hok
      rw [e2] at hok
      simp only [cond_false, cond_true, lenK_eq, Bool.and_eq_true] at h hok
      generalize p - 1000 = p' at h hok
      refine draw_soundZ hR hE (drawOk_spec hok.1) (lazyOk_spec hok.2) (fun z hz o ho => ?_) h hg hQ
      rw [List.mem_filterMap]
      exact ⟨z, hz, by simpa using ho⟩
theorem draw_soundN {R : Rel} (hR : RelOk R) (hE : EnvOk E P) : ∀ (N : Nat) {Q : Exit → Act → World → Prop} {ops : Array Oper} {K : KT} {T : List V} {H : List O} {I : Nat → Prop} {η : Eta} {w : World} {a : Act}
    {p : Nat} (_ : drawOkN N ops.toList p = true) (_ : drawBodyN (sys P) E N ops.toList p K T H) (_ : Good I η w T H a) (_ : ∀ a' w', After R I (own η H) w a.defers K a' w' → Q .normal a' w'), wpAnyIn (Fw r) n P .any ops Q ops.size (Array.replicate ops.size false) a { w with drawn := w.drawn + 1 }
  | 0, Q, ops, K, T, H, I, η, w, a, p, hok, h, hg, hQ => draw_sound0 hR hE hok h hg hQ
  | N + 1, Q, ops, K, T, H, I, η, w, a, p, hok, h, hg, hQ => by
    unfold drawOkN at hok
    unfold drawBodyN at h
    cases hb : Nat.ble 10000 p with
    | false =>
      rw [hb] at hok h
      exact draw_sound0 hR hE hok h hg hQ
    | true =>
      rw [hb] at hok h
      simp only [cond_true] at hok h
      cases hm : Nat.ble (mvT p) (mvF p) with
      | true =>
        rw [hm] at hok h
        simp only [cond_true, Bool.and_eq_true] at hok h
        obtain ⟨hok1, hok2⟩ := hok
        have hp := mvOk_spec hok1
        have := draw_soundN hR hE N (ops := (mvOps (mvF p) (mvT p) ops.toList).toArray) hok2 h hg hQ
        rw [hp.size] at this
        refine hp.wpAnyIn _ _ _ _ _ (by simp) (by simp) (fun i hi => ?_) this
        simp [hi, hp.lt hi]
      | false =>
        rw [hm] at hok h
        simp only [cond_false, Bool.and_eq_true] at hok h
        obtain ⟨hok1, hok2⟩ := hok
        obtain ⟨oz, hp⟩ := edOk_spec hok1
        have := draw_soundN hR hE N (ops := (edOps (mvF p) (mvT p) ops.toList).toArray) (Q := QN Q) hok2 h hg hQ
        rw [hp.size] at this
        exact wpAnyIn_monoQ QN_imp _ _ _ _ (hp.wpAny _ _ _ _ (by simp) (down_zero ops) this)
theorem draw_sound {R : Rel} (hR : RelOk R) (hE : EnvOk E P) (hm : P.follows .mixedOrders = true) {rid : Nat} {ops : Array Oper} {K : KT} {T : List V} {H : List O} {I : Nat → Prop} {η : Eta} {w : World} {a : Act}
    (h : DrawVC (sys P) E ops.toList K T H) (hg : Good I η w T H a) (hQ : ∀ a' w', After R I (own η H) w a.defers K a' w' → Q .normal a' w') : (Code.region rid ops true).wpIn (Fw r) n P Q a w := by
  refine wpIn_region_any hm ?_
  obtain ⟨p, hok, h⟩ := h
  exact draw_soundN hR hE 12 hok h hg hQ
end
end Go.Sx
