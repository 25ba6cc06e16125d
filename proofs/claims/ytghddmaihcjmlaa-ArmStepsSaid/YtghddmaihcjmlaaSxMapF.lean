/- Own work: a text of the proof of a law (SxMapF). -/
import Derived.Test.YtghddmaihcjmlaaSxShift
namespace Go.Sx
open Go
open Go.ChangeMaps (setBlock)
variable {P : Program} {E : Env}

/-- a live object is turned, in whatever way -/
theorem ksK_eq : ∀ (l : List IntKind) (K : List IntKind → Prop), ksK l K = K l
  | [], _ => rfl
  | _ :: l, _ => by simp only [ksK]; exact ksK_eq l _

theorem bK_eq (b : Bool) (K : Bool → Prop) : bK b K = K b := by cases b <;> rfl

theorem Sat.turn {I : Nat → Prop} {η : Eta} {w w' : World} {H : List O} (h : Sat I η w H) {id b c : Nat} {o o' : O} (hη : η[id]? = some (some b, c)) (hH : H[id]? = some o) (hl : o.live) (hl' : o'.live)
    (hos : w'.os = w.os) (htape : w'.tape = w.tape) (hout : w'.output = w.output) (hsz : w'.heap.size = w.heap.size) (hblk : ∀ k, k ≠ b → w'.heap[k]? = w.heap[k]?) (ho : Mono I η w I η w' → SatO I η w' (some b, c) o') :
    Sat I η w' (H.set id o') ∧ Mono I η w I η w' ∧ Step I (own η H) w I (own η (H.set id o')) w' := by
  have hob : own η H b := ⟨id, c, o, hη, hH, hl⟩
  have m : Mono I η w I η w' := ⟨fun _ _ he _ => he, fun _ hb => hb, fun k hk => hblk k (fun e => h.notI b hob (e ▸ hk))⟩
  have hidH := (List.getElem?_eq_some_iff.1 hH).1
  have hown : ∀ k, own η (H.set id o') k ↔ own η H k := by
    intro k
    constructor
    · rintro ⟨j, c', o1, h1, h2, h3⟩
      rw [List.getElem?_set] at h2
      by_cases hj : id = j
      · subst hj; exact ⟨id, c', o, h1, hH, hl⟩
      · rw [if_neg hj] at h2; exact ⟨j, c', o1, h1, h2, h3⟩
    · rintro ⟨j, c', o1, h1, h2, h3⟩
      by_cases hj : id = j
      · subst hj; exact ⟨id, c', o', h1, by simp [hidH], hl'⟩
      · exact ⟨j, c', o1, h1, by rw [List.getElem?_set, if_neg hj]; exact h2, h3⟩
  refine ⟨⟨by simp [h.len], ?_, ?_, fun k hk => h.notI k ((hown k).1 hk), fun k hk => by rw [hsz]; exact h.lt k ((hown k).1 hk), fun k hk => by rw [hsz]; exact h.ilt k hk⟩, m,
    ⟨hos, htape, hout, by rw [hsz]; exact Nat.le_refl _, fun k _ hk => hblk k (fun e => hk (e ▸ hob)), fun _ hb => hb, fun _ hb => .inl hb, fun k hk => .inl ((hown k).1 hk), m.eta⟩⟩
  · intro j e o1 h1 h2
    rw [List.getElem?_set] at h2
    by_cases hj : id = j
    · subst hj
      rw [if_pos rfl, if_pos hidH] at h2
      cases h2
      rw [hη] at h1
      cases h1
      exact ho m
    · rw [if_neg hj] at h2
      refine (h.obj j e o1 h1 h2).mono m ?_
      rintro hl1 k c' rfl
      refine hblk k (fun e => hj ?_)
      subst e
      exact h.apart id j k c c' o o1 hη h1 hH h2 hl hl1
  · intro j j' k c1 c2 o1 o2 h1 h2 h3 h4 l1 l2
    have key : ∀ (j : Nat) (oo : O), (H.set id o')[j]? = some oo → oo.live → ∃ o'', H[j]? = some o'' ∧ o''.live := by
      intro j oo hj hl1
      rw [List.getElem?_set] at hj
      by_cases hji : id = j
      · subst hji; exact ⟨o, hH, hl⟩
      · rw [if_neg hji] at hj; exact ⟨oo, hj, hl1⟩
    obtain ⟨p1, q1, r1⟩ := key j o1 h3 l1
    obtain ⟨p2, q2, r2⟩ := key j' o2 h4 l2
    exact h.apart j j' k c1 c2 p1 p2 h1 h2 q1 q2 r1 r2

theorem setBlock_other (w : World) (b k : Nat) (o : Obj) (h : k ≠ b) : (setBlock w b o).heap[k]? = w.heap[k]? := by
  simp [setBlock, Array.getElem?_setIfInBounds, Ne.symm h]

theorem setBlock_at (w : World) (b : Nat) (o : Obj) (h : b < w.heap.size) : (setBlock w b o).heap[b]? = some o := by
  simp [setBlock, h]

theorem setBlock_size (w : World) (b : Nat) (o : Obj) : (setBlock w b o).heap.size = w.heap.size := by simp [setBlock]

theorem mrgL_den {I : Nat → Prop} {η : Eta} {w : World} {p : Prop} {a b : List V} {vs : List Value} (h1 : p → DenL I η w a vs) (h2 : ¬ p → DenL I η w b vs) : DenL I η w (mrgL p a b) vs := by
  unfold mrgL
  split
  · rename_i c hc; exact pickDL_den hc h1 h2
  · by_cases hp : p
    · simp [hp]; exact h1 hp
    · simp [hp]; exact h2 hp

theorem allInts_all : ∀ {ks : List IntKind} {K : List Int → Prop}, (∀ k, k.length = ks.length → K k) → allInts ks K
  | [], _, h => h [] rfl
  | _ :: _, _, h => fun x => allInts_all fun l hl => h (x :: l) (by simp [hl])

theorem cells?_one {I : Nat → Prop} {η : Eta} {w : World} {v : V} {x : Value} {cs : List V} (h : cells? v = some cs) (hna : v.isAgg = false) (hd : Den I η w v x) : x.cells = #[x] := by
  unfold cells? at h
  split at h
  · cases hna
  · simp only [cond_eq_ite] at h
    split at h
    · rename_i h1
      have := one_den h1 hd
      cases x <;> first | rfl | (simp [Value.oneCell'] at this)
    · cases h

section
variable {R : Rel} (hR : RelOk R) (hE : EnvOk E P) {r : Option Nat} {n : Nat} {Q : Exit → Act → World → Prop}
include hR hE

theorem mapOp_sound {T : List V} {H : List O} {o : Oper} {K : KT} {I : Nat → Prop} {η : Eta} {w : World} {a : Act} (hg : Good I η w T H a) (h : mapOp E T H o K) (ht : ∀ x ∈ o.op.operands.toList, There T x) :
    o.wpIn (Fw r) n P a w (After R I (own η H) w a.defers K) Q := by
  have hd : ∀ c, o.op ≠ .defer c := by
    intro c hc
    unfold mapOp at h
    rw [hc] at h
    exact h
  unfold mapOp at h
  split at h
  · -- makeMap
    rename_i t hop
    split at h
    · rename_i ks ka va et hm
      split at h
      · rename_i z hz
        obtain ⟨kt, hu, hK, hva, hkn⟩ := mapT_spec hE hm
        have h := h ⟨fun _ => 0, 0⟩
        rw [ksK_eq, bK_eq, bK_eq, lenK_eq, forceL_eq, pushK_eq, putK_eq] at h
        obtain ⟨s1, s2, s3⟩ := hg.sat.push (.map #[] 0) (.map ks ka va (fun _ => False) (fun _ => z) 0 ⟨fun _ => 0, 0⟩) 0
          ⟨_, _, rfl, #[], by rw [World.alloc_heap]; simp, MapRel.empty hK.flat.flat _ (fun _ _ h => h)⟩
        refine wpIn_value hd (v := .map (some w.heap.size)) (w' := w.alloc (.map #[] 0)) ?_ ⟨Act.put_defers' _ _ _, I, _, _, _, h, ⟨s1, (hg.tmp.mono s2).put ⟨w.heap.size, 0, ?_, rfl⟩⟩, hR.step s3⟩
        · simp only [execOp, hop, Option.map_none, Sem.run_bind, make_run]
          simp
        · rw [← hg.sat.len]; simp
      · exact h.elim
    · exact h.elim
  · -- mapUpdate
    rename_i t m x v hop
    split at h
    · rename_i ks ka va et id z hm hxm hz
      split at h
      · rename_i ks' ka' va' dom val n' g k hgt hkv
        simp only [cond_eq_ite, Bool.and_eq_true] at h
        split at h
        · rename_i hc
          obtain ⟨⟨⟨⟨⟨c1, c2⟩, c3⟩, c4⟩, c5⟩, c6⟩ := hc
          obtain rfl := ksEq_spec c1
          obtain rfl := bEq_spec c2
          obtain rfl := bEq_spec c3
          have c6 := bEq_spec c6
          obtain ⟨kt, hu, hK, hva, hkn⟩ := mapT_spec hE hm
          have hmd := ev_den hg.tmp (ht m (by simp [hop, Op.operands]))
          have hxd := ev_den hg.tmp (ht x (by simp [hop, Op.operands]))
          have hvd := ev_den hg.tmp (ht v (by simp [hop, Op.operands]))
          rw [hxm] at hmd
          obtain ⟨b, c, hη, hme⟩ := hmd
          have hH := get_live hgt trivial
          obtain ⟨b', c', he, es, hb, hrel⟩ := hg.sat.obj id _ _ hη hH
          cases he
          obtain ⟨hke, hkl⟩ := keyV_den hkv hxd
          obtain ⟨vs, g1, g2, g3⟩ := cells?_den hz hvd
          have hlen : len z = vs.length := by rw [len_eq, g3.length]
          have hl : va = false → vs.length = 1 := by
            rintro rfl
            simp only [Bool.false_or] at c5
            rw [← hlen]; exact beq_true c5
          have henc : a.eval v = encV va vs := by
            cases va with
            | true =>
              have c6 := c6.symm
              unfold V.isAgg at c6
              split at c6
              · rename_i cs hcs
                rw [hcs] at hvd
                obtain ⟨us, e1, e2, _⟩ := hvd
                rw [e1] at g1
                simp [Value.cells] at g1
                rw [e1, g1]
                rfl
              · cases c6
            | false =>
              have c6 := c6.symm
              have := cells?_one hz c6 hvd
              rw [this] at g1
              obtain ⟨u, rfl⟩ := List.length_eq_one_iff.1 (hl rfl)
              simp at g1
              rw [g1]
              rfl
          obtain ⟨es', g', hrun, hrel'⟩ := put_run (P := P) hrel hK hu hb hkl g2 hl
          have h := h g'
          rw [forceL_eq, setK_eq, set_eq, putK_eq] at h
          have hbs : b < w.heap.size := (Array.getElem?_eq_some_iff.1 hb).1
          obtain ⟨s1, s2, s3⟩ := hg.sat.turn (w' := setBlock w b (.map es' g'.clock)) (o' := .map ks ka va (domPut dom k) (valPut val k z) (nPut dom n' k) g') hη hH trivial trivial rfl rfl rfl (setBlock_size _ _ _) (fun j hj => setBlock_other _ _ _ _ hj) (fun m0 =>
            ⟨b, c, rfl, es', setBlock_at _ _ _ hbs, hrel'.imp (fun k' vs' hD => mrgL_den (fun e => by rw [hD.1 e]; exact DenL.mono m0.nil _ _ (fo_nil_list _ _ c4 g3)) (fun e => DenL.mono m0.nil _ _ (hD.2 e)))⟩)
          refine wpIn_skipped hd (w' := setBlock w b (.map es' g'.clock)) ?_ ⟨Act.put_defers' _ _ _, I, η, _, _, h, ⟨s1, (hg.tmp.mono s2).put trivial⟩, hR.step s3⟩
          simp only [execOp, hop, hme, hke, henc, Sem.run_bind, hrun]
          simp
        · exact h.elim
      · exact h.elim
    · exact h.elim
  · -- delete
    rename_i m x t t' hop
    split at h
    · rename_i ks ka va et id hm hxm
      split at h
      · rename_i ks' ka' va' dom val n' g k hgt hkv
        simp only [cond_eq_ite, Bool.and_eq_true] at h
        split at h
        · rename_i hc
          obtain ⟨⟨c1, c2⟩, c3⟩ := hc
          obtain rfl := ksEq_spec c1
          obtain rfl := bEq_spec c2
          obtain rfl := bEq_spec c3
          obtain ⟨kt, hu, hK, hva, hkn⟩ := mapT_spec hE hm
          have hmd := ev_den hg.tmp (ht m (by simp [hop, Op.operands, Call.operands]))
          have hxd := ev_den hg.tmp (ht x (by simp [hop, Op.operands, Call.operands]))
          rw [hxm] at hmd
          obtain ⟨b, c, hη, hme⟩ := hmd
          have hH := get_live hgt trivial
          obtain ⟨b', c', he, es, hb, hrel⟩ := hg.sat.obj id _ _ hη hH
          cases he
          obtain ⟨hke, hkl⟩ := keyV_den hkv hxd
          obtain ⟨es', hrun, hrel'⟩ := del_run (P := P) hrel hK hu hb hkl o.type t'
          rw [setK_eq, set_eq, putK_eq] at h
          have hbs : b < w.heap.size := (Array.getElem?_eq_some_iff.1 hb).1
          obtain ⟨s1, s2, s3⟩ := hg.sat.turn (w' := setBlock w b (.map es' g.clock)) (o' := .map ks ka va (domDel dom k) val (nDel dom n' k) g) hη hH trivial trivial rfl rfl rfl (setBlock_size _ _ _) (fun j hj => setBlock_other _ _ _ _ hj) (fun m0 =>
            ⟨b, c, rfl, es', setBlock_at _ _ _ hbs, hrel'.imp (fun k' vs' hD => DenL.mono m0.nil _ _ hD)⟩)
          refine wpIn_value hd (v := .tuple #[]) (w' := setBlock w b (.map es' g.clock)) ?_ ⟨Act.put_defers' _ _ _, I, η, _, _, h, ⟨s1, (hg.tmp.mono s2).put trivial⟩, hR.step s3⟩
          have hrun' := hrun
          simp only [execOp, hop, resolve, Sem.run_bind, Sem.run_pure, Result.andThen_ok, invoke]
          simp [hme, hke, builtin, hrun']
        · exact h.elim
      · exact h.elim
    · exact h.elim
  · -- range
    rename_i t x hop
    split at h
    · rename_i ks ka va et id hm hxm
      split at h
      · rename_i ks' ka' va' dom val n' g hgt
        obtain ⟨kt, hu, hK, hva, hkn⟩ := mapT_spec hE hm
        have hmd := ev_den hg.tmp (ht x (by simp [hop, Op.operands]))
        rw [hxm] at hmd
        obtain ⟨b, c, hη, hme⟩ := hmd
        have hH := get_live hgt trivial
        obtain ⟨b', c', he, es, hb, hrel⟩ := hg.sat.obj id _ _ hη hH
        cases he
        rw [lenK_eq, pushK_eq, putK_eq] at h
        obtain ⟨s1, s2, s3⟩ := hg.sat.push (.mapIter (some b) g.clock #[] g.clock) (.iter id g (fun k => dom k ∧ k.length = ks'.length) []) 0
          ⟨_, _, b, c, rfl, by rw [List.getElem?_append_left (List.getElem?_eq_some_iff.1 hη).1]; exact hη, by rw [World.alloc_heap]; simp, fun k k' h1 h2 h3 => born_inj hrel h1.2 h2.2 h1.1 h2.1 h3, fun k hk => by simp at hk⟩
        refine wpIn_value hd (v := .pointer (some ⟨w.heap.size, 0, none⟩)) (w' := w.alloc (.mapIter (some b) g.clock #[] g.clock)) ?_ ⟨Act.put_defers' _ _ _, I, _, _, _, h, ⟨s1, (hg.tmp.mono s2).put ⟨w.heap.size, 0, ?_, rfl⟩⟩, hR.step s3⟩
        · simp only [execOp, hop, hme, Sem.run_bind, range_run hu hb]
          simp
        · rw [← hg.sat.len]; simp
      · exact h.elim
    · exact h.elim
  · -- next
    rename_i x hop
    split at h
    · rename_i id hxm
      split at h
      · rename_i mid g dom0 done hgt
        split at h
        · rename_i ks ka va dom val n' g' hgm
          obtain ⟨rfl, hsub, h1, h2⟩ := h
          have hmd := ev_den hg.tmp (ht x (by simp [hop, Op.operands]))
          rw [hxm] at hmd
          obtain ⟨rb, c, hη, hme⟩ := hmd
          have hH := get_live hgt trivial
          have hHm := get_live hgm trivial
          obtain ⟨rb', c', mb, cm, he, hηm, hr, hinj, hdone⟩ := hg.sat.obj id _ _ hη hH
          cases he
          obtain ⟨mb', cm', hem, es, hb, hrel⟩ := hg.sat.obj mid _ _ hηm hHm
          cases hem
          have hcnt := hrel.counted
          rcases next_run (P := P) (done := done.reverse) hrel hb hr hinj (fun k hk => hdone k (by simpa using hk)) hsub o.type with ⟨hall, hrun⟩ | ⟨k, vs, w1, hkl, hkd, hkn, ⟨hD, g2, hl⟩, hw1, hrun⟩
          · have h := h2 (allInts_all fun k hk hdk => by simpa using hall k hk hdk)
            rw [putK_eq] at h
            refine wpIn_value hd (v := .tuple #[.bool false]) (w' := w) ?_ ⟨Act.put_defers' _ _ _, I, η, _, _, h, ⟨hg.sat, hg.tmp.put ⟨[.bool false], rfl, _, _, rfl, rfl, rfl⟩⟩, hR.step (Step.refl _ _ _)⟩
            simp only [execOp, hop, hme, Sem.run_bind, hrun]
            simp
          · have h := allInts_spec h1 k hkl hkd (by simpa using hkn) hcnt
            rw [setK_eq, set_eq, putK_eq] at h
            have hos : w1.os = w.os ∧ w1.tape = w.tape ∧ w1.output = w.output ∧ w1.heap = w.heap := by
              rcases hw1 with rfl | rfl
              · exact ⟨rfl, rfl, rfl, rfl⟩
              · exact ⟨rfl, rfl, rfl, rfl⟩
            have hbs : rb < w1.heap.size := by rw [hos.2.2.2]; exact (Array.getElem?_eq_some_iff.1 hr).1
            obtain ⟨s1, s2, s3⟩ := hg.sat.turn (w' := setBlock w1 rb (.mapIter (some mb) g.clock ((done.reverse ++ [k]).map g.born).toArray g.clock)) (o' := .iter mid g dom0 (k :: done)) hη hH trivial trivial hos.1 hos.2.1 hos.2.2.1 (by rw [setBlock_size, hos.2.2.2]) (fun j hj => by rw [setBlock_other _ _ _ _ hj, hos.2.2.2]) (fun m0 =>
              ⟨rb, c, mb, cm, rfl, hηm, by rw [setBlock_at _ _ _ hbs]; simp, hinj, fun k' hk' => by
                rcases List.mem_cons.1 hk' with rfl | hk'
                · exact hsub _ hkl hkd
                · exact hdone k' hk'⟩)
            refine wpIn_value hd (v := .tuple #[.bool true, encK ks ka k, encV va vs]) (w' := setBlock w1 rb (.mapIter (some mb) g.clock ((done.reverse ++ [k]).map g.born).toArray g.clock)) ?_ ⟨Act.put_defers' _ _ _, I, η, _, _, h, ⟨s1, (hg.tmp.mono s2).put ⟨_, rfl, _, _, rfl, rfl, _, _, rfl, encK_den _ _ _ hrel.flat hkl, _, _, rfl, ?_, rfl⟩⟩, hR.step s3⟩
            · simp only [execOp, hop, hme, Sem.run_bind, hrun]
              simp
            · exact encV_den g2 hl (DenL.mono (Mono.trans ⟨fun _ _ he _ => by simp at he, fun _ hb => hb, fun _ _ => rfl⟩ s2) _ _ hD)
        · exact h.elim
      · exact h.elim
    · exact h.elim
  · exact h.elim
end
end Go.Sx
