/- Regions whose order is drawn: all orders come to the same. -/
import Derived.Test.YtkjmcolnoehjbaaDraw
namespace Go.AW
open Go
set_option linter.unusedVariables false
set_option linter.unusedSimpArgs false

section
variable {P : Program} {ops : Array Oper} {m : Nat} {fr : AFr} {H : AHeap} {F : Nat → AFr} {G : Nat → AHeap} {V : Nat → Value}

def upd (L : Nat → Bool) (i : Nat) : Nat → Bool := fun j => bif Nat.beq j i then true else L j
theorem upd_same (L : Nat → Bool) (i : Nat) : upd L i i = true := by unfold upd; rw [beq_self]; rfl
theorem upd_ne {L : Nat → Bool} {i j : Nat} (h : j ≠ i) : upd L i j = L j := by unfold upd; rw [beq_ne h]; rfl
theorem upd_of {L : Nat → Bool} {i j : Nat} (h : L j = true) : upd L i j = true := by
  by_cases e : j = i
  · subst e; exact upd_same _ _
  · rw [upd_ne e]; exact h

/-- The next operation may be any early one whose forerunners have come up. -/
theorem Inv.next (hs : DrawSpec ops m) (hT : ∀ j, j < m → ∃ o, ops[j]? = some o ∧ F (j + 1) = (F j).putO o.dst (V j) ∧ EOp P ops o (F j) (G j) (V j) (G (j + 1)))
    (hF : F 0 = fr) (hG : G 0 = H) {β0 : Bt} {w0 : World} {L : Nat → Bool} {β : Bt} {a : Act} {w : World} (hI : Inv ops m fr H G V β0 w0 L β a w)
    {i : Nat} (him : i < m) (hLi : L i = false) (hpred : ∀ o, ops[i]? = some o → ∀ e ∈ o.after, Region.binds .any e = true → L e.on = true)
    {Q : Exit → Act → World → Prop} {K : Act → World → Prop} (hK : ∀ β' a' w', Inv ops m fr H G V β0 w0 (upd L i) β' a' w' → K a' w') : wpOp P ops Q i K a w := by
  obtain ⟨o, ho, hFi, hd, hE⟩ := hT i him
  have hm0 := heaps_mono hT
  have hdi : dstAt ops i = o.dst := by unfold dstAt; rw [ho]; rfl
  have hHi : H.next ≤ (G i).next := by have := (hm0 0 i (by omega) (by omega)).1; rw [hG] at this; exact this
  have hsame : Same (G i).next (G i) (G m) := (hm0 i m (by omega) (Nat.le_refl _)).2
  have hsame1 : Same (G (i + 1)).next (G (i + 1)) (G m) := (hm0 (i + 1) m (by omega) (Nat.le_refl _)).2
  -- a slot that is looked at
  have hlook : ∀ t ∈ o.looksAt ops, VR (cut β (G i).next) ((F i).get t) (a.tmps.getD t undef) := by
    intro t ht
    obtain ⟨g1, g2, _⟩ := frames_get hs.uniq hT hF t i (by omega)
    by_cases hw : ∃ j, j < m ∧ dstAt ops j = some t
    · obtain ⟨j, hjm, hj⟩ := hw
      obtain ⟨hji, e, he, hb, hon⟩ := hs.early i o ho him t ht j hjm hj
      have hLj : L j = true := by have := hpred o ho e he hb; rwa [hon] at this
      rw [g1 j hji hj]
      refine (hI.done j (by omega) hLj t hj).mono (cut_mono (hm0 (j + 1) i (by omega) (by omega)).1 fun _ _ h => h)
    · have hno : ∀ j, j < m → dstAt ops j ≠ some t := fun j hjm h => hw ⟨j, hjm, h⟩
      rw [g2 fun j hj => hno j (by omega)]
      exact (hI.rest t fun j hjm _ => hno j hjm).mono (cut_mono hHi fun _ _ h => h)
  -- what is left when nothing has turned but that slot
  have hyield : ∀ (j : Nat) (want : Bool) (d : Tmp) (b : Bool), o.guard = some (j, want) → dstAt ops j = some d → (F i).get d = .bool b → yielded ops a.tmps j = some b := by
    intro j want d b hg hdj hgd
    have hl := hlook d (by
      unfold Oper.looksAt
      rw [hg]
      refine List.mem_append_right _ ?_
      have : ((ops[j]?).bind (·.dst)) = some d := hdj
      simp [this])
    rw [hgd] at hl
    have := hl.bool_inv
    unfold yielded
    have e1 : ((ops[j]?).bind (·.dst)) = some d := hdj
    rw [e1]
    simp only [Option.bind_some]
    have hsz : d < a.tmps.size := by
      rcases Nat.lt_or_ge d a.tmps.size with h | h
      · exact h
      · rw [Array.getD_eq_getD_getElem?, Array.getElem?_eq_none h] at this; cases this
    rw [Array.getD_eq_getD_getElem?, Array.getElem?_eq_getElem hsz] at this
    simp only [Option.getD_some] at this
    rw [Array.getElem?_eq_getElem hsz, this]
  have hyieldU : ∀ (j : Nat) (want : Bool) (d : Tmp), o.guard = some (j, want) → dstAt ops j = some d → (F i).get d = undef → yielded ops a.tmps j = none := by
    intro j want d hg hdj hgd
    have hl := hlook d (by
      unfold Oper.looksAt
      rw [hg]
      refine List.mem_append_right _ ?_
      have : ((ops[j]?).bind (·.dst)) = some d := hdj
      simp [this])
    rw [hgd] at hl
    have := hl.undef_inv
    unfold yielded
    have e1 : ((ops[j]?).bind (·.dst)) = some d := hdj
    rw [e1]
    simp only [Option.bind_some]
    rw [Array.getD_eq_getD_getElem?] at this
    cases e2 : a.tmps[d]? with
    | none => rfl
    | some z =>
      rw [e2] at this
      cases z <;> first | rfl | exact absurd rfl (this _)
  -- the new state
  have finish : ∀ (v' : Value) (w' : World) (β1 : Bt), VR β1 (V i) v' → HRel β1 (G (i + 1)) w' → Step (G i).next (cut β (G i).next) w β1 w' → Same (G i).next (G i) (G (i + 1)) → (G i).next ≤ (G (i + 1)).next →
      K (a.put o.dst v') w' := by
    intro v' w' β1 hv hh1 hst hsm hle
    -- β1 below (G i).next is β
    have hlow : ∀ b, b < (G i).next → β1 b = β b := by
      intro b hb
      cases e : β b with
      | none => exact hst.none b hb (by rw [cut_lt hb]; exact e)
      | some t =>
        rcases hst.ext b t (by rw [cut_lt hb]; exact e) with h1 | h1
        · exact h1
        · cases t with
          | stale => exact h1
          | live B off S es own =>
            exfalso
            have := hh1.stale b h1
            obtain ⟨k, hk, _⟩ := hI.rel b B off S es own e
            rw [hsm b hb, ← hsame b hb, hk] at this
            cases this
    let β' : Bt := fun b => bif (Nat.ble (G i).next b && Nat.blt b (G (i + 1)).next) then β1 b else β b
    have hin : ∀ b, (G i).next ≤ b → b < (G (i + 1)).next → β' b = β1 b := by
      intro b h1 h2
      show (bif _ then _ else _) = _
      rw [Nat.ble_eq_true_of_le h1, show Nat.blt b (G (i + 1)).next = true from by simpa [Nat.blt_eq] using h2]; rfl
    have hout : ∀ b, b < (G i).next ∨ (G (i + 1)).next ≤ b → β' b = β b := by
      intro b h
      show (bif _ then _ else _) = _
      have : (Nat.ble (G i).next b && Nat.blt b (G (i + 1)).next) = false := by
        rcases h with h | h
        · have : Nat.ble (G i).next b = false := by
            cases e : Nat.ble (G i).next b
            · rfl
            · exact absurd (Nat.le_of_ble_eq_true e) (by omega)
          rw [this]; rfl
        · have : Nat.blt b (G (i + 1)).next = false := by
            cases e : Nat.blt b (G (i + 1)).next
            · rfl
            · exact absurd (show b < (G (i + 1)).next by simpa [Nat.blt_eq] using e) (by omega)
          rw [this]; simp
      rw [this]; rfl
    -- nobody else has been given a name in between
    have hgap : ∀ b, (G i).next ≤ b → b < (G (i + 1)).next → β b = none := by
      intro b h1 h2
      cases e : β b with
      | none => rfl
      | some t =>
        exfalso
        obtain ⟨j, hj1, hj2, hj3, hj4⟩ := hI.dom b (by omega) (by rw [e]; simp)
        rcases Nat.lt_trichotomy j i with h | h | h
        · have := (hm0 (j + 1) i (by omega) (by omega)).1; omega
        · subst h; rw [hLi] at hj2; cases hj2
        · have := (hm0 (i + 1) j (by omega) (by omega)).1; omega
    have hext : ∀ b t, β b = some t → β' b = some t := by
      intro b t hb
      rcases Nat.lt_or_ge b (G i).next with h | h
      · rw [hout b (.inl h)]; exact hb
      · rcases Nat.lt_or_ge b (G (i + 1)).next with h' | h'
        · rw [hgap b h h'] at hb; cases hb
        · rw [hout b (.inr h')]; exact hb
    have hcut : cut β' (G (i + 1)).next = β1 := by
      funext b
      rcases Nat.lt_or_ge b (G (i + 1)).next with h | h
      · rw [cut_lt h]
        rcases Nat.lt_or_ge b (G i).next with h' | h'
        · rw [hout b (.inl h'), hlow b h']
        · exact hin b h' h
      · rw [cut_ge h, hh1.dom b h]
    have hcm : ∀ n, ∀ b t, cut β n b = some t → cut β' n b = some t ∨ cut β' n b = some .stale := fun n => cut_mono (Nat.le_refl _) hext
    have hLt : ∀ {b B o' S es own}, β b = some (.live B o' S es own) → B < w.heap.size := by
      intro b B o' S es own hb
      obtain ⟨k, _, hr⟩ := hI.rel b B o' S es own hb
      rcases hr with ⟨_, hr⟩ | ⟨_, _, _, _, _, hr⟩ <;> exact hr.lt
    refine hK β' _ w' ⟨?_, ?_, ?_, ?_, ?_, ?_, ?_, ?_, ?_⟩
    · cases o.dst <;> exact hI.defers
    · rw [← hI.size]; cases o.dst <;> simp [Act.put]
    · -- done
      intro j hj hLj d hdj
      by_cases e : j = i
      · subst e
        have hdo : o.dst = some d := by rw [← hdi]; exact hdj
        rw [hcut, hdo]
        rw [hdo] at hd
        have hlt : d < a.tmps.size := by
          have h1 : d < (F j).n := by simpa [Nat.blt_eq] using hd
          rw [(frames_get hs.uniq hT hF d j (by omega)).2.2, ← hI.size] at h1; exact h1
        simp only [Act.put, Array.getD_eq_getD_getElem?]
        rw [Array.getElem?_setIfInBounds_self_of_lt hlt]; exact hv
      · rw [upd_ne e] at hLj
        have hne : o.dst ≠ some d := fun h => e (hs.uniq j i d hdj (by rw [hdi]; exact h))
        have hg : (a.put o.dst v').tmps.getD d undef = a.tmps.getD d undef := by
          cases hod : o.dst with
          | none => rfl
          | some d' =>
            have : d' ≠ d := fun h => hne (by rw [hod, h])
            simp only [Act.put, Array.getD_eq_getD_getElem?]
            rw [Array.getElem?_setIfInBounds_ne this]
        rw [hg]
        exact (hI.done j hj hLj d hdj).mono (hcm _)
    · -- rest
      intro t hno
      have hne : o.dst ≠ some t := fun h => hno i him (upd_same _ _) (by rw [hdi]; exact h)
      have hg : (a.put o.dst v').tmps.getD t undef = a.tmps.getD t undef := by
        cases hod : o.dst with
        | none => rfl
        | some d' =>
          have : d' ≠ t := fun h => hne (by rw [hod, h])
          simp only [Act.put, Array.getD_eq_getD_getElem?]
          rw [Array.getElem?_setIfInBounds_ne this]
      rw [hg]
      exact (hI.rest t fun j hj hLj => hno j hj (upd_of hLj)).mono (hcm _)
    · -- rel
      intro b B o' S es own hb
      rcases Nat.lt_or_ge b (G i).next with h | h
      · -- old, or of an earlier one
        rw [hout b (.inl h)] at hb
        obtain ⟨k, hk, hr⟩ := hI.rel b B o' S es own hb
        refine ⟨k, hk, ?_⟩
        have hb1 : β1 b = some (.live B o' S es own) := by rw [hlow b h]; exact hb
        obtain ⟨k1, hk1, hr1⟩ := hh1.rel b B o' S es own hb1
        have : k1 = k := by
          have e1 : (G m).blk b = (G (i + 1)).blk b := by rw [hsame b h, hsm b h]
          rw [hk, hk1] at e1; cases e1; rfl
        subst this
        have go : ∀ n, n ≤ (G i).next → BR (cut β n) w B o' S es own k1 → BR (cut β' n) w' B o' S es own k1 := by
          intro n hn hbr
          refine hbr.restrict hr1 fun c hc => ?_
          cases ec : cut β n c with
          | none => exact absurd ec hc
          | some t =>
            obtain ⟨c1, c2⟩ := cut_some ec
            rw [cut_lt c1, hout c (.inl (by omega)), hlow c (by omega)]
        rcases hr with ⟨hlt, hbr⟩ | ⟨j, hj1, hj2, hj3, hj4, hbr⟩
        · exact .inl ⟨hlt, go _ hHi hbr⟩
        · have hji : j < i := by
            rcases Nat.lt_or_ge j i with h' | h'
            · exact h'
            · have := (hm0 i j h' (by omega)).1; omega
          exact .inr ⟨j, hj1, upd_of hj2, hj3, hj4, go _ (hm0 (j + 1) i (by omega) (by omega)).1 hbr⟩
      · rcases Nat.lt_or_ge b (G (i + 1)).next with h' | h'
        · -- new
          rw [hin b h h'] at hb
          obtain ⟨k, hk, hr⟩ := hh1.rel b B o' S es own hb
          exact ⟨k, by rw [hsame1 b h']; exact hk, .inr ⟨i, him, upd_same _ _, h, h', by rw [hcut]; exact hr⟩⟩
        · -- of a later one
          rw [hout b (.inr h')] at hb
          obtain ⟨k, hk, hr⟩ := hI.rel b B o' S es own hb
          refine ⟨k, hk, ?_⟩
          have hkeep : w'.heap[B]? = w.heap[B]? := by
            refine hst.block B (hLt hb) fun c o2 S2 es2 hc => ?_
            obtain ⟨c1, c2⟩ := cut_some hc
            have := hI.inj c b B o2 S2 es2 true o' S es own c2 hb (.inl rfl)
            omega
          rcases hr with ⟨hlt, hbr⟩ | ⟨j, hj1, hj2, hj3, hj4, hbr⟩
          · exact absurd hlt (by omega)
          · exact .inr ⟨j, hj1, upd_of hj2, hj3, hj4, hbr.mono (hcm _) hkeep⟩
    · -- stale
      intro b hb
      rcases Nat.lt_or_ge b (G i).next with h | h
      · rw [hout b (.inl h)] at hb; exact hI.stale b hb
      · rcases Nat.lt_or_ge b (G (i + 1)).next with h' | h'
        · rw [hin b h h'] at hb; rw [hsame1 b h']; exact hh1.stale b hb
        · rw [hout b (.inr h')] at hb; exact hI.stale b hb
    · -- inj
      have mixed : ∀ b1 b2 B o1 S1 es1 own1 o2 S2 es2 own2, b1 < (G (i + 1)).next → (G (i + 1)).next ≤ b2 → β1 b1 = some (.live B o1 S1 es1 own1) → β b2 = some (.live B o2 S2 es2 own2) →
          (own1 = true ∨ own2 = true) → False := by
        intro b1 b2 B o1 S1 es1 own1 o2 S2 es2 own2 h1 h2 k1 k2 ho
        have hex : ∃ b0 o0 S0 es0 own0, cut β (G i).next b0 = some (.live B o0 S0 es0 own0) ∧ (own0 = true ∨ own2 = true) := by
          cases own1 with
          | true =>
            rcases hst.img b1 B o1 S1 es1 k1 with ⟨b0, o0, S0, es0, h0⟩ | h0
            · exact ⟨b0, o0, S0, es0, true, h0, .inl rfl⟩
            · exact absurd (hLt k2) (by omega)
          | false => exact ⟨b1, o1, S1, es1, false, hst.imgRO b1 B o1 S1 es1 k1, by simpa using ho⟩
        obtain ⟨b0, o0, S0, es0, own0, h0, ho0⟩ := hex
        obtain ⟨c1, c2⟩ := cut_some h0
        have := hI.inj b0 b2 B o0 S0 es0 own0 o2 S2 es2 own2 c2 k2 ho0
        omega
      intro b1 b2 B o1 S1 es1 own1 o2 S2 es2 own2 k1 k2 ho
      have low : ∀ {b t}, b < (G (i + 1)).next → β' b = some t → β1 b = some t := by
        intro b t hb ht
        rcases Nat.lt_or_ge b (G i).next with h | h
        · rw [hout b (.inl h)] at ht; rw [hlow b h]; exact ht
        · rw [hin b h hb] at ht; exact ht
      rcases Nat.lt_or_ge b1 (G (i + 1)).next with h1 | h1
      · rcases Nat.lt_or_ge b2 (G (i + 1)).next with h2 | h2
        · exact hh1.inj b1 b2 B o1 S1 es1 own1 o2 S2 es2 own2 (low h1 k1) (low h2 k2) ho
        · rw [hout b2 (.inr h2)] at k2
          exact (mixed b1 b2 B o1 S1 es1 own1 o2 S2 es2 own2 h1 h2 (low h1 k1) k2 ho).elim
      · rw [hout b1 (.inr h1)] at k1
        rcases Nat.lt_or_ge b2 (G (i + 1)).next with h2 | h2
        · exact (mixed b2 b1 B o2 S2 es2 own2 o1 S1 es1 own1 h2 h1 (low h2 k2) k1 ho.symm).elim
        · rw [hout b2 (.inr h2)] at k2
          exact hI.inj b1 b2 B o1 S1 es1 own1 o2 S2 es2 own2 k1 k2 ho
    · -- dom
      intro b hb hne
      rcases Nat.lt_or_ge b (G i).next with h | h
      · rw [hout b (.inl h)] at hne
        obtain ⟨j, h1, h2, h3⟩ := hI.dom b hb hne
        exact ⟨j, h1, upd_of h2, h3⟩
      · rcases Nat.lt_or_ge b (G (i + 1)).next with h' | h'
        · exact ⟨i, him, upd_same _ _, h, h'⟩
        · rw [hout b (.inr h')] at hne
          obtain ⟨j, h1, h2, h3⟩ := hI.dom b hb hne
          exact ⟨j, h1, upd_of h2, h3⟩
    · -- step
      refine hI.step.trans (n' := H.next) ⟨fun b t hb => .inl (hext b t hb), fun b hb hno => ?_, fun b B o' S es hb => ?_, fun b B o' S es hb => ?_, hst.os, hst.tape, hst.output, hst.size, fun B hB hno => ?_⟩ (Nat.le_refl _)
      · rw [hout b (.inl (by omega))]; exact hno
      · rcases Nat.lt_or_ge b (G i).next with h | h
        · rw [hout b (.inl h)] at hb; exact .inl ⟨b, _, _, _, hb⟩
        · rcases Nat.lt_or_ge b (G (i + 1)).next with h' | h'
          · rw [hin b h h'] at hb
            rcases hst.img b B o' S es hb with ⟨b0, o0, S0, es0, h0⟩ | h0
            · exact .inl ⟨b0, o0, S0, es0, (cut_some h0).2⟩
            · exact .inr h0
          · rw [hout b (.inr h')] at hb; exact .inl ⟨b, _, _, _, hb⟩
      · rcases Nat.lt_or_ge b (G i).next with h | h
        · rw [hout b (.inl h)] at hb; exact hb
        · rcases Nat.lt_or_ge b (G (i + 1)).next with h' | h'
          · rw [hin b h h'] at hb
            exact absurd (cut_some (hst.imgRO b B o' S es hb)).1 (by omega)
          · rw [hout b (.inr h')] at hb; exact hb
      · exact hst.block B hB fun b o' S es hb => hno b o' S es (cut_some hb).2
  -- now the operation
  have hheap : HRel (cut β (G i).next) (G i) w := by
    refine ⟨fun b B o' S es own hb => ?_, fun b hb => ?_, fun b1 b2 B o1 S1 es1 own1 o2 S2 es2 own2 k1 k2 ho => ?_, fun b hb => cut_ge hb⟩
    · obtain ⟨h1, h2⟩ := cut_some hb
      obtain ⟨k, hk, hr⟩ := hI.rel b B o' S es own h2
      refine ⟨k, by rw [← hsame b h1]; exact hk, ?_⟩
      rcases hr with ⟨_, hbr⟩ | ⟨j, hj1, hj2, hj3, hj4, hbr⟩
      · exact hbr.mono (cut_mono hHi fun _ _ h => h) rfl
      · have hji : j < i := by
          rcases Nat.lt_or_ge j i with h' | h'
          · exact h'
          · have := (hm0 i j h' (by omega)).1; omega
        exact hbr.mono (cut_mono (hm0 (j + 1) i (by omega) (by omega)).1 fun _ _ h => h) rfl
    · obtain ⟨h1, h2⟩ := cut_some hb
      rw [← hsame b h1]; exact hI.stale b h2
    · exact hI.inj b1 b2 B o1 S1 es1 own1 o2 S2 es2 own2 (cut_some k1).2 (cut_some k2).2 ho
  unfold wpOp
  simp only [ho]
  rcases hE with ⟨hg, hAO, hsm, hle⟩ | ⟨j, want, d, hg, hdj, hgd, hv, hH⟩
  · have hwant : Region.wanted o (yielded ops a.tmps) = true := by
      unfold Region.wanted
      cases hgo : o.guard with
      | none => rfl
      | some p =>
        obtain ⟨j, want⟩ := p
        rw [hgo] at hg
        obtain ⟨d, h1, h2⟩ := hg
        simp only
        rw [hyield j want d want hgo h1 h2]; simp
    rw [if_pos hwant]
    refine .inl ?_
    have hx : ∀ x ∈ o.op.operands, VR (cut β (G i).next) ((F i).ev x) (a.eval x) := by
      intro x hxm
      have hok := hs.ok i o ho x hxm
      cases x with
      | tmp t =>
        refine hlook t ?_
        unfold Oper.looksAt
        refine List.mem_append_left _ (List.mem_filterMap.2 ⟨.tmp t, by simpa using hxm, rfl⟩)
      | const v => exact VR.plain _ hok
      | global g => simp [okX] at hok
      | func f => exact .func rfl (by intro i u u' h; simp at h) rfl (by intro i u u' h; simp at h)
    refine gives_wp (hAO (cut β (G i).next) a.eval w hx hheap) ?_
    rintro v' w' ⟨v1, H1, β1, ⟨rfl, rfl⟩, hv', hh1, hst, hn⟩
    exact finish v' w' β1 hv' hh1 hst hsm hle
  · have hwant : Region.wanted o (yielded ops a.tmps) = false := by
      unfold Region.wanted
      rw [hg]
      simp only
      rcases hgd with hgd | hgd
      · rw [hyield j want d (!want) hg hdj hgd]; cases want <;> rfl
      · rw [hyieldU j want d hg hdj hgd]; cases want <;> rfl
    rw [hwant]
    simp only [Bool.false_eq_true, if_false]
    refine finish undef w (cut β (G i).next) (by rw [hv]; exact VR.undef _) (by rw [hH]; exact hheap) (Step.refl _ _ _) (by rw [hH]; exact Same.refl _ _) (by rw [hH]; exact Nat.le_refl _)
end
end Go.AW
