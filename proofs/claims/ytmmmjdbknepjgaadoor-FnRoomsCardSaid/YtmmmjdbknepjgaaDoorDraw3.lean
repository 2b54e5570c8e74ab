/- Regions whose order is drawn: all orders come to the same. -/
import Derived.Test.YtmmmjdbknepjgaaDoorDraw
namespace Go.AW
open Go
set_option linter.unusedVariables false
set_option linter.unusedSimpArgs false

section
variable {P : Program} {ops : Array Oper} {m : Nat} {fr : AFr} {H : AHeap} {F : Nat → AFr} {G : Nat → AHeap} {V : Nat → Value}

def upd (L : Nat → Bool) (i : Nat) : Nat → Bool := fun j => bif Nat.beq j i then true else L j
theorem upd_same (L : Nat → Bool) (i : Nat) : upd L i i = true := by unfold upd; rw [beq_self]; rfl
theorem upd_ne {L : Nat → Bool} {i j : Nat} (h : j ≠ i) : upd L i j = L j := by unfold upd; rw [beq_ne h]; rfl
theorem upd_of {L : Nat → Bool} {i j : Nat} (h : L j = true) : upd L i j = true := by
  by_cases e : j = i
  · subst e; exact upd_same _ _
  · rw [upd_ne e]; exact h

/-- The next operation may be any early one whose forerunners have come up. -/
theorem Inv.next (hs : DrawSpec ops m) (hT : ∀ j, j < m → ∃ o, ops[j]? = some o ∧ F (j + 1) = (F j).putO o.dst (V j) ∧ EOp P ops o (F j) (G j) (V j) (G (j + 1)))
    (hF : F 0 = fr) (hG : G 0 = H) {β0 : Bt} {w0 : World} {L : Nat → Bool} {β : Bt} {a : Act} {w : World} (hI : Inv ops m fr H G V β0 w0 L β a w)
    {i : Nat} (him : i < m) (hLi : L i = false) (hpred : ∀ o, ops[i]? = some o → ∀ e ∈ o.after, Region.binds .any e = true → L e.on = true)
    {Q : Exit → Act → World → Prop} {K : Act → World → Prop} (hK : ∀ β' a' w', Inv ops m fr H G V β0 w0 (upd L i) β' a' w' → K a' w') : wpOp P ops Q i K a w := by
  obtain ⟨o, ho, hFi, hd, hE⟩ := hT i him
  have hm0 := heaps_mono hT
  have hdi : dstAt ops i = o.dst := by unfold dstAt; rw [ho]; rfl
  have hHi : H.next ≤ (G i).next := by have := (hm0 0 i (by omega) (by omega)).1; rw [hG] at this; exact this
  have hsame : Same (G i).next (G i) (G m) := (hm0 i m (by omega) (Nat.le_refl _)).2
  have hsame1 : Same (G (i + 1)).next (G (i + 1)) (G m) := (hm0 (i + 1) m (by omega) (Nat.le_refl _)).2
  -- a slot that is looked at
  have hlook : ∀ t ∈ o.looksAt ops, VR (cut β (G i).next) ((F i).get t) (a.tmps.getD t undef) := by
    intro t ht
    obtain ⟨g1, g2, _⟩ := frames_get hs.uniq hT hF t i (by omega)
    by_cases hw : ∃ j, j < m ∧ dstAt ops j = some t
    · obtain ⟨j, hjm, hj⟩ := hw
      obtain ⟨hji, e, he, hb, hon⟩ := hs.early i o ho him t ht j hjm hj
      have hLj : L j = true := by have := hpred o ho e he hb; rwa [hon] at this
      rw [g1 j hji hj]
      refine (hI.done j (by omega) hLj t hj).mono (cut_mono (hm0 (j + 1) i (by omega) (by omega)).1 fun _ _ h => h)
    · have hno : ∀ j, j < m → dstAt ops j ≠ some t := fun j hjm h => hw ⟨j, hjm, h⟩
      rw [g2 fun j hj => hno j (by omega)]
      exact (hI.rest t fun j hjm _ => hno j hjm).mono (cut_mono hHi fun _ _ h => h)
  -- what is left when nothing has turned but that slot
  have hyield : ∀ (j : Nat) (want : Bool) (d : Tmp) (b : Bool), o.guard = some (j, want) → dstAt ops j = some d → (F i).get d = .bool b → yielded ops a.tmps j = some b := by
    intro j want d b hg hdj hgd
    have hl := hlook d (by
      unfold Oper.looksAt
      rw [hg]
      refine List.mem_append_right _ ?_
      have : ((ops[j]?).bind (·.dst)) = some d := hdj
      simp [this])
    rw [hgd] at hl
    have := hl.bool_inv
    unfold yielded
    have e1 : ((ops[j]?).bind (·.dst)) = some d := hdj
    rw [e1]
    simp only [Option.bind_some]
    have hsz : d < a.tmps.size := by
      rcases Nat.lt_or_ge d a.tmps.size with h | h
      · exact h
      · rw [Array.getD_eq_getD_getElem?, Array.getElem?_eq_none h] at this; cases this
    rw [Array.getD_eq_getD_getElem?, Array.getElem?_eq_getElem hsz] at this
    simp only [Option.getD_some] at this
    rw [Array.getElem?_eq_getElem hsz, this]
  have hyieldU : ∀ (j : Nat) (want : Bool) (d : Tmp), o.guard = some (j, want) → dstAt ops j = some d → (F i).get d = undef → yielded ops a.tmps j = none := by
    intro j want d hg hdj hgd
    have hl := hlook d (by
      unfold Oper.looksAt
      rw [hg]
      refine List.mem_append_right _ ?_
      have : ((ops[j]?).bind (·.dst)) = some d := hdj
      simp [this])
    rw [hgd] at hl
    have := hl.undef_inv
    unfold yielded
    have e1 : ((ops[j]?).bind (·.dst)) = some d := hdj
    rw [e1]
    simp only [Option.bind_some]
    rw [Array.getD_eq_getD_getElem?] at this
    cases e2 : a.tmps[d]? with
    | none => rfl
    | some z =>
      rw [e2] at this
      cases z <;> first | rfl | exact absurd rfl (this _)
  -- the new state
  have finish : ∀ (v' : Value) (w' : World) (β1 : Bt), VR β1 (V i) v' → HRel β1 (G (i + 1)) w' → Step (G i).next (cut β (G i).next) w β1 w' → Same (G i).next (G i) (G (i + 1)) → (G i).next ≤ (G (i + 1)).next →
      K (a.put o.dst v') w' := by
    intro v' w' β1 hv hh1 hst hsm hle
    -- β1 below (G i).next is β
    have hlow : ∀ b, b < (G i).next → β1 b = β b := by
      intro b hb
      cases e : β b with
      | none => exact hst.none b hb (by rw [cut_lt hb]; exact e)
      | some t =>
        rcases hst.ext b t (by rw [cut_lt hb]; exact e) with h1 | h1
        · exact h1
        · cases t with
          | stale => exact h1
          | live B off S es own =>
            exfalso
            have := hh1.stale b h1
            obtain ⟨k, hk, _⟩ := hI.rel b B off S es own e
            rw [hsm b hb, ← hsame b hb, hk] at this
            cases this
    let β' : Bt := fun b => bif (Nat.ble (G i).next b && Nat.blt b (G (i + 1)).next) then β1 b else β b
    have hin : ∀ b, (G i).next ≤ b → b < (G (i + 1)).next → β' b = β1 b := by
      intro b h1 h2
      show (bif _ then _ else _) = _
      rw [Nat.ble_eq_true_of_le h1, show Nat.blt b (G (i + 1)).next = true from by simpa [Nat.blt_eq] using h2]; rfl
    have hout : ∀ b, b < (G i).next ∨ (G (i + 1)).next ≤ b → β' b = β b := by
      intro b h
      show (bif _ then _ else _) = _
      have : (Nat.ble (G i).next b && Nat.blt b (G (i + 1)).next) = false := by
        rcases h with h | h
        · have : Nat.ble (G i).next b = false := by
            cases e : Nat.ble (G i).next b
            · rfl
            · exact absurd (Nat.le_of_ble_eq_true e) (by omega)
          rw [this]; rfl
        · have : Nat.blt b (G (i + 1)).next = false := by
            cases e : Nat.blt b (G (i + 1)).next
            · rfl
            · exact absurd (show b < (G (i + 1)).next by simpa [Nat.blt_eq] using e) (by omega)
          rw [this]; simp
      rw [this]; rfl
    -- nobody else has been given a name in between
    have hgap : ∀ b, (G i).next ≤ b → b < (G (i + 1)).next → β b = none := by
      intro b h1 h2
      cases e : β b with
      | none => rfl
      | some t =>
        exfalso
        obtain ⟨j, hj1, hj2, hj3, hj4⟩ := hI.dom b (by omega) (by rw [e]; simp)
        rcases Nat.lt_trichotomy j i with h | h | h
        · have := (hm0 (j + 1) i (by omega) (by omega)).1; omega
        · subst h; rw [hLi] at hj2; cases hj2
        · have := (hm0 (i + 1) j (by omega) (by omega)).1; omega
    have hext : ∀ b t, β b = some t → β' b = some t := by
      intro b t hb
      rcases Nat.lt_or_ge b (G i).next with h | h
      · rw [hout b (.inl h)]; exact hb
      · rcases Nat.lt_or_ge b (G (i + 1)).next with h' | h'
        · rw [hgap b h h'] at hb; cases hb
        · rw [hout b (.inr h')]; exact hb
    have hcut : cut β' (G (i + 1)).next = β1 := by
      funext b
      rcases Nat.lt_or_ge b (G (i + 1)).next with h | h
      · rw [cut_lt h]
        rcases Nat.lt_or_ge b (G i).next with h' | h'
        · rw [hout b (.inl h'), hlow b h']
        · exact hin b h' h
      · rw [cut_ge h, hh1.dom b h]
    have hcm : ∀ n, ∀ b t, cut β n b = some t → cut β' n b = some t ∨ cut β' n b = some .stale := fun n => cut_mono (Nat.le_refl _) hext
    have hLt : ∀ {b B o' S es own}, β b = some (.live B o' S es own) → B < w.heap.size := by
      intro b B o' S es own hb
      obtain ⟨k, _, hr⟩ := hI.rel b B o' S es own hb
      rcases hr with ⟨_, hr⟩ | ⟨_, _, _, _, _, hr⟩ <;> exact hr.lt
    refine hK β' _ w' ⟨?_, ?_, ?_, ?_, ?_, ?_, ?_, ?_, ?_, hI.glob0⟩
    · cases o.dst <;> exact hI.defers
    · rw [← hI.size]; cases o.dst <;> simp [Act.put]
    · -- done
      intro j hj hLj d hdj
      by_cases e : j = i
      · subst e
        have hdo : o.dst = some d := by rw [← hdi]; exact hdj
        rw [hcut, hdo]
        rw [hdo] at hd
        have hlt : d < a.tmps.size := by
          have h1 : d < (F j).n := by simpa [Nat.blt_eq] using hd
          rw [(frames_get hs.uniq hT hF d j (by omega)).2.2, ← hI.size] at h1; exact h1
        simp only [Act.put, Array.getD_eq_getD_getElem?]
        rw [Array.getElem?_setIfInBounds_self_of_lt hlt]; exact hv
      · rw [upd_ne e] at hLj
        have hne : o.dst ≠ some d := fun h => e (hs.uniq j i d hdj (by rw [hdi]; exact h))
        have hg : (a.put o.dst v').tmps.getD d undef = a.tmps.getD d undef := by
          cases hod : o.dst with
          | none => rfl
          | some d' =>
            have : d' ≠ d := fun h => hne (by rw [hod, h])
            simp only [Act.put, Array.getD_eq_getD_getElem?]
            rw [Array.getElem?_setIfInBounds_ne this]
        rw [hg]
        exact (hI.done j hj hLj d hdj).mono (hcm _)
    · -- rest
      intro t hno
      have hne : o.dst ≠ some t := fun h => hno i him (upd_same _ _) (by rw [hdi]; exact h)
      have hg : (a.put o.dst v').tmps.getD t undef = a.tmps.getD t undef := by
        cases hod : o.dst with
        | none => rfl
        | some d' =>
          have : d' ≠ t := fun h => hne (by rw [hod, h])
          simp only [Act.put, Array.getD_eq_getD_getElem?]
          rw [Array.getElem?_setIfInBounds_ne this]
      rw [hg]
      exact (hI.rest t fun j hj hLj => hno j hj (upd_of hLj)).mono (hcm _)
    · -- rel
      intro b B o' S es own hb
      rcases Nat.lt_or_ge b (G i).next with h | h
      · -- old, or of an earlier one
        rw [hout b (.inl h)] at hb
        obtain ⟨k, hk, hr⟩ := hI.rel b B o' S es own hb
        refine ⟨k, hk, ?_⟩
        have hb1 : β1 b = some (.live B o' S es own) := by rw [hlow b h]; exact hb
        obtain ⟨k1, hk1, hr1⟩ := hh1.rel b B o' S es own hb1
        have : k1 = k := by
          have e1 : (G m).blk b = (G (i + 1)).blk b := by rw [hsame b h, hsm b h]
          rw [hk, hk1] at e1; cases e1; rfl
        subst this
        have go : ∀ n, n ≤ (G i).next → BR (cut β n) w B o' S es own k1 → BR (cut β' n) w' B o' S es own k1 := by
          intro n hn hbr
          refine hbr.restrict hr1 fun c hc => ?_
          cases ec : cut β n c with
          | none => exact absurd ec hc
          | some t =>
            obtain ⟨c1, c2⟩ := cut_some ec
            rw [cut_lt c1, hout c (.inl (by omega)), hlow c (by omega)]
        rcases hr with ⟨hlt, hbr⟩ | ⟨j, hj1, hj2, hj3, hj4, hbr⟩
        · exact .inl ⟨hlt, go _ hHi hbr⟩
        · have hji : j < i := by
            rcases Nat.lt_or_ge j i with h' | h'
            · exact h'
            · have := (hm0 i j h' (by omega)).1; omega
          exact .inr ⟨j, hj1, upd_of hj2, hj3, hj4, go _ (hm0 (j + 1) i (by omega) (by omega)).1 hbr⟩
      · rcases Nat.lt_or_ge b (G (i + 1)).next with h' | h'
        · -- new
          rw [hin b h h'] at hb
          obtain ⟨k, hk, hr⟩ := hh1.rel b B o' S es own hb
          exact ⟨k, by rw [hsame1 b h']; exact hk, .inr ⟨i, him, upd_same _ _, h, h', by rw [hcut]; exact hr⟩⟩
        · -- of a later one
          rw [hout b (.inr h')] at hb
          obtain ⟨k, hk, hr⟩ := hI.rel b B o' S es own hb
          refine ⟨k, hk, ?_⟩
          have hkeep : w'.heap[B]? = w.heap[B]? := by
            refine hst.block B (hLt hb) fun c o2 S2 es2 hc => ?_
            obtain ⟨c1, c2⟩ := cut_some hc
            have := hI.inj c b B o2 S2 es2 true o' S es own c2 hb (.inl rfl)
            omega
          rcases hr with ⟨hlt, hbr⟩ | ⟨j, hj1, hj2, hj3, hj4, hbr⟩
          · exact absurd hlt (by omega)
          · exact .inr ⟨j, hj1, upd_of hj2, hj3, hj4, hbr.mono (hcm _) hkeep⟩
    · -- stale
      intro b hb
      rcases Nat.lt_or_ge b (G i).next with h | h
      · rw [hout b (.inl h)] at hb; exact hI.stale b hb
      · rcases Nat.lt_or_ge b (G (i + 1)).next with h' | h'
        · rw [hin b h h'] at hb; rw [hsame1 b h']; exact hh1.stale b hb
        · rw [hout b (.inr h')] at hb; exact hI.stale b hb
    · -- inj
      have mixed : ∀ b1 b2 B o1 S1 es1 own1 o2 S2 es2 own2, b1 < (G (i + 1)).next → (G (i + 1)).next ≤ b2 → β1 b1 = some (.live B o1 S1 es1 own1) → β b2 = some (.live B o2 S2 es2 own2) →
          (own1 = true ∨ own2 = true) → False := by
        intro b1 b2 B o1 S1 es1 own1 o2 S2 es2 own2 h1 h2 k1 k2 ho
        have hex : ∃ b0 o0 S0 es0 own0, cut β (G i).next b0 = some (.live B o0 S0 es0 own0) ∧ (own0 = true ∨ own2 = true) := by
          cases own1 with
          | true =>
            rcases hst.img b1 B o1 S1 es1 k1 with ⟨b0, o0, S0, es0, h0⟩ | h0
            · exact ⟨b0, o0, S0, es0, true, h0, .inl rfl⟩
            · exact absurd (hLt k2) (by omega)
          | false => exact ⟨b1, o1, S1, es1, false, hst.imgRO b1 B o1 S1 es1 k1, by simpa using ho⟩
        obtain ⟨b0, o0, S0, es0, own0, h0, ho0⟩ := hex
        obtain ⟨c1, c2⟩ := cut_some h0
        have := hI.inj b0 b2 B o0 S0 es0 own0 o2 S2 es2 own2 c2 k2 ho0
        omega
      intro b1 b2 B o1 S1 es1 own1 o2 S2 es2 own2 k1 k2 ho
      have low : ∀ {b t}, b < (G (i + 1)).next → β' b = some t → β1 b = some t := by
        intro b t hb ht
        rcases Nat.lt_or_ge b (G i).next with h | h
        · rw [hout b (.inl h)] at ht; rw [hlow b h]; exact ht
        · rw [hin b h hb] at ht; exact ht
      rcases Nat.lt_or_ge b1 (G (i + 1)).next with h1 | h1
      · rcases Nat.lt_or_ge b2 (G (i + 1)).next with h2 | h2
        · exact hh1.inj b1 b2 B o1 S1 es1 own1 o2 S2 es2 own2 (low h1 k1) (low h2 k2) ho
        · rw [hout b2 (.inr h2)] at k2
          exact (mixed b1 b2 B o1 S1 es1 own1 o2 S2 es2 own2 h1 h2 (low h1 k1) k2 ho).elim
      · rw [hout b1 (.inr h1)] at k1
        rcases Nat.lt_or_ge b2 (G (i + 1)).next with h2 | h2
        · exact (mixed b2 b1 B o2 S2 es2 own2 o1 S1 es1 own1 h2 h1 (low h2 k2) k1 ho.symm).elim
        · rw [hout b2 (.inr h2)] at k2
          exact hI.inj b1 b2 B o1 S1 es1 own1 o2 S2 es2 own2 k1 k2 ho
    · -- dom
      intro b hb hne
      rcases Nat.lt_or_ge b (G i).next with h | h
      · rw [hout b (.inl h)] at hne
        obtain ⟨j, h1, h2, h3⟩ := hI.dom b hb hne
        exact ⟨j, h1, upd_of h2, h3⟩
      · rcases Nat.lt_or_ge b (G (i + 1)).next with h' | h'
        · exact ⟨i, him, upd_same _ _, h, h'⟩
        · rw [hout b (.inr h')] at hne
          obtain ⟨j, h1, h2, h3⟩ := hI.dom b hb hne
          exact ⟨j, h1, upd_of h2, h3⟩
    · -- step
      refine hI.step.trans (n' := H.next) ⟨fun b t hb => .inl (hext b t hb), fun b hb hno => ?_, fun b B o' S es hb => ?_, fun b B o' S es hb => ?_, hst.os, hst.tape, hst.output, hst.size, fun B hB hno => ?_⟩ (Nat.le_refl _)
      · rw [hout b (.inl (by omega))]; exact hno
      · rcases Nat.lt_or_ge b (G i).next with h | h
        · rw [hout b (.inl h)] at hb; exact .inl ⟨b, _, _, _, hb⟩
        · rcases Nat.lt_or_ge b (G (i + 1)).next with h' | h'
          · rw [hin b h h'] at hb
            rcases hst.img b B o' S es hb with ⟨b0, o0, S0, es0, h0⟩ | h0
            · exact .inl ⟨b0, o0, S0, es0, (cut_some h0).2⟩
            · exact .inr h0
          · rw [hout b (.inr h')] at hb; exact .inl ⟨b, _, _, _, hb⟩
      · rcases Nat.lt_or_ge b (G i).next with h | h
        · rw [hout b (.inl h)] at hb; exact hb
        · rcases Nat.lt_or_ge b (G (i + 1)).next with h' | h'
          · rw [hin b h h'] at hb
            exact absurd (cut_some (hst.imgRO b B o' S es hb)).1 (by omega)
          · rw [hout b (.inr h')] at hb; exact hb
      · exact hst.block B hB fun b o' S es hb => hno b o' S es (cut_some hb).2
  -- now the operation
  have hheap : HRel (cut β (G i).next) (G i) w := by
    refine ⟨fun b B o' S es own hb => ?_, fun b hb => ?_, fun b1 b2 B o1 S1 es1 own1 o2 S2 es2 own2 k1 k2 ho => ?_, fun b hb => cut_ge hb, (Step.glob hI.step hI.glob0).of (fun _ _ _ => rfl) fun b g o S es hb => .inl ⟨b, o, S, es, (cut_some hb).2⟩⟩
    · obtain ⟨h1, h2⟩ := cut_some hb
      obtain ⟨k, hk, hr⟩ := hI.rel b B o' S es own h2
      refine ⟨k, by rw [← hsame b h1]; exact hk, ?_⟩
      rcases hr with ⟨_, hbr⟩ | ⟨j, hj1, hj2, hj3, hj4, hbr⟩
      · exact hbr.mono (cut_mono hHi fun _ _ h => h) rfl
      · have hji : j < i := by
          rcases Nat.lt_or_ge j i with h' | h'
          · exact h'
          · have := (hm0 i j h' (by omega)).1; omega
        exact hbr.mono (cut_mono (hm0 (j + 1) i (by omega) (by omega)).1 fun _ _ h => h) rfl
    · obtain ⟨h1, h2⟩ := cut_some hb
      rw [← hsame b h1]; exact hI.stale b h2
    · exact hI.inj b1 b2 B o1 S1 es1 own1 o2 S2 es2 own2 (cut_some k1).2 (cut_some k2).2 ho
  unfold wpOp
  simp only [ho]
  rcases hE with ⟨hg, hAO, hsm, hle⟩ | ⟨j, want, d, hg, hdj, hgd, hv, hH⟩
  · have hwant : Region.wanted o (yielded ops a.tmps) = true := by
      unfold Region.wanted
      cases hgo : o.guard with
      | none => rfl
      | some p =>
        obtain ⟨j, want⟩ := p
        rw [hgo] at hg
        obtain ⟨d, h1, h2⟩ := hg
        simp only
        rw [hyield j want d want hgo h1 h2]; simp
    rw [if_pos hwant]
    refine .inl ?_
    have hx : ∀ x ∈ o.op.operands, VR (cut β (G i).next) ((F i).ev x) (a.eval x) := by
      intro x hxm
      have hok := hs.ok i o ho x hxm
      cases x with
      | tmp t =>
        refine hlook t ?_
        unfold Oper.looksAt
        refine List.mem_append_left _ (List.mem_filterMap.2 ⟨.tmp t, by simpa using hxm, rfl⟩)
      | const v => exact VR.plain _ hok
      | global g => simp [okX] at hok
      | func f => exact .func rfl (by intro i u u' h; simp at h) rfl (by intro i u u' h; simp at h)
    refine gives_wp (hAO (cut β (G i).next) a.eval w hx hheap) ?_
    rintro v' w' ⟨v1, H1, β1, ⟨rfl, rfl⟩, hv', hh1, hst, hn⟩
    exact finish v' w' β1 hv' hh1 hst hsm hle
  · have hwant : Region.wanted o (yielded ops a.tmps) = false := by
      unfold Region.wanted
      rw [hg]
      simp only
      rcases hgd with hgd | hgd
      · rw [hyield j want d (!want) hg hdj hgd]; cases want <;> rfl
      · rw [hyieldU j want d hg hdj hgd]; cases want <;> rfl
    rw [hwant]
    simp only [Bool.false_eq_true, if_false]
    refine finish undef w (cut β (G i).next) (by rw [hv]; exact VR.undef _) (by rw [hH]; exact hheap) (Step.refl _ _ _) (by rw [hH]; exact Same.refl _ _) (by rw [hH]; exact Nat.le_refl _)
end
end Go.AW
/- Regions whose order is drawn: their rules. -/
namespace Go.AW
open Go
set_option linter.unusedVariables false
set_option linter.unusedSimpArgs false

section
variable {P : Program} {ops : Array Oper} {m : Nat} {fr : AFr} {H : AHeap} {F : Nat → AFr} {G : Nat → AHeap} {V : Nat → Value}

def Lof (listed : Array Bool) : Nat → Bool := fun i => listed.getD i false
theorem Lof_set {listed : Array Bool} {i : Nat} (hi : i < listed.size) : Lof (listed.setIfInBounds i true) = upd (Lof listed) i := by
  funext j
  unfold Lof
  by_cases e : j = i
  · subst e; rw [upd_same]; simp [hi]
  · rw [upd_ne e, Array.getD_eq_getD_getElem?, Array.getElem?_setIfInBounds_ne (Ne.symm e), ← Array.getD_eq_getD_getElem?]

/-- How many have not come up. -/
def left (listed : Array Bool) : Nat := ((List.range listed.size).filter fun i => !listed.getD i true).length

theorem left_zero {listed : Array Bool} (h : left listed = 0) : ∀ i, i < listed.size → listed.getD i true = true := by
  intro i hi
  unfold left at h
  have := List.eq_nil_of_length_eq_zero h
  cases e : listed.getD i true with
  | true => rfl
  | false =>
    have hm : i ∈ (List.range listed.size).filter fun i => !listed.getD i true := by
      rw [List.mem_filter]; exact ⟨List.mem_range.2 hi, by rw [e]; rfl⟩
    rw [this] at hm; cases hm

theorem filter_upd {l : List Nat} (hn : l.Nodup) {p q : Nat → Bool} {i : Nat} (hi : i ∈ l) (hp : p i = true) (hq : q i = false) (hne : ∀ j, j ≠ i → q j = p j) :
    (l.filter q).length + 1 = (l.filter p).length := by
  induction l with
  | nil => cases hi
  | cons x l ih =>
    rw [List.nodup_cons] at hn
    by_cases e : x = i
    · subst e
      rw [List.filter_cons_of_neg (by rw [hq]; simp), List.filter_cons_of_pos hp, List.length_cons]
      have : l.filter q = l.filter p := List.filter_congr fun j hj => hne j (fun h => hn.1 (h ▸ hj))
      rw [this]
    · have hil : i ∈ l := by
        cases hi with
        | head => exact absurd rfl e
        | tail _ h => exact h
      have := ih hn.2 hil
      by_cases hx : p x = true
      · rw [List.filter_cons_of_pos (by rw [hne x e]; exact hx), List.filter_cons_of_pos hx, List.length_cons, List.length_cons]; omega
      · rw [List.filter_cons_of_neg (by rw [hne x e]; exact hx), List.filter_cons_of_neg hx]; exact this

theorem left_set {listed : Array Bool} {i : Nat} (h : listed.getD i true = false) : left (listed.setIfInBounds i true) + 1 = left listed := by
  have hi : i < listed.size := by
    rcases Nat.lt_or_ge i listed.size with h' | h'
    · exact h'
    · rw [Array.getD_eq_getD_getElem?, Array.getElem?_eq_none h'] at h; cases h
  unfold left
  rw [Array.size_setIfInBounds]
  refine filter_upd List.nodup_range (i := i) (List.mem_range.2 hi) (by rw [h]; rfl) ?_ fun j hj => ?_
  · simp [hi]
  · rw [getD_set_ne true (Ne.symm hj)]

theorem getD_tf {listed : Array Bool} {i : Nat} (hi : i < listed.size) : listed.getD i true = listed.getD i false := by
  simp [Array.getD_eq_getD_getElem?, Array.getElem?_eq_getElem hi]

/-- The last operations, one behind the other. -/
theorem reach_listed {ops : Array Oper} {listed : Array Bool} (hcl : ∀ (i : Nat) (o : Oper), ops[i]? = some o → Lof listed i = true → ∀ e ∈ o.after, Region.binds .any e = true → Lof listed e.on = true)
    {o : Oper} {j : Nat} (h : Reach ops o j) (hall : ∀ e ∈ o.after, Region.binds .any e = true → Lof listed e.on = true) : Lof listed j = true := by
  induction h with
  | edge he hb hj => rw [← hj]; exact hall _ he hb
  | step he hb hp _ ih => exact ih (hcl _ _ hp (hall _ he hb))

theorem any_tail (hs : DrawSpec ops m) {Q : Exit → Act → World → Prop} : ∀ (fuel k : Nat) (listed : Array Bool) (a : Act) (w : World), m ≤ k → listed.size = ops.size → left listed = fuel →
    (∀ i, i < ops.size → Lof listed i = decide (i < k)) → k ≤ ops.size → wpList P ops Q (ops.toList.drop k) a w → wpAny P .any ops Q fuel listed a w := by
  intro fuel
  induction fuel with
  | zero =>
    intro k listed a w hmk hsz hleft hL hk h
    have hall := left_zero hleft
    have hkn : k = ops.size := by
      rcases Nat.lt_or_ge k ops.size with h' | h'
      · have h1 := hall k (by omega)
        have h2 := hL k h'
        unfold Lof at h2
        rw [← getD_tf (by omega), h1] at h2
        simp at h2
      · omega
    refine ⟨?_, ?_⟩
    · cases hr : Region.ready .any ops listed with
      | nil => rfl
      | cons x xs =>
        have hm : x ∈ Region.ready .any ops listed := by rw [hr]; exact List.mem_cons_self
        obtain ⟨h1, o, ho, _⟩ := mem_ready.1 hm
        rw [hall x (by rw [hsz]; exact (Array.getElem?_eq_some_iff.1 ho).1)] at h1; cases h1
    · rw [hkn, List.drop_eq_nil_of_le (by simp)] at h
      exact h
  | succ fuel ih =>
    intro k listed a w hmk hsz hleft hL hk h
    have hkn : k < ops.size := by
      rcases Nat.lt_or_ge k ops.size with h' | h'
      · exact h'
      · exfalso
        have : left listed = 0 := by
          unfold left
          rw [List.length_eq_zero_iff, List.filter_eq_nil_iff]
          intro i hi
          have hi' : i < listed.size := List.mem_range.1 hi
          have := hL i (by omega)
          unfold Lof at this
          rw [getD_tf hi', this]; simp; omega
        omega
    have hready : ∀ i, i ∈ Region.ready .any ops listed → i = k := by
      intro i hi
      obtain ⟨h1, o, ho, hall⟩ := mem_ready.1 hi
      have hin : i < ops.size := (Array.getElem?_eq_some_iff.1 ho).1
      have h2 := hL i hin
      unfold Lof at h2
      rw [← getD_tf (by omega), h1] at h2
      have hki : ¬ i < k := by simpa using h2.symm
      rcases Nat.lt_or_ge k i with h3 | h3
      · have h4 : Lof listed k = true := reach_listed (fun i' o' ho' hl' e he hb => by
            have h6 := hs.back i' o' ho' e he hb
            have h7 := (Array.getElem?_eq_some_iff.1 ho').1
            rw [hL i' h7] at hl'
            rw [hL e.on (by omega)]
            simp at hl' ⊢; omega) ((hs.late i o ho (by omega) k h3).resolve_left fun hin => by have := inertB_lt hin; omega) hall
        have h5 := hL k hkn
        rw [h4] at h5; simp at h5
      · omega
    have hkr : k ∈ Region.ready .any ops listed := by
      obtain ⟨o, ho⟩ : ∃ o, ops[k]? = some o := ⟨_, Array.getElem?_eq_getElem hkn⟩
      refine mem_ready.2 ⟨?_, o, ho, fun e he hb => ?_⟩
      · have := hL k hkn
        unfold Lof at this
        rw [getD_tf (by omega), this]; simp
      · have h1 := hs.back k o ho e he hb
        have := hL e.on (by omega)
        unfold Lof at this
        rw [this]; simpa using h1
    refine ⟨fun hnil => (by rw [hnil] at hkr; cases hkr), fun i hi => ?_⟩
    obtain rfl := hready i hi
    obtain ⟨o, ho⟩ : ∃ o, ops[i]? = some o := ⟨_, Array.getElem?_eq_getElem hkn⟩
    have hdrop : ops.toList.drop i = o :: ops.toList.drop (i + 1) := by
      rw [List.drop_eq_getElem_cons (by simpa using hkn)]
      congr 1
      have := (Array.getElem?_eq_some_iff.1 ho).2
      simpa using this
    rw [hdrop] at h
    have hnext : ∀ a' w', wpList P ops Q (ops.toList.drop (i + 1)) a' w' → wpAny P .any ops Q fuel (listed.setIfInBounds i true) a' w' := by
      intro a' w' h'
      have hg := (mem_ready.1 hi).1
      refine ih (i + 1) _ a' w' (by omega) (by simp [hsz]) (by have := left_set hg; omega) (fun j hj => ?_) (by omega) h'
      rw [Lof_set (by omega)]
      by_cases e : j = i
      · subst e; rw [upd_same]; simp
      · rw [upd_ne e, hL j hj]
        by_cases h1 : j < i
        · simp [h1, show j < i + 1 by omega]
        · simp [h1, show ¬ j < i + 1 by omega]
    unfold wpOp
    simp only [ho]
    unfold wpList at h
    split
    · rename_i hw
      rw [if_pos hw] at h
      exact h.imp (Oper.wp_mono hnext) id
    · rename_i hw
      rw [if_neg hw] at h
      exact hnext _ _ h

theorem any_early (hs : DrawSpec ops m) (hm : m ≤ ops.size) (hT : ∀ j, j < m → ∃ o, ops[j]? = some o ∧ F (j + 1) = (F j).putO o.dst (V j) ∧ EOp P ops o (F j) (G j) (V j) (G (j + 1)))
    (hF : F 0 = fr) (hG : G 0 = H) {β0 : Bt} {w0 : World} {Q : Exit → Act → World → Prop} (hpan : ∀ c a w, ¬ Q (.panic c) a w)
    (hend : ∀ β a w, FRel β (F m) a → HRel β (G m) w → Step H.next β0 w0 β w → wpList P ops Q (ops.toList.drop m) a w) :
    ∀ (fuel : Nat) (listed : Array Bool) (β : Bt) (a : Act) (w : World), listed.size = ops.size → left listed = fuel → (∀ i, m ≤ i → i < ops.size → Lof listed i = false) →
      (∀ (i : Nat) (o : Oper), ops[i]? = some o → Lof listed i = true → ∀ e ∈ o.after, Region.binds .any e = true → Lof listed e.on = true) →
      Inv ops m fr H G V β0 w0 (Lof listed) β a w → wpAny P .any ops Q fuel listed a w := by
  have hm0 := heaps_mono hT
  intro fuel
  induction fuel with
  | zero =>
    intro listed β a w hsz hleft hlate hcl hI
    -- all have come up
    have hall := left_zero hleft
    have hmn : m = ops.size := by
      rcases Nat.lt_or_ge m ops.size with h | h
      · have h1 := hlate m (Nat.le_refl _) h
        have h2 := hall m (by omega)
        unfold Lof at h1
        rw [getD_tf (by omega), h1] at h2; cases h2
      · omega
    refine any_tail hs 0 m listed a w (Nat.le_refl _) hsz hleft (fun i hi => ?_) hm (fin hs hm0 hT hF hG hend hI fun i hi => ?_)
    · have := hall i (by omega)
      rw [getD_tf (by omega)] at this
      unfold Lof; rw [this]; simp; omega
    · have := hall i (by omega)
      rw [getD_tf (by omega)] at this
      exact this
  | succ fuel ih =>
    intro listed β a w hsz hleft hlate hcl hI
    -- what is known once one more has come up
    have again : ∀ (i : Nat) (o : Oper), ops[i]? = some o → i < m → i ∈ Region.ready .any ops listed → ∀ β' a' w', Inv ops m fr H G V β0 w0 (upd (Lof listed) i) β' a' w' → wpAny P .any ops Q fuel (listed.setIfInBounds i true) a' w' := by
      intro i o ho him hi β' a' w' hI'
      obtain ⟨h1, o2, ho2, hall⟩ := mem_ready.1 hi
      have hin : i < ops.size := (Array.getElem?_eq_some_iff.1 ho).1
      refine ih (listed.setIfInBounds i true) β' a' w' (by simp [hsz]) (by have := left_set h1; omega) (fun j hj hjn => ?_) (fun i' o' ho' hl' e he hb => ?_) ?_
      · rw [Lof_set (by omega), upd_ne (by omega)]; exact hlate j hj hjn
      · rw [Lof_set (by omega)] at hl' ⊢
        by_cases h9 : e.on = i
        · rw [h9, upd_same]
        · rw [upd_ne h9]
          by_cases h8 : i' = i
          · subst h8; rw [ho2] at ho'; cases ho'; exact hall e he hb
          · rw [upd_ne h8] at hl'; exact hcl i' o' ho' hl' e he hb
      · rw [Lof_set (by omega)]; exact hI'
    by_cases hinert : ∃ i, inertB ops m i = true ∧ i ∈ Region.ready .any ops listed
    · -- one that only takes a part out of a tuple: it may be taken at once
      obtain ⟨i, hin, hr⟩ := hinert
      obtain ⟨o, ho, hop, hg, hap⟩ := inertB_spec hin
      have him := inertB_lt hin
      obtain ⟨h1, o2, ho2, hall⟩ := mem_ready.1 hr
      have hio : i < ops.size := (Array.getElem?_eq_some_iff.1 ho).1
      have hLi : Lof listed i = false := by unfold Lof; rw [← getD_tf (by omega)]; exact h1
      have hw : wpOp P ops (fun _ _ _ => False) i (fun a' w' => ∃ β', Inv ops m fr H G V β0 w0 (upd (Lof listed) i) β' a' w') a w :=
        hI.next hs hT hF hG him hLi (fun o' ho' e he hb => by rw [ho2] at ho'; cases ho'; exact hall e he hb) (fun β' a' w' h => ⟨β', h⟩)
      obtain ⟨v, hy, β', hI'⟩ := inert_yields ho hop hg hw
      exact wpAny_first ho (Region.noSelect_spec hs.nosel) (fun c a w h => absurd h (hpan c _ w)) fuel listed a w (fun j oj hj hji hl hno => hap j oj hj hji hno fun e he hb hon => by
        rw [ho] at ho2; cases ho2
        have h5 := hall e he hb
        have hjn : j < ops.size := (Array.getElem?_eq_some_iff.1 hj).1
        rw [hon, ← getD_tf (by omega), hl] at h5; cases h5) hr hy (again i o ho him hr β' _ _ hI')
    by_cases hdone : ∀ i, i < m → Lof listed i = true
    · refine any_tail hs (fuel + 1) m listed a w (Nat.le_refl _) hsz hleft (fun i hi => ?_) hm (fin hs hm0 hT hF hG hend hI hdone)
      by_cases h : i < m
      · rw [hdone i h]; simp [h]
      · rw [hlate i (by omega) hi]; simp [h]
    · have hex : ∃ i, i < m ∧ Lof listed i = false := by
        apply Classical.byContradiction
        intro hne
        apply hdone
        intro i hi
        cases e : Lof listed i with
        | true => rfl
        | false => exact absurd ⟨i, hi, e⟩ hne
      -- the least one that has not come up may come up
      have hleast : ∃ i, i < m ∧ i ∈ Region.ready .any ops listed := by
        obtain ⟨i, ⟨him, hLi⟩, hmin⟩ := exists_least hex
        obtain ⟨o, ho, _⟩ := hT i him
        refine ⟨i, him, mem_ready.2 ⟨by unfold Lof at hLi; rw [getD_tf (by omega)]; exact hLi, o, ho, fun e he hb => ?_⟩⟩
        have h1 := hs.back i o ho e he hb
        cases e1 : Lof listed e.on with
        | true => exact e1
        | false => exact absurd (hmin e.on ⟨by omega, e1⟩) (by omega)
      refine ⟨fun hnil => (by obtain ⟨i, _, hi⟩ := hleast; rw [hnil] at hi; cases hi), fun i hi => ?_⟩
      obtain ⟨h1, o, ho, hall⟩ := mem_ready.1 hi
      have hin : i < ops.size := (Array.getElem?_eq_some_iff.1 ho).1
      have hLi : Lof listed i = false := by unfold Lof; rw [← getD_tf (by omega)]; exact h1
      have him : i < m := by
        rcases Nat.lt_or_ge i m with h | h
        · exact h
        · exfalso
          obtain ⟨j, hjm, hj⟩ := hleast
          obtain ⟨g1, oj, hoj, _⟩ := mem_ready.1 hj
          have hjn : j < ops.size := (Array.getElem?_eq_some_iff.1 hoj).1
          have hLj : Lof listed j = false := by unfold Lof; rw [← getD_tf (by omega)]; exact g1
          rcases hs.late i o ho h j (by omega) with hq | hq
          · exact hinert ⟨j, hq, hj⟩
          · have := reach_listed hcl hq hall
            rw [this] at hLj; cases hLj
      refine hI.next hs hT hF hG him hLi (fun o' ho' e he hb => ?_) fun β' a' w' hI' => again i o ho him hi β' a' w' hI'
      rw [ho] at ho'; cases ho'; exact hall e he hb
where
  fin {P : Program} {ops : Array Oper} {m : Nat} {fr : AFr} {H : AHeap} {F : Nat → AFr} {G : Nat → AHeap} {V : Nat → Value} (hs : DrawSpec ops m)
      (hm0 : ∀ j k, j ≤ k → k ≤ m → (G j).next ≤ (G k).next ∧ Same (G j).next (G j) (G k))
      (hT : ∀ j, j < m → ∃ o, ops[j]? = some o ∧ F (j + 1) = (F j).putO o.dst (V j) ∧ EOp P ops o (F j) (G j) (V j) (G (j + 1)))
      (hF : F 0 = fr) (hG : G 0 = H) {β0 : Bt} {w0 : World} {Q : Exit → Act → World → Prop}
      (hend : ∀ β a w, FRel β (F m) a → HRel β (G m) w → Step H.next β0 w0 β w → wpList P ops Q (ops.toList.drop m) a w)
      {L : Nat → Bool} {β : Bt} {a : Act} {w : World} (hI : Inv ops m fr H G V β0 w0 L β a w) (hall : ∀ i, i < m → L i = true) : wpList P ops Q (ops.toList.drop m) a w := by
    have hcut : ∀ n, ∀ b t, cut β n b = some t → β b = some t ∨ β b = some .stale := fun n b t h => .inl (cut_some h).2
    refine hend β a w ⟨hI.defers, ?_, fun t => ?_⟩ ⟨fun b B o S es own hb => ?_, hI.stale, hI.inj, fun b hb => ?_, Step.glob hI.step hI.glob0⟩ hI.step
    · rw [hI.size, (frames_get hs.uniq hT hF 0 m (Nat.le_refl _)).2.2]
    · obtain ⟨g1, g2, _⟩ := frames_get hs.uniq hT hF t m (Nat.le_refl _)
      by_cases hw : ∃ j, j < m ∧ dstAt ops j = some t
      · obtain ⟨j, hj, hd⟩ := hw
        rw [g1 j hj hd]
        exact (hI.done j hj (hall j hj) t hd).mono (hcut _)
      · have hno : ∀ j, j < m → dstAt ops j ≠ some t := fun j hj h => hw ⟨j, hj, h⟩
        rw [g2 hno]
        exact (hI.rest t fun j hj _ => hno j hj).mono (hcut _)
    · obtain ⟨k, hk, hr⟩ := hI.rel b B o S es own hb
      refine ⟨k, hk, ?_⟩
      rcases hr with ⟨_, hbr⟩ | ⟨_, _, _, _, _, hbr⟩ <;> exact hbr.mono (hcut _) rfl
    · cases e : β b with
      | none => rfl
      | some t =>
        exfalso
        have h0 := (hm0 0 m (by omega) (Nat.le_refl _)).1
        rw [hG] at h0
        obtain ⟨j, h1, h2, h3, h4⟩ := hI.dom b (by omega) (by rw [e]; simp)
        have := (hm0 (j + 1) m (by omega) (Nat.le_refl _)).1
        omega

/-- What is left of a region that draws: the early operations one by one in the text's order, then the others. -/
def DW (P : Program) (ops : Array Oper) (Q : Exit → AFr → AHeap → Prop) (m i : Nat) (fr : AFr) (H : AHeap) : Prop :=
  ∃ fr' H', Tr P ops i fr H m fr' H' ∧ AL P ops Q (ops.toList.drop m) fr' H'

theorem aw_draw {id : Nat} {Q : Exit → AFr → AHeap → Prop} (hmo : P.follows .mixedOrders = true) (hok : drawOk ops m = true) (hm : Nat.ble m ops.size = true) (hp : ∀ c fr H, ¬ Q (.panic c) fr H) (h : DW P ops Q m 0 fr H) :
    AW P (.region id ops true) Q fr H := by
  obtain ⟨fr', H', hTr, hAL⟩ := h
  obtain ⟨F, G, V, hF, hG, hF', hG', hT⟩ := hTr.funs
  have hs := drawOk_spec hok
  have hm' := Nat.le_of_ble_eq_true hm
  have hT' : ∀ j, j < m → ∃ o, ops[j]? = some o ∧ F (j + 1) = (F j).putO o.dst (V j) ∧ EOp P ops o (F j) (G j) (V j) (G (j + 1)) := fun j hj => hT j (Nat.zero_le _) hj
  have hm0 := heaps_mono hT'
  intro β a w hf hh
  refine wp_region_any hmo ?_
  have hsame : Same H.next H (G m) ∧ H.next ≤ (G m).next := by
    have := hm0 0 m (by omega) (Nat.le_refl _)
    rw [hG] at this; exact ⟨this.2, this.1⟩
  refine any_early hs hm' hT' hF hG (β0 := β) (w0 := w) (fun c a w ⟨fr', H', β', q, _⟩ => hp c fr' H' q) ?_ ops.size (Array.replicate ops.size false) β a _ (by simp) ?_ (fun i _ hi => ?_) (fun i o ho hl e he hb => ?_) ⟨hf.defers, hf.size, ?_, ?_, ?_, ?_, hh.inj, ?_, Step.drew _ _ _, hh.glob⟩
  · intro β1 a1 w1 hf1 hh1 hst
    rw [hF'] at hf1
    rw [hG'] at hh1
    have := hAL β1 a1 w1 hf1 hh1
    refine al_op.wpList_monoQ ?_ this
    intro e a2 w2 hp
    exact hp.lift hst (by rw [← hG']; exact hsame.2)
  · unfold left
    have : (List.range (Array.replicate ops.size false).size).filter (fun i => !(Array.replicate ops.size false).getD i true) = List.range ops.size := by
      rw [Array.size_replicate, List.filter_eq_self]
      intro i hi
      simp [List.mem_range.1 hi]
    rw [this, List.length_range]
  · unfold Lof; simp [hi]
  · exfalso
    have hi := (Array.getElem?_eq_some_iff.1 ho).1
    unfold Lof at hl
    simp [hi] at hl
  · intro i hi hL d hd
    exfalso
    unfold Lof at hL
    simp [show i < ops.size by omega] at hL
  · intro t _
    rw [cut_all hh.dom]; exact hf.val t
  · intro b B o S es own hb
    obtain ⟨k, hk, hr⟩ := hh.rel b B o S es own hb
    have hlt := AHeap.lt hk
    refine ⟨k, by rw [hsame.1 b hlt]; exact hk, .inl ⟨hlt, ?_⟩⟩
    rw [cut_all hh.dom]
    cases k <;> exact hr
  · intro b hb
    have h1 : b < H.next := by
      rcases Nat.lt_or_ge b H.next with h | h
      · exact h
      · rw [hh.dom b h] at hb; cases hb
    rw [hsame.1 b h1]; exact hh.stale b hb
  · intro b hb hne
    exact absurd (hh.dom b hb) hne

theorem dw_end {Q : Exit → AFr → AHeap → Prop} (h : AL P ops Q (ops.toList.drop m) fr H) : DW P ops Q m m fr H := ⟨fr, H, .nil, h⟩

theorem dw_step {Q : Exit → AFr → AHeap → Prop} {i : Nat} {o : Oper} {v : Value} {H1 : AHeap} (ho : ops[i]? = some o) (hE : EOp P ops o fr H v H1) (h : DW P ops Q m (i + 1) (fr.putO o.dst v) H1) : DW P ops Q m i fr H := by
  obtain ⟨fr', H', hT, hA⟩ := h
  exact ⟨fr', H', .step ho hE hT, hA⟩
end
end Go.AW
