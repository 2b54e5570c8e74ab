/- Regions whose order is drawn: their rules. -/
import Derived.Test.YtkjmcolnoehjbaaDraw2
namespace Go.AW
open Go
set_option linter.unusedVariables false
set_option linter.unusedSimpArgs false

section
variable {P : Program} {ops : Array Oper} {m : Nat} {fr : AFr} {H : AHeap} {F : Nat → AFr} {G : Nat → AHeap} {V : Nat → Value}

def Lof (listed : Array Bool) : Nat → Bool := fun i => listed.getD i false
theorem Lof_set {listed : Array Bool} {i : Nat} (hi : i < listed.size) : Lof (listed.setIfInBounds i true) = upd (Lof listed) i := by
  funext j
  unfold Lof
  by_cases e : j = i
  · subst e; rw [upd_same]; simp [hi]
  · rw [upd_ne e, Array.getD_eq_getD_getElem?, Array.getElem?_setIfInBounds_ne (Ne.symm e), ← Array.getD_eq_getD_getElem?]

/-- How many have not come up. -/
def left (listed : Array Bool) : Nat := ((List.range listed.size).filter fun i => !listed.getD i true).length

theorem left_zero {listed : Array Bool} (h : left listed = 0) : ∀ i, i < listed.size → listed.getD i true = true := by
  intro i hi
  unfold left at h
  have := List.eq_nil_of_length_eq_zero h
  cases e : listed.getD i true with
  | true => rfl
  | false =>
    have hm : i ∈ (List.range listed.size).filter fun i => !listed.getD i true := by
      rw [List.mem_filter]; exact ⟨List.mem_range.2 hi, by rw [e]; rfl⟩
    rw [this] at hm; cases hm

theorem filter_upd {l : List Nat} (hn : l.Nodup) {p q : Nat → Bool} {i : Nat} (hi : i ∈ l) (hp : p i = true) (hq : q i = false) (hne : ∀ j, j ≠ i → q j = p j) :
    (l.filter q).length + 1 = (l.filter p).length := by
  induction l with
  | nil => cases hi
  | cons x l ih =>
    rw [List.nodup_cons] at hn
    by_cases e : x = i
    · subst e
      rw [List.filter_cons_of_neg (by rw [hq]; simp), List.filter_cons_of_pos hp, List.length_cons]
      have : l.filter q = l.filter p := List.filter_congr fun j hj => hne j (fun h => hn.1 (h ▸ hj))
      rw [this]
    · have hil : i ∈ l := by
        cases hi with
        | head => exact absurd rfl e
        | tail _ h => exact h
      have := ih hn.2 hil
      by_cases hx : p x = true
      · rw [List.filter_cons_of_pos (by rw [hne x e]; exact hx), List.filter_cons_of_pos hx, List.length_cons, List.length_cons]; omega
      · rw [List.filter_cons_of_neg (by rw [hne x e]; exact hx), List.filter_cons_of_neg hx]; exact this

theorem left_set {listed : Array Bool} {i : Nat} (h : listed.getD i true = false) : left (listed.setIfInBounds i true) + 1 = left listed := by
  have hi : i < listed.size := by
    rcases Nat.lt_or_ge i listed.size with h' | h'
    · exact h'
    · rw [Array.getD_eq_getD_getElem?, Array.getElem?_eq_none h'] at h; cases h
  unfold left
  rw [Array.size_setIfInBounds]
  refine filter_upd List.nodup_range (i := i) (List.mem_range.2 hi) (by rw [h]; rfl) ?_ fun j hj => ?_
  · simp [hi]
  · rw [getD_set_ne true (Ne.symm hj)]

theorem getD_tf {listed : Array Bool} {i : Nat} (hi : i < listed.size) : listed.getD i true = listed.getD i false := by
  simp [Array.getD_eq_getD_getElem?, Array.getElem?_eq_getElem hi]

/-- The last operations, one behind the other. -/
theorem reach_listed {ops : Array Oper} {listed : Array Bool} (hcl : ∀ (i : Nat) (o : Oper), ops[i]? = some o → Lof listed i = true → ∀ e ∈ o.after, Region.binds .any e = true → Lof listed e.on = true)
    {o : Oper} {j : Nat} (h : Reach ops o j) (hall : ∀ e ∈ o.after, Region.binds .any e = true → Lof listed e.on = true) : Lof listed j = true := by
  induction h with
  | edge he hb hj => rw [← hj]; exact hall _ he hb
  | step he hb hp _ ih => exact ih (hcl _ _ hp (hall _ he hb))

theorem any_tail (hs : DrawSpec ops m) {Q : Exit → Act → World → Prop} : ∀ (fuel k : Nat) (listed : Array Bool) (a : Act) (w : World), m ≤ k → listed.size = ops.size → left listed = fuel →
    (∀ i, i < ops.size → Lof listed i = decide (i < k)) → k ≤ ops.size → wpList P ops Q (ops.toList.drop k) a w → wpAny P .any ops Q fuel listed a w := by
  intro fuel
  induction fuel with
  | zero =>
    intro k listed a w hmk hsz hleft hL hk h
    have hall := left_zero hleft
    have hkn : k = ops.size := by
      rcases Nat.lt_or_ge k ops.size with h' | h'
      · have h1 := hall k (by omega)
        have h2 := hL k h'
        unfold Lof at h2
        rw [← getD_tf (by omega), h1] at h2
        simp at h2
      · omega
    refine ⟨?_, ?_⟩
    · cases hr : Region.ready .any ops listed with
      | nil => rfl
      | cons x xs =>
        have hm : x ∈ Region.ready .any ops listed := by rw [hr]; exact List.mem_cons_self
        obtain ⟨h1, o, ho, _⟩ := mem_ready.1 hm
        rw [hall x (by rw [hsz]; exact (Array.getElem?_eq_some_iff.1 ho).1)] at h1; cases h1
    · rw [hkn, List.drop_eq_nil_of_le (by simp)] at h
      exact h
  | succ fuel ih =>
    intro k listed a w hmk hsz hleft hL hk h
    have hkn : k < ops.size := by
      rcases Nat.lt_or_ge k ops.size with h' | h'
      · exact h'
      · exfalso
        have : left listed = 0 := by
          unfold left
          rw [List.length_eq_zero_iff, List.filter_eq_nil_iff]
          intro i hi
          have hi' : i < listed.size := List.mem_range.1 hi
          have := hL i (by omega)
          unfold Lof at this
          rw [getD_tf hi', this]; simp; omega
        omega
    have hready : ∀ i, i ∈ Region.ready .any ops listed → i = k := by
      intro i hi
      obtain ⟨h1, o, ho, hall⟩ := mem_ready.1 hi
      have hin : i < ops.size := (Array.getElem?_eq_some_iff.1 ho).1
      have h2 := hL i hin
      unfold Lof at h2
      rw [← getD_tf (by omega), h1] at h2
      have hki : ¬ i < k := by simpa using h2.symm
      rcases Nat.lt_or_ge k i with h3 | h3
      · have h4 : Lof listed k = true := reach_listed (fun i' o' ho' hl' e he hb => by
            have h6 := hs.back i' o' ho' e he hb
            have h7 := (Array.getElem?_eq_some_iff.1 ho').1
            rw [hL i' h7] at hl'
            rw [hL e.on (by omega)]
            simp at hl' ⊢; omega) ((hs.late i o ho (by omega) k h3).resolve_left fun hin => by have := inertB_lt hin; omega) hall
        have h5 := hL k hkn
        rw [h4] at h5; simp at h5
      · omega
    have hkr : k ∈ Region.ready .any ops listed := by
      obtain ⟨o, ho⟩ : ∃ o, ops[k]? = some o := ⟨_, Array.getElem?_eq_getElem hkn⟩
      refine mem_ready.2 ⟨?_, o, ho, fun e he hb => ?_⟩
      · have := hL k hkn
        unfold Lof at this
        rw [getD_tf (by omega), this]; simp
      · have h1 := hs.back k o ho e he hb
        have := hL e.on (by omega)
        unfold Lof at this
        rw [this]; simpa using h1
    refine ⟨fun hnil => (by rw [hnil] at hkr; cases hkr), fun i hi => ?_⟩
    obtain rfl := hready i hi
    obtain ⟨o, ho⟩ : ∃ o, ops[i]? = some o := ⟨_, Array.getElem?_eq_getElem hkn⟩
    have hdrop : ops.toList.drop i = o :: ops.toList.drop (i + 1) := by
      rw [List.drop_eq_getElem_cons (by simpa using hkn)]
      congr 1
      have := (Array.getElem?_eq_some_iff.1 ho).2
      simpa using this
    rw [hdrop] at h
    have hnext : ∀ a' w', wpList P ops Q (ops.toList.drop (i + 1)) a' w' → wpAny P .any ops Q fuel (listed.setIfInBounds i true) a' w' := by
      intro a' w' h'
      have hg := (mem_ready.1 hi).1
      refine ih (i + 1) _ a' w' (by omega) (by simp [hsz]) (by have := left_set hg; omega) (fun j hj => ?_) (by omega) h'
      rw [Lof_set (by omega)]
      by_cases e : j = i
      · subst e; rw [upd_same]; simp
      · rw [upd_ne e, hL j hj]
        by_cases h1 : j < i
        · simp [h1, show j < i + 1 by omega]
        · simp [h1, show ¬ j < i + 1 by omega]
    unfold wpOp
    simp only [ho]
    unfold wpList at h
    split
    · rename_i hw
      rw [if_pos hw] at h
      exact h.imp (Oper.wp_mono hnext) id
    · rename_i hw
      rw [if_neg hw] at h
      exact hnext _ _ h

theorem any_early (hs : DrawSpec ops m) (hm : m ≤ ops.size) (hT : ∀ j, j < m → ∃ o, ops[j]? = some o ∧ F (j + 1) = (F j).putO o.dst (V j) ∧ EOp P ops o (F j) (G j) (V j) (G (j + 1)))
    (hF : F 0 = fr) (hG : G 0 = H) {β0 : Bt} {w0 : World} {Q : Exit → Act → World → Prop} (hpan : ∀ c a w, ¬ Q (.panic c) a w)
    (hend : ∀ β a w, FRel β (F m) a → HRel β (G m) w → Step H.next β0 w0 β w → wpList P ops Q (ops.toList.drop m) a w) :
    ∀ (fuel : Nat) (listed : Array Bool) (β : Bt) (a : Act) (w : World), listed.size = ops.size → left listed = fuel → (∀ i, m ≤ i → i < ops.size → Lof listed i = false) →
      (∀ (i : Nat) (o : Oper), ops[i]? = some o → Lof listed i = true → ∀ e ∈ o.after, Region.binds .any e = true → Lof listed e.on = true) →
      Inv ops m fr H G V β0 w0 (Lof listed) β a w → wpAny P .any ops Q fuel listed a w := by
  have hm0 := heaps_mono hT
  intro fuel
  induction fuel with
  | zero =>
    intro listed β a w hsz hleft hlate hcl hI
    -- all have come up
    have hall := left_zero hleft
    have hmn : m = ops.size := by
      rcases Nat.lt_or_ge m ops.size with h | h
      · have h1 := hlate m (Nat.le_refl _) h
        have h2 := hall m (by omega)
        unfold Lof at h1
        rw [getD_tf (by omega), h1] at h2; cases h2
      · omega
    refine any_tail hs 0 m listed a w (Nat.le_refl _) hsz hleft (fun i hi => ?_) hm (fin hs hm0 hT hF hG hend hI fun i hi => ?_)
    · have := hall i (by omega)
      rw [getD_tf (by omega)] at this
      unfold Lof; rw [this]; simp; omega
    · have := hall i (by omega)
      rw [getD_tf (by omega)] at this
      exact this
  | succ fuel ih =>
    intro listed β a w hsz hleft hlate hcl hI
    -- what is known once one more has come up
    have again : ∀ (i : Nat) (o : Oper), ops[i]? = some o → i < m → i ∈ Region.ready .any ops listed → ∀ β' a' w', Inv ops m fr H G V β0 w0 (upd (Lof listed) i) β' a' w' → wpAny P .any ops Q fuel (listed.setIfInBounds i true) a' w' := by
      intro i o ho him hi β' a' w' hI'
      obtain ⟨h1, o2, ho2, hall⟩ := mem_ready.1 hi
      have hin : i < ops.size := (Array.getElem?_eq_some_iff.1 ho).1
      refine ih (listed.setIfInBounds i true) β' a' w' (by simp [hsz]) (by have := left_set h1; omega) (fun j hj hjn => ?_) (fun i' o' ho' hl' e he hb => ?_) ?_
      · rw [Lof_set (by omega), upd_ne (by omega)]; exact hlate j hj hjn
      · rw [Lof_set (by omega)] at hl' ⊢
        by_cases h9 : e.on = i
        · rw [h9, upd_same]
        · rw [upd_ne h9]
          by_cases h8 : i' = i
          · subst h8; rw [ho2] at ho'; cases ho'; exact hall e he hb
          · rw [upd_ne h8] at hl'; exact hcl i' o' ho' hl' e he hb
      · rw [Lof_set (by omega)]; exact hI'
    by_cases hinert : ∃ i, inertB ops m i = true ∧ i ∈ Region.ready .any ops listed
    · -- one that only takes a part out of a tuple: it may be taken at once
      obtain ⟨i, hin, hr⟩ := hinert
      obtain ⟨o, ho, hop, hg, hap⟩ := inertB_spec hin
      have him := inertB_lt hin
      obtain ⟨h1, o2, ho2, hall⟩ := mem_ready.1 hr
      have hio : i < ops.size := (Array.getElem?_eq_some_iff.1 ho).1
      have hLi : Lof listed i = false := by unfold Lof; rw [← getD_tf (by omega)]; exact h1
      have hw : wpOp P ops (fun _ _ _ => False) i (fun a' w' => ∃ β', Inv ops m fr H G V β0 w0 (upd (Lof listed) i) β' a' w') a w :=
        hI.next hs hT hF hG him hLi (fun o' ho' e he hb => by rw [ho2] at ho'; cases ho'; exact hall e he hb) (fun β' a' w' h => ⟨β', h⟩)
      obtain ⟨v, hy, β', hI'⟩ := inert_yields ho hop hg hw
      exact wpAny_first ho (Region.noSelect_spec hs.nosel) (fun c a w h => absurd h (hpan c _ w)) fuel listed a w (fun j oj hj hji hl hno => hap j oj hj hji hno fun e he hb hon => by
        rw [ho] at ho2; cases ho2
        have h5 := hall e he hb
        have hjn : j < ops.size := (Array.getElem?_eq_some_iff.1 hj).1
        rw [hon, ← getD_tf (by omega), hl] at h5; cases h5) hr hy (again i o ho him hr β' _ _ hI')
    by_cases hdone : ∀ i, i < m → Lof listed i = true
    · refine any_tail hs (fuel + 1) m listed a w (Nat.le_refl _) hsz hleft (fun i hi => ?_) hm (fin hs hm0 hT hF hG hend hI hdone)
      by_cases h : i < m
      · rw [hdone i h]; simp [h]
      · rw [hlate i (by omega) hi]; simp [h]
    · have hex : ∃ i, i < m ∧ Lof listed i = false := by
        apply Classical.byContradiction
        intro hne
        apply hdone
        intro i hi
        cases e : Lof listed i with
        | true => rfl
        | false => exact absurd ⟨i, hi, e⟩ hne
      -- the least one that has not come up may come up
      have hleast : ∃ i, i < m ∧ i ∈ Region.ready .any ops listed := by
        obtain ⟨i, ⟨him, hLi⟩, hmin⟩ := exists_least hex
        obtain ⟨o, ho, _⟩ := hT i him
        refine ⟨i, him, mem_ready.2 ⟨by unfold Lof at hLi; rw [getD_tf (by omega)]; exact hLi, o, ho, fun e he hb => ?_⟩⟩
        have h1 := hs.back i o ho e he hb
        cases e1 : Lof listed e.on with
        | true => exact e1
        | false => exact absurd (hmin e.on ⟨by omega, e1⟩) (by omega)
      refine ⟨fun hnil => (by obtain ⟨i, _, hi⟩ := hleast; rw [hnil] at hi; cases hi), fun i hi => ?_⟩
      obtain ⟨h1, o, ho, hall⟩ := mem_ready.1 hi
      have hin : i < ops.size := (Array.getElem?_eq_some_iff.1 ho).1
      have hLi : Lof listed i = false := by unfold Lof; rw [← getD_tf (by omega)]; exact h1
      have him : i < m := by
        rcases Nat.lt_or_ge i m with h | h
        · exact h
        · exfalso
          obtain ⟨j, hjm, hj⟩ := hleast
          obtain ⟨g1, oj, hoj, _⟩ := mem_ready.1 hj
          have hjn : j < ops.size := (Array.getElem?_eq_some_iff.1 hoj).1
          have hLj : Lof listed j = false := by unfold Lof; rw [← getD_tf (by omega)]; exact g1
          rcases hs.late i o ho h j (by omega) with hq | hq
          · exact hinert ⟨j, hq, hj⟩
          · have := reach_listed hcl hq hall
            rw [this] at hLj; cases hLj
      refine hI.next hs hT hF hG him hLi (fun o' ho' e he hb => ?_) fun β' a' w' hI' => again i o ho him hi β' a' w' hI'
      rw [ho] at ho'; cases ho'; exact hall e he hb
where
  fin {P : Program} {ops : Array Oper} {m : Nat} {fr : AFr} {H : AHeap} {F : Nat → AFr} {G : Nat → AHeap} {V : Nat → Value} (hs : DrawSpec ops m)
      (hm0 : ∀ j k, j ≤ k → k ≤ m → (G j).next ≤ (G k).next ∧ Same (G j).next (G j) (G k))
      (hT : ∀ j, j < m → ∃ o, ops[j]? = some o ∧ F (j + 1) = (F j).putO o.dst (V j) ∧ EOp P ops o (F j) (G j) (V j) (G (j + 1)))
      (hF : F 0 = fr) (hG : G 0 = H) {β0 : Bt} {w0 : World} {Q : Exit → Act → World → Prop}
      (hend : ∀ β a w, FRel β (F m) a → HRel β (G m) w → Step H.next β0 w0 β w → wpList P ops Q (ops.toList.drop m) a w)
      {L : Nat → Bool} {β : Bt} {a : Act} {w : World} (hI : Inv ops m fr H G V β0 w0 L β a w) (hall : ∀ i, i < m → L i = true) : wpList P ops Q (ops.toList.drop m) a w := by
    have hcut : ∀ n, ∀ b t, cut β n b = some t → β b = some t ∨ β b = some .stale := fun n b t h => .inl (cut_some h).2
    refine hend β a w ⟨hI.defers, ?_, fun t => ?_⟩ ⟨fun b B o S es own hb => ?_, hI.stale, hI.inj, fun b hb => ?_⟩ hI.step
    · rw [hI.size, (frames_get hs.uniq hT hF 0 m (Nat.le_refl _)).2.2]
    · obtain ⟨g1, g2, _⟩ := frames_get hs.uniq hT hF t m (Nat.le_refl _)
      by_cases hw : ∃ j, j < m ∧ dstAt ops j = some t
      · obtain ⟨j, hj, hd⟩ := hw
        rw [g1 j hj hd]
        exact (hI.done j hj (hall j hj) t hd).mono (hcut _)
      · have hno : ∀ j, j < m → dstAt ops j ≠ some t := fun j hj h => hw ⟨j, hj, h⟩
        rw [g2 hno]
        exact (hI.rest t fun j hj _ => hno j hj).mono (hcut _)
    · obtain ⟨k, hk, hr⟩ := hI.rel b B o S es own hb
      refine ⟨k, hk, ?_⟩
      rcases hr with ⟨_, hbr⟩ | ⟨_, _, _, _, _, hbr⟩ <;> exact hbr.mono (hcut _) rfl
    · cases e : β b with
      | none => rfl
      | some t =>
        exfalso
        have h0 := (hm0 0 m (by omega) (Nat.le_refl _)).1
        rw [hG] at h0
        obtain ⟨j, h1, h2, h3, h4⟩ := hI.dom b (by omega) (by rw [e]; simp)
        have := (hm0 (j + 1) m (by omega) (Nat.le_refl _)).1
        omega

/-- What is left of a region that draws: the early operations one by one in the text's order, then the others. -/
def DW (P : Program) (ops : Array Oper) (Q : Exit → AFr → AHeap → Prop) (m i : Nat) (fr : AFr) (H : AHeap) : Prop :=
  ∃ fr' H', Tr P ops i fr H m fr' H' ∧ AL P ops Q (ops.toList.drop m) fr' H'

theorem aw_draw {id : Nat} {Q : Exit → AFr → AHeap → Prop} (hmo : P.follows .mixedOrders = true) (hok : drawOk ops m = true) (hm : Nat.ble m ops.size = true) (hp : ∀ c fr H, ¬ Q (.panic c) fr H) (h : DW P ops Q m 0 fr H) :
    AW P (.region id ops true) Q fr H := by
  obtain ⟨fr', H', hTr, hAL⟩ := h
  obtain ⟨F, G, V, hF, hG, hF', hG', hT⟩ := hTr.funs
  have hs := drawOk_spec hok
  have hm' := Nat.le_of_ble_eq_true hm
  have hT' : ∀ j, j < m → ∃ o, ops[j]? = some o ∧ F (j + 1) = (F j).putO o.dst (V j) ∧ EOp P ops o (F j) (G j) (V j) (G (j + 1)) := fun j hj => hT j (Nat.zero_le _) hj
  have hm0 := heaps_mono hT'
  intro β a w hf hh
  refine wp_region_any hmo ?_
  have hsame : Same H.next H (G m) ∧ H.next ≤ (G m).next := by
    have := hm0 0 m (by omega) (Nat.le_refl _)
    rw [hG] at this; exact ⟨this.2, this.1⟩
  refine any_early hs hm' hT' hF hG (β0 := β) (w0 := w) (fun c a w ⟨fr', H', β', q, _⟩ => hp c fr' H' q) ?_ ops.size (Array.replicate ops.size false) β a _ (by simp) ?_ (fun i _ hi => ?_) (fun i o ho hl e he hb => ?_) ⟨hf.defers, hf.size, ?_, ?_, ?_, ?_, hh.inj, ?_, Step.drew _ _ _⟩
  · intro β1 a1 w1 hf1 hh1 hst
    rw [hF'] at hf1
    rw [hG'] at hh1
    have := hAL β1 a1 w1 hf1 hh1
    refine al_op.wpList_monoQ ?_ this
    intro e a2 w2 hp
    exact hp.lift hst (by rw [← hG']; exact hsame.2)
  · unfold left
    have : (List.range (Array.replicate ops.size false).size).filter (fun i => !(Array.replicate ops.size false).getD i true) = List.range ops.size := by
      rw [Array.size_replicate, List.filter_eq_self]
      intro i hi
      simp [List.mem_range.1 hi]
    rw [this, List.length_range]
  · unfold Lof; simp [hi]
  · exfalso
    have hi := (Array.getElem?_eq_some_iff.1 ho).1
    unfold Lof at hl
    simp [hi] at hl
  · intro i hi hL d hd
    exfalso
    unfold Lof at hL
    simp [show i < ops.size by omega] at hL
  · intro t _
    rw [cut_all hh.dom]; exact hf.val t
  · intro b B o S es own hb
    obtain ⟨k, hk, hr⟩ := hh.rel b B o S es own hb
    have hlt := AHeap.lt hk
    refine ⟨k, by rw [hsame.1 b hlt]; exact hk, .inl ⟨hlt, ?_⟩⟩
    rw [cut_all hh.dom]
    cases k <;> exact hr
  · intro b hb
    have h1 : b < H.next := by
      rcases Nat.lt_or_ge b H.next with h | h
      · exact h
      · rw [hh.dom b h] at hb; cases hb
    rw [hsame.1 b h1]; exact hh.stale b hb
  · intro b hb hne
    exact absurd (hh.dom b hb) hne

theorem dw_end {Q : Exit → AFr → AHeap → Prop} (h : AL P ops Q (ops.toList.drop m) fr H) : DW P ops Q m m fr H := ⟨fr, H, .nil, h⟩

theorem dw_step {Q : Exit → AFr → AHeap → Prop} {i : Nat} {o : Oper} {v : Value} {H1 : AHeap} (ho : ops[i]? = some o) (hE : EOp P ops o fr H v H1) (h : DW P ops Q m (i + 1) (fr.putO o.dst v) H1) : DW P ops Q m i fr H := by
  obtain ⟨fr', H', hT, hA⟩ := h
  exact ⟨fr', H', .step ho hE hT, hA⟩
end
end Go.AW
