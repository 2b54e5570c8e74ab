/- Maps: making, looking up, putting in. -/
import Derived.Test.YtmafkbminigbcaaKinds
import Derived.WideKeyRuns
namespace Go.AW
open Go
set_option linter.unusedVariables false
set_option linter.unusedSectionVars false
set_option linter.unusedSimpArgs false
set_option linter.unusedSimpArgs false

section
variable {P : Program} {ρ : Operand → Value} {H : AHeap} {d : Option Tmp} {ty : TypeId} {pos : String} {aft : Array Edge} {g : Option (Nat × Bool)}
variable {α γ : Type} [DecidableEq α] {ke : α → Value} {ve : γ → Value}

/-- What a map's block holds. -/
def mapC (ke : α → Value) (ve : γ → Value) (m : List (α × γ)) : List (Value × Value) := m.map fun p => (ke p.1, ve p.2)
def mget (m : List (α × γ)) (k : α) : Option γ := (m.find? fun p => decide (k = p.1)).map (·.2)
theorem mget_nil (k : α) : mget ([] : List (α × γ)) k = none := rfl
theorem mget_cons (p : α × γ) (m : List (α × γ)) (k : α) : mget (p :: m) k = if k = p.1 then some p.2 else mget m k := by
  unfold mget
  by_cases h : k = p.1
  · rw [if_pos h, List.find?_cons_of_pos (by simpa using h)]; rfl
  · rw [if_neg h, List.find?_cons_of_neg (by simpa using h)]
theorem mget_none {m : List (α × γ)} {k : α} (h : mget m k = none) : ∀ p ∈ m, p.1 ≠ k := by
  unfold mget at h
  rw [Option.map_eq_none_iff, List.find?_eq_none] at h
  intro p hp e
  exact h p hp (by simpa using e.symm)
theorem mget_app (m n : List (α × γ)) (k : α) : mget (m ++ n) k = (mget m k).or (mget n k) := by
  induction m with
  | nil => rw [List.nil_append, mget_nil]; cases mget n k <;> rfl
  | cons p m ih =>
    rw [List.cons_append, mget_cons, mget_cons, ih]
    split <;> rfl

/-- A type of keys. -/
structure KeyT (P : Program) (kt : TypeId) (ke : α → Value) : Prop where
  wide : (match P.underlying kt with | some (.array _ _) | some (.struct _) => true | _ => false) = true
  eq : ∀ x y w, (Op.equal kt (ke x) (ke y)).run P w = .ok (decide (x = y)) w
  check : ∀ x b w, (Instr.checkKey b 10000 kt (ke x)).run P w = .ok () w
  plain : ∀ x, plainV (ke x) = true
  same : ∀ x, Instr.sameBits 10000 (ke x) (ke x) = true

theorem run_find {kt : TypeId} (K : KeyT P kt ke) (w : World) (k : α) : ∀ (m : List (α × γ)) (es : List MapEntry) (i : Nat), es.length = m.length → (∀ (j : Nat) p e, m[j]? = some p → es[j]? = some e → e.key = ke p.1 ∧ e.val = ve p.2) →
    ∃ r, (Instr.findAsking kt (ke k) es i).run P w = .ok r w ∧ ((r = none ∧ mget m k = none) ∨ ∃ j v, r = some (j, ve v) ∧ mget m k = some v) := by
  intro m
  induction m with
  | nil =>
    intro es i hl _
    obtain rfl := List.eq_nil_of_length_eq_zero hl
    exact ⟨none, by simp [Instr.findAsking, Sem.run_pure], .inl ⟨rfl, rfl⟩⟩
  | cons p m ih =>
    intro es i hl hall
    cases es with
    | nil => cases hl
    | cons e es =>
      obtain ⟨h1, h2⟩ := hall 0 p e rfl rfl
      obtain ⟨r, hr, hc⟩ := ih es (i + 1) (by simpa using hl) fun j q f hq hf => hall (j + 1) q f (by simpa using hq) (by simpa using hf)
      unfold Instr.findAsking
      simp only [Sem.run_bind, h1, K.eq, Result.andThen_ok]
      rw [mget_cons]
      by_cases hk : k = p.1
      · refine ⟨some (i, ve p.2), ?_, .inr ⟨i, p.2, rfl, by rw [if_pos hk]⟩⟩
        simp [hk, h2, Sem.run_pure]
      · refine ⟨r, ?_, ?_⟩
        · simp [hk, hr]
        · rw [if_neg hk]; exact hc

theorem run_getObj_map' {w : World} {r : Nat} {es : Array MapEntry} {clock : Nat} (hb : w.heap[r]? = some (.map es clock)) : (getObj r).run P w = .ok (.map es clock) w := by simp [getObj, Sem.run, hb]

theorem VR.map_inv {β : Bt} {b : Nat} {v : Value} (h : VR β (.map (some b)) v) : ∃ r t, v = .map (some r) ∧ β b = some t ∧ ∀ B o S es own, t = .live B o S es own → r = B := by
  cases h with | map t h h' => exact ⟨_, t, rfl, h, h'⟩

theorem HRel.mapAt {β : Bt} {w : World} (h : HRel β H w) {b : Nat} {es : List (Value × Value)} {v : Value} (hv : VR β (.map (some b)) v) (hk : H.blk b = some (.map es)) :
    ∃ B o S z es' clock, v = .map (some B) ∧ β b = some (.live B o S z true) ∧ w.heap[B]? = some (.map es' clock) ∧ es'.size = es.length ∧ ∀ (i : Nat) p e, es[i]? = some p → es'[i]? = some e → VR β p.1 e.key ∧ VR β p.2 e.val := by
  obtain ⟨r, t, rfl, hb, hr⟩ := hv.map_inv
  cases t with
  | stale => have := h.stale b hb; rw [hk] at this; cases this
  | live B o S z own =>
    obtain ⟨k, hk', hbr⟩ := h.rel b B o S z own hb
    rw [hk] at hk'; cases hk'
    obtain ⟨es', clock, h1, h2, h3, h4⟩ := hbr
    subst h3
    exact ⟨B, o, S, z, es', clock, by rw [hr B o S z true rfl], hb, h1, h2, h4⟩

/-- The entries, as they lie. -/
theorem entries_of {β : Bt} (hkp : ∀ x, plainV (ke x) = true) (hvp : ∀ x, plainV (ve x) = true) {m : List (α × γ)} {es' : Array MapEntry} (hs : es'.size = (mapC ke ve m).length)
    (h : ∀ (i : Nat) p e, (mapC ke ve m)[i]? = some p → es'[i]? = some e → VR β p.1 e.key ∧ VR β p.2 e.val) :
    es'.toList.length = m.length ∧ ∀ (j : Nat) p e, m[j]? = some p → es'.toList[j]? = some e → e.key = ke p.1 ∧ e.val = ve p.2 := by
  refine ⟨by simpa [mapC] using hs, fun j p e hp he => ?_⟩
  have := h j (ke p.1, ve p.2) e (by simp [mapC, hp]) (by simpa using he)
  exact ⟨VR.plain_inv (hkp _) this.1, VR.plain_inv (hvp _) this.2⟩

theorem ao_lookup {t kt et : TypeId} {x y : Operand} {b : Nat} {m : List (α × γ)} {k : α} {z u : Value} {ok : Bool} (hu : P.underlying t = some (.map kt et)) (K : KeyT P kt ke) (hvp : ∀ x, plainV (ve x) = true)
    (hz : ∀ w, (zeroValue et).run P w = .ok z w) (hzp : plainV z = true) (hx : ρ x = .map (some b)) (hy : ρ y = ke k) (hk : H.blk b = some (.map (mapC ke ve m)))
    (hr : (mget m k = none ∧ u = z ∧ ok = false) ∨ ∃ v, mget m k = some v ∧ u = ve v ∧ ok = true) (c : Bool) :
    AOd P ⟨d, .lookup t x y c, ty, pos, aft, g⟩ ρ H (if c then .tuple #[u, .bool ok] else u) H :=
  AO.pure fun β ρ' w hv hh => by
    have q1 := hv x (by simp [Op.operands]); rw [hx] at q1
    have q2 := hv y (by simp [Op.operands]); rw [hy] at q2
    obtain ⟨B, o, S, z', es', clock, e1, hb, hB, hs, hall⟩ := hh.mapAt q1 hk
    obtain ⟨hl, hent⟩ := entries_of K.plain hvp hs hall
    have e2 := VR.plain_inv (K.plain k) q2
    obtain ⟨r, hrun, hc⟩ := run_find (ve := ve) K w k m es'.toList 0 hl hent
    have up : plainV u = true := by rcases hr with ⟨_, rfl, _⟩ | ⟨v, _, rfl, _⟩ <;> first | exact hzp | exact hvp _
    have hval : (Instr.lookup t (ρ' x) (ρ' y) c).run P w = .ok (if c then .tuple #[u, .bool ok] else u) w := by
      rw [e1, e2]
      unfold Instr.lookup
      simp only [Sem.run_bind, run_underlying hu, Result.andThen_ok, run_getObj_map' hB, Sem.run_pure, K.check, run_findKey_eq w K.wide, hrun]
      rcases hc with ⟨rfl, h0⟩ | ⟨j, v, rfl, h0⟩
      · rcases hr with ⟨_, rfl, rfl⟩ | ⟨v, h1, _⟩
        · simp [hz, Sem.run_bind, Sem.run_pure]
        · rw [h0] at h1; cases h1
      · rcases hr with ⟨h1, _⟩ | ⟨v', h1, rfl, rfl⟩
        · rw [h0] at h1; cases h1
        · rw [h0] at h1; cases h1
          simp [Sem.run_pure]
    refine ⟨if c then .tuple #[u, .bool ok] else u, ?_, ?_⟩
    · simp [execOp, go_sem, hval]
    · cases c
      · exact VR.plain β up
      · refine .tuple rfl fun i a a' ha ha' => ?_
        match i with
        | 0 => simp at ha ha'; subst ha ha'; exact VR.plain β up
        | 1 => simp at ha ha'; subst ha ha'; exact .bool _
        | i + 2 => simp at ha

theorem ao_makeMap {t : TypeId} : AOd P ⟨d, .makeMap t none, ty, pos, aft, g⟩ ρ H (.map (some H.next)) (H.push (.map [])) := by
  intro β ρ' w hv hh
  have hbr : ∀ β' : Bt, (∀ b u, β b = some u → β' b = some u ∨ β' b = some .stale) → BR β' (w.alloc (.map #[] 0)) w.heap.size 0 0 0 true (.map []) := by
    intro β' _
    exact ⟨#[], 0, by show (w.heap.push _)[w.heap.size]? = _; simp, rfl, rfl, fun i p e hp => by simp at hp⟩
  obtain ⟨h1, h2⟩ := hh.alloc hbr
  refine gives_value (v := .map (some w.heap.size)) (w' := w.alloc (.map #[] 0)) ?_ ⟨_, _, _, ⟨rfl, rfl⟩, .map _ (Bt.set_same _ _ _) (fun B o S es own e => by cases e; rfl), h1, h2, by rw [next_push]; omega⟩
  simp [execOp, go_sem, Instr.makeMap]

theorem ao_mapPut {t kt et : TypeId} {x y u : Operand} {b : Nat} {m : List (α × γ)} {k : α} {v : γ} (hu : P.underlying t = some (.map kt et)) (K : KeyT P kt ke) (hvp : ∀ x, plainV (ve x) = true)
    (hx : ρ x = .map (some b)) (hy : ρ y = ke k) (hv0 : ρ u = ve v) (hk : H.blk b = some (.map (mapC ke ve m))) (hno : mget m k = none) :
    AOd P ⟨d, .mapUpdate t x y u, ty, pos, aft, g⟩ ρ H undef (H.set b (.map (mapC ke ve (m ++ [(k, v)])))) := by
  intro β ρ' w hv hh
  have q1 := hv x (by simp [Op.operands]); rw [hx] at q1
  have q2 := hv y (by simp [Op.operands]); rw [hy] at q2
  have q3 := hv u (by simp [Op.operands]); rw [hv0] at q3
  obtain ⟨B, o, S, z', es', clock, e1, hb, hB, hs, hall⟩ := hh.mapAt q1 hk
  obtain ⟨hl, hent⟩ := entries_of K.plain hvp hs hall
  have e2 := VR.plain_inv (K.plain k) q2
  have e3 := VR.plain_inv (hvp v) q3
  obtain ⟨r, hrun, hc⟩ := run_find (ve := ve) K w k m es'.toList 0 hl hent
  have hr0 : r = none := by
    rcases hc with ⟨h, _⟩ | ⟨_, _, _, h⟩
    · exact h
    · rw [hno] at h; cases h
  subst hr0
  let ob : Obj := .map (es'.push { key := ke k, val := ve v, born := clock }) (clock + 1)
  let w' : World := { w with heap := w.heap.set! B ob }
  obtain ⟨hBlt, hBv⟩ := Array.getElem?_eq_some_iff.1 hB
  have hset : ∀ j, w'.heap[j]? = if j = B then some ob else w.heap[j]? := by
    intro j
    show (w.heap.set! B ob)[j]? = _
    by_cases e : B = j
    · subst e; rw [if_pos rfl]; simp [hBlt]
    · rw [if_neg (Ne.symm e), Array.set!_eq_setIfInBounds, Array.getElem?_setIfInBounds_ne e]
  have hval : (Instr.mapUpdate t (ρ' x) (ρ' y) (ρ' u)).run P w = .ok () w' := by
    rw [e1, e2, e3]
    unfold Instr.mapUpdate
    simp only [Sem.run_bind, run_underlying hu, Result.andThen_ok, run_getObj_map' hB, K.check, run_findKey_eq w K.wide, hrun]
    simp [setObj, Sem.run, hBlt, hBv, w', ob]
  refine gives_skip (w' := w') (by simp [execOp, go_sem, hval]) ⟨undef, _, β, ⟨rfl, rfl⟩, VR.undef β, ⟨?_, ?_, hh.inj, hh.dom⟩, ⟨fun _ _ h => .inl h, fun _ _ h => h, fun b B o S es h => .inl ⟨b, o, S, es, h⟩, fun _ _ _ _ _ h => h, rfl, rfl, rfl, by simp [w'], fun B' hB' hnob => ?_⟩, Nat.le_refl _⟩
  · intro b1 B1 o1 S1 es1 own1 hb1
    by_cases eb : b1 = b
    · subst eb
      rw [hb] at hb1; cases hb1
      refine ⟨_, blk_set_same hk, es'.push { key := ke k, val := ve v, born := clock }, clock + 1, by rw [hset, if_pos rfl], by simp [mapC] at hs ⊢; omega, rfl, ?_⟩
      intro i p e hp he
      simp only [mapC, List.map_append, List.map_cons, List.map_nil] at hp
      rw [List.getElem?_append] at hp
      rw [Array.getElem?_push] at he
      split at hp
      · rename_i hlt
        have hlt' : i < (mapC ke ve m).length := hlt
        rw [if_neg (by omega)] at he
        exact hall i p e hp he
      · rename_i hge
        have hge' : ¬ i < (mapC ke ve m).length := hge
        by_cases hi : i = es'.size
        · rw [if_pos hi] at he; cases he
          have hlm : (List.map (fun p => (ke p.1, ve p.2)) m).length = es'.size := by rw [hs]; rfl
          rw [hlm, hi, Nat.sub_self] at hp
          simp at hp; subst hp
          exact ⟨VR.plain β (K.plain k), VR.plain β (hvp v)⟩
        · rw [if_neg hi] at he
          have := (Array.getElem?_eq_some_iff.1 he).1
          omega
    · obtain ⟨k1, hk1, hr1⟩ := hh.rel b1 B1 o1 S1 es1 own1 hb1
      refine ⟨k1, by rw [blk_set_ne eb]; exact hk1, hr1.mono (fun _ _ h => .inl h) ?_⟩
      rw [hset, if_neg]
      intro eB
      subst eB
      exact eb (hh.inj b1 b B1 o1 S1 es1 own1 o S z' true hb1 hb (.inr rfl))
  · intro b1 hb1
    have eb : b1 ≠ b := by intro e; subst e; rw [hb] at hb1; cases hb1
    rw [blk_set_ne eb]; exact hh.stale b1 hb1
  · rw [hset, if_neg]
    intro eB
    subst eB
    exact hnob b o S z' hb
end
end Go.AW
