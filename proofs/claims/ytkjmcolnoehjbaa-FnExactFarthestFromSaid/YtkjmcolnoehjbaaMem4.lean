/- The rules for guarded operations and literals. -/
import Derived.Test.YtkjmcolnoehjbaaApp2
namespace Go.AW
open Go
set_option linter.unusedVariables false
set_option linter.unusedSimpArgs false

/-- A guard that is met. -/
theorem al_gyes {P : Program} {ops : Array Oper} {Q : Exit → AFr → AHeap → Prop} {fr : AFr} {H H1 : AHeap} {o : Oper} {rest : List Oper} {v : Value} {j : Nat} {want : Bool} {dj : Nat} (hg : o.guard = some (j, want)) (hdj : dstAt ops j = some dj)
    (hgt : fr.get dj = .bool want) (hx : o.op.operands.toList.all okX = true) (hd : o.dst.all (fun d => Nat.blt d fr.n) = true) (ho : AOd P o fr.ev H v H1) (h : AL P ops Q rest (fr.putO o.dst v) H1) :
    AL P ops Q (o :: rest) fr H := by
  intro β a w hf hh
  have hy : yielded ops a.tmps j = some want := by
    have h1 := hf.val dj; rw [hgt] at h1
    have h2 := h1.bool_inv
    unfold yielded
    have e1 : ((ops[j]?).bind (·.dst)) = some dj := hdj
    rw [e1]
    simp only [Option.bind_some]
    have hsz : dj < a.tmps.size := by
      rcases Nat.lt_or_ge dj a.tmps.size with h | h
      · exact h
      · rw [Array.getD_eq_getD_getElem?, Array.getElem?_eq_none h] at h2; cases h2
    rw [Array.getD_eq_getD_getElem?, Array.getElem?_eq_getElem hsz] at h2
    simp only [Option.getD_some] at h2
    rw [Array.getElem?_eq_getElem hsz, h2]
  unfold wpList
  rw [if_pos (by unfold Region.wanted; rw [hg]; simp [hy])]
  refine .inl ?_
  have hxs : ∀ x ∈ o.op.operands, VR β (fr.ev x) (a.eval x) := fun x hm => hf.ev (List.all_eq_true.1 hx x (by simpa using hm))
  refine gives_wp (ho β a.eval w hxs hh) ?_
  rintro v' w' ⟨v1, H2, β', ⟨rfl, rfl⟩, hv, hh', hst, hn⟩
  have hf' : FRel β' (fr.putO o.dst v1) (a.put o.dst v') := by
    have hm := hf.mono hst.ext
    cases hdst : o.dst with
    | none => exact hm
    | some d => rw [hdst] at hd; exact hm.put (by simpa [Nat.blt_eq] using hd) hv
  exact al_op.wpList_post (h β' _ w' hf' hh') hst hn

/-- A guard that is not met. -/
theorem al_gno {P : Program} {ops : Array Oper} {Q : Exit → AFr → AHeap → Prop} {fr : AFr} {H : AHeap} {o : Oper} {rest : List Oper} {j : Nat} {want b : Bool} {dj : Nat} (hg : o.guard = some (j, want)) (hdj : dstAt ops j = some dj)
    (hgt : fr.get dj = .bool b) (hb : b = !want) (hd : o.dst.all (fun d => Nat.blt d fr.n) = true) (h : AL P ops Q rest (fr.putO o.dst undef) H) : AL P ops Q (o :: rest) fr H := by
  intro β a w hf hh
  have hy : yielded ops a.tmps j = some b := by
    have h1 := hf.val dj; rw [hgt] at h1
    have h2 := h1.bool_inv
    unfold yielded
    have e1 : ((ops[j]?).bind (·.dst)) = some dj := hdj
    rw [e1]
    simp only [Option.bind_some]
    have hsz : dj < a.tmps.size := by
      rcases Nat.lt_or_ge dj a.tmps.size with h | h
      · exact h
      · rw [Array.getD_eq_getD_getElem?, Array.getElem?_eq_none h] at h2; cases h2
    rw [Array.getD_eq_getD_getElem?, Array.getElem?_eq_getElem hsz] at h2
    simp only [Option.getD_some] at h2
    rw [Array.getElem?_eq_getElem hsz, h2]
  unfold wpList
  rw [if_neg (by unfold Region.wanted; rw [hg]; simp [hy, hb])]
  have hf' : FRel β (fr.putO o.dst undef) (a.put o.dst undef) := by
    cases hdst : o.dst with
    | none => exact hf
    | some d => rw [hdst] at hd; exact hf.put (by simpa [Nat.blt_eq] using hd) (VR.undef β)
  exact h β _ w hf' hh

theorem al_gnu {P : Program} {ops : Array Oper} {Q : Exit → AFr → AHeap → Prop} {fr : AFr} {H : AHeap} {o : Oper} {rest : List Oper} {j : Nat} {want : Bool} {dj : Nat} (hg : o.guard = some (j, want)) (hdj : dstAt ops j = some dj)
    (hgt : fr.get dj = undef) (hd : o.dst.all (fun d => Nat.blt d fr.n) = true) (h : AL P ops Q rest (fr.putO o.dst undef) H) : AL P ops Q (o :: rest) fr H := by
  intro β a w hf hh
  have hy : yielded ops a.tmps j = none := by
    have h1 := hf.val dj; rw [hgt] at h1
    have h2 := h1.undef_inv
    unfold yielded
    have e1 : ((ops[j]?).bind (·.dst)) = some dj := hdj
    rw [e1]
    simp only [Option.bind_some]
    rw [Array.getD_eq_getD_getElem?] at h2
    cases e2 : a.tmps[dj]? with
    | none => rfl
    | some z =>
      rw [e2] at h2
      cases z <;> first | rfl | exact absurd rfl (h2 _)
  unfold wpList
  rw [if_neg (by unfold Region.wanted; rw [hg]; simp [hy])]
  have hf' : FRel β (fr.putO o.dst undef) (a.put o.dst undef) := by
    cases hdst : o.dst with
    | none => exact hf
    | some d => rw [hdst] at hd; exact hf.put (by simpa [Nat.blt_eq] using hd) (VR.undef β)
  exact h β _ w hf' hh

theorem AFr.put_same {fr : AFr} {d : Nat} {v : Value} (h : fr.get d = v) : fr.put d v = fr := by
  cases fr with
  | mk n get =>
    unfold AFr.put
    congr 1
    funext i
    by_cases e : i = d
    · subst e; rw [beq_self]; exact h.symm
    · rw [beq_ne e]; rfl

/-- Both ways of a slot that holds a bool. -/
theorem al_cases {P : Program} {ops : Array Oper} {Q : Exit → AFr → AHeap → Prop} {fr : AFr} {H : AHeap} {l : List Oper} {d : Nat} {b : Bool} (hd : fr.get d = .bool b)
    (h1 : b = true → AL P ops Q l (fr.put d (.bool true)) H) (h2 : b = false → AL P ops Q l (fr.put d (.bool false)) H) : AL P ops Q l fr H := by
  cases b with
  | true => have := h1 rfl; rwa [AFr.put_same hd] at this
  | false => have := h2 rfl; rwa [AFr.put_same hd] at this

theorem dw_cases {P : Program} {ops : Array Oper} {Q : Exit → AFr → AHeap → Prop} {m i : Nat} {fr : AFr} {H : AHeap} {d : Nat} {b : Bool} (hd : fr.get d = .bool b)
    (h1 : b = true → DW P ops Q m i (fr.put d (.bool true)) H) (h2 : b = false → DW P ops Q m i (fr.put d (.bool false)) H) : DW P ops Q m i fr H := by
  cases b with
  | true => have := h1 rfl; rwa [AFr.put_same hd] at this
  | false => have := h2 rfl; rwa [AFr.put_same hd] at this

section
variable {P : Program} {ops : Array Oper} {Q : Exit → AFr → AHeap → Prop} {m i : Nat} {fr : AFr} {H H1 : AHeap} {o : Oper} {v : Value}
/-- One of the early operations of a region that draws. -/
theorem dw_op (ho : ops[i]? = some o) (hg : o.guard = none) (hd : o.dst.all (fun d => Nat.blt d fr.n) = true) (h : AOd P o fr.ev H v H1) (hs : Same H.next H H1) (hn : Nat.ble 0 0 = true) (hle : H.next ≤ H1.next)
    (hk : DW P ops Q m (i + 1) (fr.putO o.dst v) H1) : DW P ops Q m i fr H :=
  dw_step ho ⟨hd, .inl ⟨by rw [hg]; trivial, h, hs, hle⟩⟩ hk
theorem dw_opd (ho : ops[i]? = some o) (hg : o.guard = none) (hd : o.dst.all (fun d => Nat.blt d fr.n) = true) (h : AOd P o fr.ev H v H)
    (hk : DW P ops Q m (i + 1) (fr.putO o.dst v) H) : DW P ops Q m i fr H :=
  dw_step ho ⟨hd, .inl ⟨by rw [hg]; trivial, h, Same.refl _ _, Nat.le_refl _⟩⟩ hk
theorem dw_opn {k : ABlk} (ho : ops[i]? = some o) (hg : o.guard = none) (hd : o.dst.all (fun d => Nat.blt d fr.n) = true) (h : AOd P o fr.ev H v (H.push k))
    (hk : DW P ops Q m (i + 1) (fr.putO o.dst v) (H.push k)) : DW P ops Q m i fr H :=
  dw_step ho ⟨hd, .inl ⟨by rw [hg]; trivial, h, (Same.refl _ _).push (Nat.le_refl _) _, by rw [next_push]; omega⟩⟩ hk
theorem dw_gyes {j dj : Nat} {want : Bool} (ho : ops[i]? = some o) (hg : o.guard = some (j, want)) (hdj : dstAt ops j = some dj) (hgt : fr.get dj = .bool want) (hd : o.dst.all (fun d => Nat.blt d fr.n) = true) (h : AOd P o fr.ev H v H)
    (hk : DW P ops Q m (i + 1) (fr.putO o.dst v) H) : DW P ops Q m i fr H :=
  dw_step ho ⟨hd, .inl ⟨by rw [hg]; exact ⟨dj, hdj, hgt⟩, h, Same.refl _ _, Nat.le_refl _⟩⟩ hk
theorem dw_gno {j dj : Nat} {want b : Bool} (ho : ops[i]? = some o) (hg : o.guard = some (j, want)) (hdj : dstAt ops j = some dj) (hgt : fr.get dj = .bool b) (hb : b = !want) (hd : o.dst.all (fun d => Nat.blt d fr.n) = true)
    (hk : DW P ops Q m (i + 1) (fr.putO o.dst undef) H) : DW P ops Q m i fr H :=
  dw_step ho ⟨hd, .inr ⟨j, want, dj, hg, hdj, Or.inl (by rw [hgt, hb]), rfl, rfl⟩⟩ hk
theorem dw_gnu {j dj : Nat} {want : Bool} (ho : ops[i]? = some o) (hg : o.guard = some (j, want)) (hdj : dstAt ops j = some dj) (hgt : fr.get dj = undef) (hd : o.dst.all (fun d => Nat.blt d fr.n) = true)
    (hk : DW P ops Q m (i + 1) (fr.putO o.dst undef) H) : DW P ops Q m i fr H :=
  dw_step ho ⟨hd, .inr ⟨j, want, dj, hg, hdj, Or.inr hgt, rfl, rfl⟩⟩ hk
end

section
variable {P : Program} {Q : Exit → AFr → AHeap → Prop} {fr : AFr} {H H' : AHeap} {ρ : Operand → Value} {g : Option (Nat × Bool)} {d : Option Tmp} {ty : TypeId} {pos : String} {aft : Array Edge}

/-! ### literals -/

theorem foldl_set_rel {β : Bt} : ∀ (l : List (Value × Nat)) (l' : List (Value × Nat)) (off : Nat) (A B : Array Value), VRL β A.toList B.toList → l.length = l'.length →
    (∀ (j : Nat) p p', l[j]? = some p → l'[j]? = some p' → p.2 = p'.2 ∧ VR β p.1 p'.1) →
    VRL β (l.foldl (fun cs (c, j) => cs.setIfInBounds (off + j) c) A).toList (l'.foldl (fun cs (c, j) => cs.setIfInBounds (off + j) c) B).toList := by
  intro l
  induction l with
  | nil =>
    intro l' off A B h hl _
    cases l' with
    | nil => exact h
    | cons _ _ => simp at hl
  | cons p l ih =>
    intro l' off A B h hl hp
    cases l' with
    | nil => simp at hl
    | cons p' l' =>
      simp only [List.foldl_cons]
      obtain ⟨e, hv⟩ := hp 0 p p' rfl rfl
      refine ih l' off _ _ ?_ (by simpa using hl) fun j q q' hq hq' => hp (j + 1) q q' (by simpa using hq) (by simpa using hq')
      obtain ⟨c, j⟩ := p
      obtain ⟨c', j'⟩ := p'
      simp only at e hv ⊢
      subst e
      rw [Array.toList_setIfInBounds, Array.toList_setIfInBounds]
      exact h.set hv

theorem zipIdx_rel {β : Bt} {xs ys : Array Value} (h : VRL β xs.toList ys.toList) : ∀ (j : Nat) p p', xs.zipIdx.toList[j]? = some p → ys.zipIdx.toList[j]? = some p' → p.2 = p'.2 ∧ VR β p.1 p'.1 := by
  intro j p p' hp hp'
  simp only [Array.toList_zipIdx] at hp hp'
  rw [List.getElem?_zipIdx] at hp hp'
  cases hx : xs.toList[j]? with
  | none => rw [hx] at hp; cases hp
  | some x =>
    cases hy : ys.toList[j]? with
    | none => rw [hy] at hp'; cases hp'
    | some y =>
      rw [hx] at hp; rw [hy] at hp'
      cases hp; cases hp'
      exact ⟨rfl, h.2 j x y hx hy⟩

theorem fill_rel {β : Bt} (place : Nat → Option (Nat × Nat)) : ∀ (ps ps' : List (Nat × Value)) (A B A' : Array Value), VRL β A.toList B.toList → ps.length = ps'.length →
    (∀ (j : Nat) p p', ps[j]? = some p → ps'[j]? = some p' → p.1 = p'.1 ∧ VR β p.2 p'.2) → Instr.fill place A ps = some A' →
    ∃ B', Instr.fill place B ps' = some B' ∧ VRL β A'.toList B'.toList := by
  intro ps
  induction ps with
  | nil =>
    intro ps' A B A' h hl _ hf
    cases ps' with
    | nil => simp only [Instr.fill] at hf; cases hf; exact ⟨B, rfl, h⟩
    | cons _ _ => simp at hl
  | cons p ps ih =>
    intro ps' A B A' h hl hp hf
    cases ps' with
    | nil => simp at hl
    | cons p' ps' =>
      obtain ⟨i, v⟩ := p
      obtain ⟨i', v'⟩ := p'
      obtain ⟨e, hv⟩ := hp 0 _ _ rfl rfl
      simp only at e hv
      subst e
      have hc := hv.cells
      have hcs : v.cells.size = v'.cells.size := by have := hc.1; simpa using this
      have hAB : A.size = B.size := by have := h.1; simpa using this
      simp only [Instr.fill] at hf ⊢
      cases hpl : place i with
      | none => rw [hpl] at hf; cases hf
      | some q =>
        obtain ⟨off, size⟩ := q
        rw [hpl] at hf
        simp only at hf ⊢
        split at hf
        · cases hf
        · rename_i hno
          rw [if_neg (by rw [← hcs, ← hAB]; exact hno)]
          refine ih ps' _ _ A' ?_ (by simpa using hl) (fun j q q' hq hq' => hp (j + 1) q q' (by simpa using hq) (by simpa using hq')) hf
          rw [← Array.foldl_toList, ← Array.foldl_toList]
          exact foldl_set_rel _ _ off A B h (by simp [hcs]) (zipIdx_rel hc)

/-- The cells of a slice's literal. -/
def litCells (P : Program) (e : TypeId) (len : Nat) (size : Nat) (zero : Array Value) (ps : List (Nat × Value)) : Option (Array Value) :=
  Instr.fill (fun i => some (i * size, size)) ((Array.range (len * size)).map (zero[· % zero.size]!)) ps

theorem parts_rel {β : Bt} {ρ ρ' : Operand → Value} {ps : Array (Nat × Operand)} (h : ∀ x ∈ (ps.toList.map (·.2)).toArray, VR β (ρ x) (ρ' x)) :
    ∀ (j : Nat) p p', (ps.map fun (i, x) => (i, ρ x)).toList[j]? = some p → (ps.map fun (i, x) => (i, ρ' x)).toList[j]? = some p' → p.1 = p'.1 ∧ VR β p.2 p'.2 := by
  intro j p p' hp hp'
  simp only [Array.toList_map, List.getElem?_map] at hp hp'
  cases hx : ps.toList[j]? with
  | none => rw [hx] at hp; cases hp
  | some x =>
    rw [hx] at hp hp'
    simp only [Option.map_some, Option.some.injEq] at hp hp'
    subst hp; subst hp'
    exact ⟨rfl, h x.2 (by simpa using ⟨x.1, by simpa using List.mem_of_getElem? hx⟩)⟩

theorem vrl_plain {β : Bt} {z : Value} (hz : plainV z = true) : VRL β z.cells.toList z.cells.toList := (VR.plain β hz).cells

theorem vrl_zeros {β : Bt} {A : Array Value} (h : ∀ v ∈ A, VR β v v) : VRL β A.toList A.toList :=
  ⟨rfl, fun i x y hx hy => by rw [hx] at hy; cases hy; exact h x (by simpa using List.mem_of_getElem? hx)⟩

theorem foldl_size (off : Nat) (L : List (Value × Nat)) (X : Array Value) : (L.foldl (fun cs (c, j) => cs.setIfInBounds (off + j) c) X).size = X.size := by
  induction L generalizing X with
  | nil => rfl
  | cons c L ihL => rw [List.foldl_cons, ihL]; simp

/-- A slice's literal. -/
theorem ao_buildSlice {t e : TypeId} {len size : Nat} {z : Value} {parts : Array (Nat × Operand)} {ps : List (Nat × Value)} {A : Array Value} (hu : P.underlying t = some (.slice e)) (hn : ∀ w, (sizeOf e).run P w = .ok size w)
    (hz : ∀ w, (zeroValue e).run P w = .ok z w) (hzp : plainV z = true) (hzc : z.cells.size = size) (hs : 0 < size) (hl : len * size ≤ 16777216) (hps : parts.toList.map (fun p => (p.1, ρ p.2)) = ps) (hA : litCells P e len size z.cells ps = some A) :
    AOd P ⟨d, .buildSlice t len parts, ty, pos, aft, g⟩ ρ H (.slice (some ⟨H.next, 0, none⟩) len len) (H.push (.cells A.toList size)) := by
  intro β ρ' w h hh
  have hrel := parts_rel (ps := parts) (ρ := ρ) (ρ' := ρ') (β := β) (by simpa [Op.operands] using h)
  have hps' : (parts.map fun (i, x) => (i, ρ x)).toList = ps := by rw [Array.toList_map]; exact hps
  rw [hps'] at hrel
  have hzero : VRL β ((Array.range (len * size)).map (z.cells[· % z.cells.size]!)).toList ((Array.range (len * size)).map (z.cells[· % z.cells.size]!)).toList := by
    refine vrl_zeros fun v hv => ?_
    obtain ⟨i, hi, rfl⟩ := Array.mem_map.1 hv
    have hlt : i % z.cells.size < z.cells.size := Nat.mod_lt _ (by omega)
    rw [getElem!_pos z.cells _ hlt]
    exact (vrl_plain hzp).2 (i % z.cells.size) _ _ (by simp [hlt]) (by simp [hlt])
  obtain ⟨B, hB, hAB⟩ := fill_rel (β := β) _ ps (parts.map fun (i, x) => (i, ρ' x)).toList _ _ A hzero (by rw [← hps]; simp) hrel hA
  have hsz : B.size = len * size := by
    have hfs : ∀ (place : Nat → Option (Nat × Nat)) (qs : List (Nat × Value)) (X Y : Array Value), Instr.fill place X qs = some Y → Y.size = X.size := by
      intro place qs
      induction qs with
      | nil => intro X Y h; simp only [Instr.fill] at h; cases h; rfl
      | cons q qs ih =>
        intro X Y h
        obtain ⟨i, v⟩ := q
        simp only [Instr.fill] at h
        cases hp : place i with
        | none => rw [hp] at h; cases h
        | some o =>
          obtain ⟨off, sz⟩ := o
          rw [hp] at h
          simp only at h
          split at h
          · cases h
          · rw [ih _ _ h, ← Array.foldl_toList]; exact foldl_size _ _ _
    rw [hfs _ _ _ _ hB]; simp
  obtain ⟨k1, k2⟩ := hh.alloc (o := .cells B e) (S := B.size) (es := size) (BR.new (w := w) (e := e) (es := size) hAB)
  refine gives_value (v := .slice (some ⟨w.heap.size, 0, none⟩) len len) (w' := w.alloc (.cells B e)) ?_
    ⟨_, _, _, ⟨rfl, rfl⟩, .slice ⟨rfl, rfl, Nat.le_refl _, fun _ => rfl, _, Bt.set_same _ _ _, fun B1 o1 S1 es1 own1 e1 => by cases e1; exact ⟨rfl, .inr ⟨rfl, fun _ => by rw [hsz]; simp⟩⟩⟩, k1, k2, by show H.next ≤ H.next + 1; omega⟩
  have hno : ¬ (len * size > 2 ^ 24) := by omega
  have hbs : (Instr.buildSlice t len (parts.map fun (i, x) => (i, ρ' x))).run P w = .ok (.slice (some ⟨w.heap.size, 0, none⟩) len len) (w.alloc (.cells B e)) := by
    unfold Instr.buildSlice
    rw [Sem.run_bind, run_underlying hu]
    simp only [Result.andThen_ok]
    rw [Sem.run_bind, hn]
    simp only [Result.andThen_ok]
    rw [if_neg hno]
    have hB' := hB
    by_cases h0 : len * size = 0
    · rw [h0] at hB'
      simp only [h0, if_true]
      rw [Sem.run_bind]
      simp only [Sem.run_pure, Result.andThen_ok]
      have e0 : ∀ (y : Array Value), (Array.range 0).map (fun i => y[i % y.size]!) = #[] := by intro y; simp
      rw [e0] at hB'
      rw [e0, hB']
      simp [newRow, newObj, Sem.run, go_sem]
    · simp only [h0, if_false]
      rw [Sem.run_bind, hz]
      simp only [Result.andThen_ok, pure_bind]
      rw [hB']
      simp [newRow, newObj, Sem.run, go_sem]
  have : (execOp ρ' ⟨d, .buildSlice t len parts, ty, pos, aft, g⟩).run P w = ((Instr.buildSlice t len (parts.map fun (i, x) => (i, ρ' x))).run P w).andThen fun v w => .ok (.value v) w := by
    unfold execOp
    rw [Sem.run_bind]
    rfl
  rw [this, hbs]; rfl
end
end Go.AW
