/- The rules for guarded operations and literals. -/
import Derived.Test.YtmmmjdbknepjgaaDoorApp2
namespace Go.AW
open Go
set_option linter.unusedVariables false
set_option linter.unusedSimpArgs false

/-- A guard that is met. -/
theorem al_gyes {P : Program} {ops : Array Oper} {Q : Exit → AFr → AHeap → Prop} {fr : AFr} {H H1 : AHeap} {o : Oper} {rest : List Oper} {v : Value} {j : Nat} {want : Bool} {dj : Nat} (hg : o.guard = some (j, want)) (hdj : dstAt ops j = some dj)
    (hgt : fr.get dj = .bool want) (hx : o.op.operands.toList.all okX = true) (hd : o.dst.all (fun d => Nat.blt d fr.n) = true) (ho : AOd P o fr.ev H v H1) (h : AL P ops Q rest (fr.putO o.dst v) H1) :
    AL P ops Q (o :: rest) fr H := by
  intro β a w hf hh
  have hy : yielded ops a.tmps j = some want := by
    have h1 := hf.val dj; rw [hgt] at h1
    have h2 := h1.bool_inv
    unfold yielded
    have e1 : ((ops[j]?).bind (·.dst)) = some dj := hdj
    rw [e1]
    simp only [Option.bind_some]
    have hsz : dj < a.tmps.size := by
      rcases Nat.lt_or_ge dj a.tmps.size with h | h
      · exact h
      · rw [Array.getD_eq_getD_getElem?, Array.getElem?_eq_none h] at h2; cases h2
    rw [Array.getD_eq_getD_getElem?, Array.getElem?_eq_getElem hsz] at h2
    simp only [Option.getD_some] at h2
    rw [Array.getElem?_eq_getElem hsz, h2]
  unfold wpList
  rw [if_pos (by unfold Region.wanted; rw [hg]; simp [hy])]
  refine .inl ?_
  have hxs : ∀ x ∈ o.op.operands, VR β (fr.ev x) (a.eval x) := fun x hm => hf.ev (List.all_eq_true.1 hx x (by simpa using hm))
  refine gives_wp (ho β a.eval w hxs hh) ?_
  rintro v' w' ⟨v1, H2, β', ⟨rfl, rfl⟩, hv, hh', hst, hn⟩
  have hf' : FRel β' (fr.putO o.dst v1) (a.put o.dst v') := by
    have hm := hf.mono hst.ext
    cases hdst : o.dst with
    | none => exact hm
    | some d => rw [hdst] at hd; exact hm.put (by simpa [Nat.blt_eq] using hd) hv
  exact al_op.wpList_post (h β' _ w' hf' hh') hst hn

/-- A guard that is not met. -/
theorem al_gno {P : Program} {ops : Array Oper} {Q : Exit → AFr → AHeap → Prop} {fr : AFr} {H : AHeap} {o : Oper} {rest : List Oper} {j : Nat} {want b : Bool} {dj : Nat} (hg : o.guard = some (j, want)) (hdj : dstAt ops j = some dj)
    (hgt : fr.get dj = .bool b) (hb : b = !want) (hd : o.dst.all (fun d => Nat.blt d fr.n) = true) (h : AL P ops Q rest (fr.putO o.dst undef) H) : AL P ops Q (o :: rest) fr H := by
  intro β a w hf hh
  have hy : yielded ops a.tmps j = some b := by
    have h1 := hf.val dj; rw [hgt] at h1
    have h2 := h1.bool_inv
    unfold yielded
    have e1 : ((ops[j]?).bind (·.dst)) = some dj := hdj
    rw [e1]
    simp only [Option.bind_some]
    have hsz : dj < a.tmps.size := by
      rcases Nat.lt_or_ge dj a.tmps.size with h | h
      · exact h
      · rw [Array.getD_eq_getD_getElem?, Array.getElem?_eq_none h] at h2; cases h2
    rw [Array.getD_eq_getD_getElem?, Array.getElem?_eq_getElem hsz] at h2
    simp only [Option.getD_some] at h2
    rw [Array.getElem?_eq_getElem hsz, h2]
  unfold wpList
  rw [if_neg (by unfold Region.wanted; rw [hg]; simp [hy, hb])]
  have hf' : FRel β (fr.putO o.dst undef) (a.put o.dst undef) := by
    cases hdst : o.dst with
    | none => exact hf
    | some d => rw [hdst] at hd; exact hf.put (by simpa [Nat.blt_eq] using hd) (VR.undef β)
  exact h β _ w hf' hh

theorem al_gnu {P : Program} {ops : Array Oper} {Q : Exit → AFr → AHeap → Prop} {fr : AFr} {H : AHeap} {o : Oper} {rest : List Oper} {j : Nat} {want : Bool} {dj : Nat} (hg : o.guard = some (j, want)) (hdj : dstAt ops j = some dj)
    (hgt : fr.get dj = undef) (hd : o.dst.all (fun d => Nat.blt d fr.n) = true) (h : AL P ops Q rest (fr.putO o.dst undef) H) : AL P ops Q (o :: rest) fr H := by
  intro β a w hf hh
  have hy : yielded ops a.tmps j = none := by
    have h1 := hf.val dj; rw [hgt] at h1
    have h2 := h1.undef_inv
    unfold yielded
    have e1 : ((ops[j]?).bind (·.dst)) = some dj := hdj
    rw [e1]
    simp only [Option.bind_some]
    rw [Array.getD_eq_getD_getElem?] at h2
    cases e2 : a.tmps[dj]? with
    | none => rfl
    | some z =>
      rw [e2] at h2
      cases z <;> first | rfl | exact absurd rfl (h2 _)
  unfold wpList
  rw [if_neg (by unfold Region.wanted; rw [hg]; simp [hy])]
  have hf' : FRel β (fr.putO o.dst undef) (a.put o.dst undef) := by
    cases hdst : o.dst with
    | none => exact hf
    | some d => rw [hdst] at hd; exact hf.put (by simpa [Nat.blt_eq] using hd) (VR.undef β)
  exact h β _ w hf' hh

theorem AFr.put_same {fr : AFr} {d : Nat} {v : Value} (h : fr.get d = v) : fr.put d v = fr := by
  cases fr with
  | mk n get =>
    unfold AFr.put
    congr 1
    funext i
    by_cases e : i = d
    · subst e; rw [beq_self]; exact h.symm
    · rw [beq_ne e]; rfl

/-- Both ways of a slot that holds a bool. -/
theorem al_cases {P : Program} {ops : Array Oper} {Q : Exit → AFr → AHeap → Prop} {fr : AFr} {H : AHeap} {l : List Oper} {d : Nat} {b : Bool} (hd : fr.get d = .bool b)
    (h1 : b = true → AL P ops Q l (fr.put d (.bool true)) H) (h2 : b = false → AL P ops Q l (fr.put d (.bool false)) H) : AL P ops Q l fr H := by
  cases b with
  | true => have := h1 rfl; rwa [AFr.put_same hd] at this
  | false => have := h2 rfl; rwa [AFr.put_same hd] at this

theorem dw_cases {P : Program} {ops : Array Oper} {Q : Exit → AFr → AHeap → Prop} {m i : Nat} {fr : AFr} {H : AHeap} {d : Nat} {b : Bool} (hd : fr.get d = .bool b)
    (h1 : b = true → DW P ops Q m i (fr.put d (.bool true)) H) (h2 : b = false → DW P ops Q m i (fr.put d (.bool false)) H) : DW P ops Q m i fr H := by
  cases b with
  | true => have := h1 rfl; rwa [AFr.put_same hd] at this
  | false => have := h2 rfl; rwa [AFr.put_same hd] at this

section
variable {P : Program} {ops : Array Oper} {Q : Exit → AFr → AHeap → Prop} {m i : Nat} {fr : AFr} {H H1 : AHeap} {o : Oper} {v : Value}
/-- One of the early operations of a region that draws. -/
theorem dw_op (ho : ops[i]? = some o) (hg : o.guard = none) (hd : o.dst.all (fun d => Nat.blt d fr.n) = true) (h : AOd P o fr.ev H v H1) (hs : Same H.next H H1) (hn : Nat.ble 0 0 = true) (hle : H.next ≤ H1.next)
    (hk : DW P ops Q m (i + 1) (fr.putO o.dst v) H1) : DW P ops Q m i fr H :=
  dw_step ho ⟨hd, .inl ⟨by rw [hg]; trivial, h, hs, hle⟩⟩ hk
theorem dw_opd (ho : ops[i]? = some o) (hg : o.guard = none) (hd : o.dst.all (fun d => Nat.blt d fr.n) = true) (h : AOd P o fr.ev H v H)
    (hk : DW P ops Q m (i + 1) (fr.putO o.dst v) H) : DW P ops Q m i fr H :=
  dw_step ho ⟨hd, .inl ⟨by rw [hg]; trivial, h, Same.refl _ _, Nat.le_refl _⟩⟩ hk
theorem dw_opn {k : ABlk} (ho : ops[i]? = some o) (hg : o.guard = none) (hd : o.dst.all (fun d => Nat.blt d fr.n) = true) (h : AOd P o fr.ev H v (H.push k))
    (hk : DW P ops Q m (i + 1) (fr.putO o.dst v) (H.push k)) : DW P ops Q m i fr H :=
  dw_step ho ⟨hd, .inl ⟨by rw [hg]; trivial, h, (Same.refl _ _).push (Nat.le_refl _) _, by rw [next_push]; omega⟩⟩ hk
theorem dw_gyes {j dj : Nat} {want : Bool} (ho : ops[i]? = some o) (hg : o.guard = some (j, want)) (hdj : dstAt ops j = some dj) (hgt : fr.get dj = .bool want) (hd : o.dst.all (fun d => Nat.blt d fr.n) = true) (h : AOd P o fr.ev H v H)
    (hk : DW P ops Q m (i + 1) (fr.putO o.dst v) H) : DW P ops Q m i fr H :=
  dw_step ho ⟨hd, .inl ⟨by rw [hg]; exact ⟨dj, hdj, hgt⟩, h, Same.refl _ _, Nat.le_refl _⟩⟩ hk
theorem dw_gno {j dj : Nat} {want b : Bool} (ho : ops[i]? = some o) (hg : o.guard = some (j, want)) (hdj : dstAt ops j = some dj) (hgt : fr.get dj = .bool b) (hb : b = !want) (hd : o.dst.all (fun d => Nat.blt d fr.n) = true)
    (hk : DW P ops Q m (i + 1) (fr.putO o.dst undef) H) : DW P ops Q m i fr H :=
  dw_step ho ⟨hd, .inr ⟨j, want, dj, hg, hdj, Or.inl (by rw [hgt, hb]), rfl, rfl⟩⟩ hk
theorem dw_gnu {j dj : Nat} {want : Bool} (ho : ops[i]? = some o) (hg : o.guard = some (j, want)) (hdj : dstAt ops j = some dj) (hgt : fr.get dj = undef) (hd : o.dst.all (fun d => Nat.blt d fr.n) = true)
    (hk : DW P ops Q m (i + 1) (fr.putO o.dst undef) H) : DW P ops Q m i fr H :=
  dw_step ho ⟨hd, .inr ⟨j, want, dj, hg, hdj, Or.inr hgt, rfl, rfl⟩⟩ hk
end

section
variable {P : Program} {Q : Exit → AFr → AHeap → Prop} {fr : AFr} {H H' : AHeap} {ρ : Operand → Value} {g : Option (Nat × Bool)} {d : Option Tmp} {ty : TypeId} {pos : String} {aft : Array Edge}

/-! ### literals -/

theorem foldl_set_rel {β : Bt} : ∀ (l : List (Value × Nat)) (l' : List (Value × Nat)) (off : Nat) (A B : Array Value), VRL β A.toList B.toList → l.length = l'.length →
    (∀ (j : Nat) p p', l[j]? = some p → l'[j]? = some p' → p.2 = p'.2 ∧ VR β p.1 p'.1) →
    VRL β (l.foldl (fun cs (c, j) => cs.setIfInBounds (off + j) c) A).toList (l'.foldl (fun cs (c, j) => cs.setIfInBounds (off + j) c) B).toList := by
  intro l
  induction l with
  | nil =>
    intro l' off A B h hl _
    cases l' with
    | nil => exact h
    | cons _ _ => simp at hl
  | cons p l ih =>
    intro l' off A B h hl hp
    cases l' with
    | nil => simp at hl
    | cons p' l' =>
      simp only [List.foldl_cons]
      obtain ⟨e, hv⟩ := hp 0 p p' rfl rfl
      refine ih l' off _ _ ?_ (by simpa using hl) fun j q q' hq hq' => hp (j + 1) q q' (by simpa using hq) (by simpa using hq')
      obtain ⟨c, j⟩ := p
      obtain ⟨c', j'⟩ := p'
      simp only at e hv ⊢
      subst e
      rw [Array.toList_setIfInBounds, Array.toList_setIfInBounds]
      exact h.set hv

theorem zipIdx_rel {β : Bt} {xs ys : Array Value} (h : VRL β xs.toList ys.toList) : ∀ (j : Nat) p p', xs.zipIdx.toList[j]? = some p → ys.zipIdx.toList[j]? = some p' → p.2 = p'.2 ∧ VR β p.1 p'.1 := by
  intro j p p' hp hp'
  simp only [Array.toList_zipIdx] at hp hp'
  rw [List.getElem?_zipIdx] at hp hp'
  cases hx : xs.toList[j]? with
  | none => rw [hx] at hp; cases hp
  | some x =>
    cases hy : ys.toList[j]? with
    | none => rw [hy] at hp'; cases hp'
    | some y =>
      rw [hx] at hp; rw [hy] at hp'
      cases hp; cases hp'
      exact ⟨rfl, h.2 j x y hx hy⟩

theorem fill_rel {β : Bt} (place : Nat → Option (Nat × Nat)) : ∀ (ps ps' : List (Nat × Value)) (A B A' : Array Value), VRL β A.toList B.toList → ps.length = ps'.length →
    (∀ (j : Nat) p p', ps[j]? = some p → ps'[j]? = some p' → p.1 = p'.1 ∧ VR β p.2 p'.2) → Instr.fill place A ps = some A' →
    ∃ B', Instr.fill place B ps' = some B' ∧ VRL β A'.toList B'.toList := by
  intro ps
  induction ps with
  | nil =>
    intro ps' A B A' h hl _ hf
    cases ps' with
    | nil => simp only [Instr.fill] at hf; cases hf; exact ⟨B, rfl, h⟩
    | cons _ _ => simp at hl
  | cons p ps ih =>
    intro ps' A B A' h hl hp hf
    cases ps' with
    | nil => simp at hl
    | cons p' ps' =>
      obtain ⟨i, v⟩ := p
      obtain ⟨i', v'⟩ := p'
      obtain ⟨e, hv⟩ := hp 0 _ _ rfl rfl
      simp only at e hv
      subst e
      have hc := hv.cells
      have hcs : v.cells.size = v'.cells.size := by have := hc.1; simpa using this
      have hAB : A.size = B.size := by have := h.1; simpa using this
      simp only [Instr.fill] at hf ⊢
      cases hpl : place i with
      | none => rw [hpl] at hf; cases hf
      | some q =>
        obtain ⟨off, size⟩ := q
        rw [hpl] at hf
        simp only at hf ⊢
        split at hf
        · cases hf
        · rename_i hno
          rw [if_neg (by rw [← hcs, ← hAB]; exact hno)]
          refine ih ps' _ _ A' ?_ (by simpa using hl) (fun j q q' hq hq' => hp (j + 1) q q' (by simpa using hq) (by simpa using hq')) hf
          rw [← Array.foldl_toList, ← Array.foldl_toList]
          exact foldl_set_rel _ _ off A B h (by simp [hcs]) (zipIdx_rel hc)

/-- The cells of a slice's literal. -/
def litCells (P : Program) (e : TypeId) (len : Nat) (size : Nat) (zero : Array Value) (ps : List (Nat × Value)) : Option (Array Value) :=
  Instr.fill (fun i => some (i * size, size)) ((Array.range (len * size)).map (zero[· % zero.size]!)) ps

theorem parts_rel {β : Bt} {ρ ρ' : Operand → Value} {ps : Array (Nat × Operand)} (h : ∀ x ∈ (ps.toList.map (·.2)).toArray, VR β (ρ x) (ρ' x)) :
    ∀ (j : Nat) p p', (ps.map fun (i, x) => (i, ρ x)).toList[j]? = some p → (ps.map fun (i, x) => (i, ρ' x)).toList[j]? = some p' → p.1 = p'.1 ∧ VR β p.2 p'.2 := by
  intro j p p' hp hp'
  simp only [Array.toList_map, List.getElem?_map] at hp hp'
  cases hx : ps.toList[j]? with
  | none => rw [hx] at hp; cases hp
  | some x =>
    rw [hx] at hp hp'
    simp only [Option.map_some, Option.some.injEq] at hp hp'
    subst hp; subst hp'
    exact ⟨rfl, h x.2 (by simpa using ⟨x.1, by simpa using List.mem_of_getElem? hx⟩)⟩

theorem vrl_plain {β : Bt} {z : Value} (hz : plainV z = true) : VRL β z.cells.toList z.cells.toList := (VR.plain β hz).cells

theorem vrl_zeros {β : Bt} {A : Array Value} (h : ∀ v ∈ A, VR β v v) : VRL β A.toList A.toList :=
  ⟨rfl, fun i x y hx hy => by rw [hx] at hy; cases hy; exact h x (by simpa using List.mem_of_getElem? hx)⟩

theorem foldl_size (off : Nat) (L : List (Value × Nat)) (X : Array Value) : (L.foldl (fun cs (c, j) => cs.setIfInBounds (off + j) c) X).size = X.size := by
  induction L generalizing X with
  | nil => rfl
  | cons c L ihL => rw [List.foldl_cons, ihL]; simp

/-- A slice's literal. -/
theorem ao_buildSlice {t e : TypeId} {len size : Nat} {z : Value} {parts : Array (Nat × Operand)} {ps : List (Nat × Value)} {A : Array Value} (hu : P.underlying t = some (.slice e)) (hn : ∀ w, (sizeOf e).run P w = .ok size w)
    (hz : ∀ w, (zeroValue e).run P w = .ok z w) (hzp : plainV z = true) (hzc : z.cells.size = size) (hs : 0 < size) (hl : len * size ≤ 16777216) (hps : parts.toList.map (fun p => (p.1, ρ p.2)) = ps) (hA : litCells P e len size z.cells ps = some A) :
    AOd P ⟨d, .buildSlice t len parts, ty, pos, aft, g⟩ ρ H (.slice (some ⟨H.next, 0, none⟩) len len) (H.push (.cells A.toList size)) := by
  intro β ρ' w h hh
  have hrel := parts_rel (ps := parts) (ρ := ρ) (ρ' := ρ') (β := β) (by simpa [Op.operands] using h)
  have hps' : (parts.map fun (i, x) => (i, ρ x)).toList = ps := by rw [Array.toList_map]; exact hps
  rw [hps'] at hrel
  have hzero : VRL β ((Array.range (len * size)).map (z.cells[· % z.cells.size]!)).toList ((Array.range (len * size)).map (z.cells[· % z.cells.size]!)).toList := by
    refine vrl_zeros fun v hv => ?_
    obtain ⟨i, hi, rfl⟩ := Array.mem_map.1 hv
    have hlt : i % z.cells.size < z.cells.size := Nat.mod_lt _ (by omega)
    rw [getElem!_pos z.cells _ hlt]
    exact (vrl_plain hzp).2 (i % z.cells.size) _ _ (by simp [hlt]) (by simp [hlt])
  obtain ⟨B, hB, hAB⟩ := fill_rel (β := β) _ ps (parts.map fun (i, x) => (i, ρ' x)).toList _ _ A hzero (by rw [← hps]; simp) hrel hA
  have hsz : B.size = len * size := by
    have hfs : ∀ (place : Nat → Option (Nat × Nat)) (qs : List (Nat × Value)) (X Y : Array Value), Instr.fill place X qs = some Y → Y.size = X.size := by
      intro place qs
      induction qs with
      | nil => intro X Y h; simp only [Instr.fill] at h; cases h; rfl
      | cons q qs ih =>
        intro X Y h
        obtain ⟨i, v⟩ := q
        simp only [Instr.fill] at h
        cases hp : place i with
        | none => rw [hp] at h; cases h
        | some o =>
          obtain ⟨off, sz⟩ := o
          rw [hp] at h
          simp only at h
          split at h
          · cases h
          · rw [ih _ _ h, ← Array.foldl_toList]; exact foldl_size _ _ _
    rw [hfs _ _ _ _ hB]; simp
  obtain ⟨k1, k2⟩ := hh.alloc (o := .cells B e) (S := B.size) (es := size) (BR.new (w := w) (e := e) (es := size) hAB)
  refine gives_value (v := .slice (some ⟨w.heap.size, 0, none⟩) len len) (w' := w.alloc (.cells B e)) ?_
    ⟨_, _, _, ⟨rfl, rfl⟩, .slice ⟨rfl, rfl, Nat.le_refl _, fun _ => rfl, _, Bt.set_same _ _ _, fun B1 o1 S1 es1 own1 e1 => by cases e1; exact ⟨rfl, .inr ⟨rfl, fun _ => by rw [hsz]; simp⟩, fun h => by omega⟩⟩, k1, k2, by show H.next ≤ H.next + 1; omega⟩
  have hno : ¬ (len * size > 2 ^ 24) := by omega
  have hbs : (Instr.buildSlice t len (parts.map fun (i, x) => (i, ρ' x))).run P w = .ok (.slice (some ⟨w.heap.size, 0, none⟩) len len) (w.alloc (.cells B e)) := by
    unfold Instr.buildSlice
    rw [Sem.run_bind, run_underlying hu]
    simp only [Result.andThen_ok]
    rw [Sem.run_bind, hn]
    simp only [Result.andThen_ok]
    rw [if_neg hno]
    have hB' := hB
    by_cases h0 : len * size = 0
    · rw [h0] at hB'
      simp only [h0, if_true]
      rw [Sem.run_bind]
      simp only [Sem.run_pure, Result.andThen_ok]
      have e0 : ∀ (y : Array Value), (Array.range 0).map (fun i => y[i % y.size]!) = #[] := by intro y; simp
      rw [e0] at hB'
      rw [e0, hB']
      simp [newRow, newObj, Sem.run, go_sem]
    · simp only [h0, if_false]
      rw [Sem.run_bind, hz]
      simp only [Result.andThen_ok, pure_bind]
      rw [hB']
      simp [newRow, newObj, Sem.run, go_sem]
  have : (execOp ρ' ⟨d, .buildSlice t len parts, ty, pos, aft, g⟩).run P w = ((Instr.buildSlice t len (parts.map fun (i, x) => (i, ρ' x))).run P w).andThen fun v w => .ok (.value v) w := by
    unfold execOp
    rw [Sem.run_bind]
    rfl
  rw [this, hbs]; rfl
end
end Go.AW
/- The rules for structs, made slices and functions. -/
namespace Go.AW
open Go
set_option linter.unusedVariables false
set_option linter.unusedSimpArgs false

/-- A tuple of plain values, or a plain value. -/
def plainT : Value → Bool
  | .tuple x => x.toList.all plainV
  | v => plainV v

theorem VR.plainT (β : Bt) {v : Value} (h : plainT v = true) : VR β v v := by
  cases v with
  | tuple x =>
    refine .tuple rfl ?_
    intro i u u' hu hu'
    rw [hu] at hu'; cases hu'
    simp only [AW.plainT, List.all_eq_true] at h
    exact VR.plain β (h u (by simpa using Array.mem_of_getElem? hu))
  | _ => exact VR.plain β h

theorem VR.plain1_inv {β : Bt} {v v' : Value} (hp : AW.plain1 v = true) (h : VR β v v') : v' = v := by
  cases h with
  | bool | int | string | ptrNil | sliceNil | mapNil | nilFunc | nilIface => rfl
  | ptr h => simp [AW.plain1] at hp
  | slice h => simp [AW.plain1] at hp
  | map t h h' => simp [AW.plain1] at hp
  | func => simp [AW.plain1] at hp
  | iface => simp [AW.plain1] at hp
  | agg => simp [AW.plain1] at hp
  | tuple => simp [AW.plain1] at hp

theorem VR.plain_inv {β : Bt} {v v' : Value} (hp : plainV v = true) (h : VR β v v') : v' = v := by
  cases v with
  | agg x =>
    cases h with
    | agg hx hx' =>
      rename_i y
      congr 1
      apply Array.ext
      · exact hx.symm
      · intro i h1 h2
        have hm : AW.plain1 x[i] = true := by
          simp only [plainV, List.all_eq_true] at hp
          exact hp _ (by simp)
        exact VR.plain1_inv hm (hx' i x[i] y[i] (Array.getElem?_eq_getElem h2) (Array.getElem?_eq_getElem h1))
  | _ => exact VR.plain1_inv hp h

section
variable {P : Program} {Q : Exit → AFr → AHeap → Prop} {fr : AFr} {H H' : AHeap} {ρ : Operand → Value} {g : Option (Nat × Bool)} {d : Option Tmp} {ty : TypeId} {pos : String} {aft : Array Edge}

/-- A struct's or an array's literal. -/
def buildOf (P : Program) (t : TypeId) (z : Value) (ps : List (Nat × Value)) : Option (Array Value) :=
  match P.underlying t with
  | some (.struct fields) => Instr.fill ((fields.map fun f => (f.offset, P.cellsOf f.type))[·]?) z.cells ps
  | some (.array _ e) => Instr.fill (fun i => some (i * P.cellsOf e, P.cellsOf e)) z.cells ps
  | _ => none

theorem run_places {fields : Array Field} {w : World} (h : ∀ f ∈ fields.toList, ∃ i, P.info? f.type = some i) :
    (fields.mapM fun (f : Field) => (do Pure.pure (f.offset, ← sizeOf f.type) : Sem (Nat × Nat))).run P w = .ok (fields.map fun (f : Field) => (f.offset, P.cellsOf f.type)) w := by
  have key : ∀ (l : List Field), (∀ f ∈ l, ∃ i, P.info? f.type = some i) → (l.mapM fun (f : Field) => (do Pure.pure (f.offset, ← sizeOf f.type) : Sem (Nat × Nat))).run P w = .ok (l.map fun (f : Field) => (f.offset, P.cellsOf f.type)) w := by
    intro l
    induction l with
    | nil => intro _; simp
    | cons f l ih =>
      intro hl
      obtain ⟨i, hi⟩ := hl f (List.mem_cons_self ..)
      have ih' := ih fun f' hf' => hl f' (List.mem_cons_of_mem _ hf')
      have hs : (sizeOf f.type).run P w = .ok (P.cellsOf f.type) w := by simp [sizeOf, typeInfo, hi, Program.cellsOf]
      rw [List.mapM_cons, Sem.run_bind, Sem.run_bind, hs]
      simp only [Result.andThen_ok, Sem.run_pure]
      rw [Sem.run_bind, ih']
      rfl
  rw [Array.mapM_eq_mapM_toList, Sem.run_map, key _ h]
  simp only [Result.andThen_ok]
  congr 1
  apply Array.ext'
  simp

theorem ao_build {t : TypeId} {z : Value} {parts : Array (Nat × Operand)} {ps : List (Nat × Value)} {A : Array Value} (hz : ∀ w, (zeroValue t).run P w = .ok z w) (hzp : plainV z = true)
    (hi : (match P.underlying t with | some (.struct fields) => fields.toList.all fun f => (P.info? f.type).isSome | some (.array _ e) => (P.info? e).isSome | _ => false) = true)
    (hps : parts.toList.map (fun p => (p.1, ρ p.2)) = ps) (hA : buildOf P t z ps = some A) :
    AOd P ⟨d, .build t parts, ty, pos, aft, g⟩ ρ H (.agg A) H :=
  AO.pure fun β ρ' w h hh => by
    have hrel := parts_rel (ps := parts) (ρ := ρ) (ρ' := ρ') (β := β) (by simpa [Op.operands] using h)
    have hps' : (parts.map fun (i, x) => (i, ρ x)).toList = ps := by rw [Array.toList_map]; exact hps
    rw [hps'] at hrel
    have hex : (execOp ρ' ⟨d, .build t parts, ty, pos, aft, g⟩).run P w = ((Instr.build t (parts.map fun (i, x) => (i, ρ' x))).run P w).andThen fun v w => .ok (.value v) w := by
      unfold execOp
      rw [Sem.run_bind]
      rfl
    unfold buildOf at hA
    have hu' : ∀ de, P.underlying t = some de → (underlying t).run P w = .ok de w := fun de hde => run_underlying hde w
    split at hA
    · rename_i fields hu
      obtain ⟨B, hB, hAB⟩ := fill_rel (β := β) _ ps (parts.map fun (i, x) => (i, ρ' x)).toList _ _ A (vrl_plain hzp) (by rw [← hps]; simp) hrel hA
      refine ⟨.agg B, ?_, .agg (by have := hAB.1; simpa using this) fun i x y hx hy => hAB.2 i x y (by simpa using hx) (by simpa using hy)⟩
      rw [hu] at hi
      have hpl := run_places (P := P) (fields := fields) (w := w) fun f hf => by
        have := List.all_eq_true.1 hi f hf
        exact Option.isSome_iff_exists.1 this
      have : (Instr.build t (parts.map fun (i, x) => (i, ρ' x))).run P w = .ok (.agg B) w := by
        unfold Instr.build
        rw [Sem.run_bind, hz]
        simp only [Result.andThen_ok]
        rw [Sem.run_bind, hu' _ hu]
        simp only [Result.andThen_ok]
        rw [Sem.run_bind, hpl]
        simp only [Result.andThen_ok]
        rw [hB]; rfl
      rw [hex, this]; rfl
    · rename_i n e hu
      obtain ⟨B, hB, hAB⟩ := fill_rel (β := β) _ ps (parts.map fun (i, x) => (i, ρ' x)).toList _ _ A (vrl_plain hzp) (by rw [← hps]; simp) hrel hA
      refine ⟨.agg B, ?_, .agg (by have := hAB.1; simpa using this) fun i x y hx hy => hAB.2 i x y (by simpa using hx) (by simpa using hy)⟩
      rw [hu] at hi
      obtain ⟨inf, hinf⟩ := Option.isSome_iff_exists.1 hi
      have hs : (sizeOf e).run P w = .ok (P.cellsOf e) w := by simp [sizeOf, typeInfo, hinf, Program.cellsOf]
      have : (Instr.build t (parts.map fun (i, x) => (i, ρ' x))).run P w = .ok (.agg B) w := by
        unfold Instr.build
        rw [Sem.run_bind, hz]
        simp only [Result.andThen_ok]
        rw [Sem.run_bind, hu' _ hu]
        simp only [Result.andThen_ok]
        rw [Sem.run_bind, hs]
        simp only [Result.andThen_ok]
        rw [hB]; rfl
      rw [hex, this]; rfl
    · cases hA

/-- make([]T, n, c). -/
theorem ao_makeSlice {t e : TypeId} {x y : Operand} {k1 k2 : IntKind} {l c : Int} {ln size bytes : Nat} {i : TypeInfo} {z : Value} (ht : P.underlying t = some (.slice e)) (hi : P.info? e = some i) (hz : i.zero = some z) (hsz : i.size = size) (hby : i.bytes = bytes)
    (hzp : plainV z = true) (hzc : z.cells.size = size) (hs : 0 < size) (hx : ρ x = .int k1 l) (hy : ρ y = .int k2 c) (hl : l = (ln : Int)) (h1 : l ≤ c) (hb : (bytes : Int) * c ≤ 281474976710656) (h63 : c ≤ 9223372036854775807) :
    AOd P ⟨d, .makeSlice t x y, ty, pos, aft, g⟩ ρ H (.slice (some ⟨H.next, 0, none⟩) ln (if l = c then ln else ln + 1)) (H.push (.cells ((madeCells z.cells (ln * size)).toList) size)) := by
  subst hsz; subst hby; subst hl
  intro β ρ' w h hh
  have q1 := h x (by simp [Op.operands]); rw [hx] at q1
  have q2 := h y (by simp [Op.operands]); rw [hy] at q2
  have hr := run_make (P := P) w t e i z ht hi hz k1 k2 ln c (by omega) h1 hb h63
  simp only [Int.toNat_natCast] at hr
  have hle : ln * i.size ≤ c.toNat * i.size := Nat.mul_le_mul_right _ (by omega)
  obtain ⟨r1, r2⟩ := hh.alloc (k := .cells ((madeCells z.cells (ln * i.size)).toList) i.size) (o := .cells (madeCells z.cells (c.toNat * i.size)) e) (S := c.toNat * i.size) (es := i.size) (by
    intro β' hb'
    refine ⟨madeCells z.cells (c.toNat * i.size), e, (0, 0), by show (w.heap.push _)[w.heap.size]? = _; simp, size_madeCells _ _, by simp [size_madeCells]; exact hle, ?_, rfl, rfl, rfl⟩
    intro j u hu
    simp only [madeCells, Array.toList_map, List.getElem?_map, Array.toList_range] at hu
    by_cases hj : j < ln * i.size
    · rw [List.getElem?_range hj] at hu
      simp only [Option.map_some, Option.some.injEq] at hu
      refine ⟨u, ?_, ?_⟩
      · simp only [madeCells, Nat.zero_add, Array.getElem?_map, Array.getElem?_range]
        rw [if_pos (by omega)]; simp [hu]
      · have hlt : j % z.cells.size < z.cells.size := Nat.mod_lt _ (by omega)
        rw [← hu, getElem!_pos z.cells _ hlt]
        exact (vrl_plain hzp).2 (j % z.cells.size) _ _ (by simp [hlt]) (by simp [hlt])
    · rw [List.getElem?_eq_none (by simp; omega)] at hu; cases hu)
  refine gives_value (v := .slice (some ⟨w.heap.size, 0, none⟩) ln c.toNat) (w' := w.alloc (.cells (madeCells z.cells (c.toNat * i.size)) e)) ?_
    ⟨_, _, _, ⟨rfl, rfl⟩, .slice ⟨rfl, rfl, by omega, fun he => ?_, _, Bt.set_same _ _ _, fun B1 o1 S1 es1 own1 e1 => by cases e1; exact ⟨rfl, .inr ⟨rfl, fun _ => by simp⟩, fun h => by (first | omega | (split at h <;> omega))⟩⟩, r1, r2, by show H.next ≤ H.next + 1; omega⟩
  · have : (execOp ρ' ⟨d, .makeSlice t x y, ty, pos, aft, g⟩).run P w = ((Instr.makeSlice t (ρ' x) (ρ' y)).run P w).andThen fun v w => .ok (.value v) w := by
      unfold execOp; rw [Sem.run_bind]; rfl
    rw [this, q1.int_inv, q2.int_inv, hr]; rfl
  · by_cases hlc : (ln : Int) = c
    · omega
    · rw [if_neg hlc] at he; omega

/-- x.f of a struct that is a value: one cell. -/
theorem ao_field {t : TypeId} {x : Operand} {f : Nat} {cs : Array Value} {fields : Array Field} {fd : Field} {v : Value} (hu : P.underlying t = some (.struct fields)) (hf : fields[f]? = some fd) (hg : ∀ w, (isAgg fd.type).run P w = .ok false w)
    (hx : ρ x = .agg cs) (hc : cs[fd.offset]? = some v) : AOd P ⟨d, .field t x f, ty, pos, aft, g⟩ ρ H v H :=
  AO.pure fun β ρ' w h hh => by
    have q1 := h x (by simp [Op.operands]); rw [hx] at q1
    generalize hz : ρ' x = z at q1
    cases q1 with
    | agg h1 h2 =>
      rename_i ys
      obtain ⟨u, hu'⟩ : ∃ u, ys[fd.offset]? = some u := ⟨_, Array.getElem?_eq_getElem (by rw [← h1]; exact (Array.getElem?_eq_some_iff.1 hc).1)⟩
      refine ⟨u, ?_, h2 _ v u hc hu'⟩
      simp [execOp, hz, go_sem, Instr.field, underlying, hu, hf, part, hg, asAgg, hu']

/-- == of two structs or arrays that name no block. -/
theorem ao_eqV {t yt : TypeId} {x y : Operand} {cs ds : Array Value} {b : Bool} (hm : P.eqGuardType P.depth t = false) (hx : ρ x = .agg cs) (hy : ρ y = .agg ds) (h1 : plainV (.agg cs) = true) (h2 : plainV (.agg ds) = true)
    (he : ∀ w, (Op.equalIn 10000 t (.agg cs) (.agg ds)).run P w = .ok b w) : AOd P ⟨d, .binOp .eql t x y yt, ty, pos, aft, g⟩ ρ H (.bool b) H :=
  AO.pure fun β ρ' w h hh => by
    have q1 := h x (by simp [Op.operands]); rw [hx] at q1
    have q2 := h y (by simp [Op.operands]); rw [hy] at q2
    refine ⟨_, ?_, .bool _⟩
    unfold execOp
    simp only [q1.plain_inv h1, q2.plain_inv h2]
    rw [Sem.run_bind, Sem.run_bind, run_eqGuard_agg w .eql t x y cs ds hm]
    simp only [Result.andThen_ok]
    rw [run_eql_struct, he]; rfl
theorem ao_neV {t yt : TypeId} {x y : Operand} {cs ds : Array Value} {b : Bool} (hm : P.eqGuardType P.depth t = false) (hx : ρ x = .agg cs) (hy : ρ y = .agg ds) (h1 : plainV (.agg cs) = true) (h2 : plainV (.agg ds) = true)
    (he : ∀ w, (Op.equalIn 10000 t (.agg cs) (.agg ds)).run P w = .ok b w) : AOd P ⟨d, .binOp .neq t x y yt, ty, pos, aft, g⟩ ρ H (.bool (!b)) H :=
  AO.pure fun β ρ' w h hh => by
    have q1 := h x (by simp [Op.operands]); rw [hx] at q1
    have q2 := h y (by simp [Op.operands]); rw [hy] at q2
    refine ⟨_, ?_, .bool _⟩
    unfold execOp
    simp only [q1.plain_inv h1, q2.plain_inv h2]
    rw [Sem.run_bind, Sem.run_bind, run_eqGuard_agg w .neq t x y cs ds hm]
    simp only [Result.andThen_ok]
    rw [run_neq_struct, he]; rfl

/-- == of two bools. -/
theorem ao_eqB {t yt : TypeId} {x y : Operand} {a b : Bool} (hu : P.underlying t = some .bool) (hx : ρ x = .bool a) (hy : ρ y = .bool b) : AOd P ⟨d, .binOp .eql t x y yt, ty, pos, aft, g⟩ ρ H (.bool (a == b)) H :=
  AO.pure fun β ρ' w h hh => by
    have q1 := h x (by simp [Op.operands]); rw [hx] at q1
    have q2 := h y (by simp [Op.operands]); rw [hy] at q2
    refine ⟨_, ?_, .bool _⟩
    simp [execOp, q1.bool_inv, q2.bool_inv, go_sem, eqGuard, binOp, Op.equal, Op.maxDepth, run_equalIn_bool' w 9999 t a b hu]
theorem ao_neB {t yt : TypeId} {x y : Operand} {a b : Bool} (hu : P.underlying t = some .bool) (hx : ρ x = .bool a) (hy : ρ y = .bool b) : AOd P ⟨d, .binOp .neq t x y yt, ty, pos, aft, g⟩ ρ H (.bool (!(a == b))) H :=
  AO.pure fun β ρ' w h hh => by
    have q1 := h x (by simp [Op.operands]); rw [hx] at q1
    have q2 := h y (by simp [Op.operands]); rw [hy] at q2
    refine ⟨_, ?_, .bool _⟩
    simp [execOp, q1.bool_inv, q2.bool_inv, go_sem, eqGuard, binOp, Op.equal, Op.maxDepth, run_equalIn_bool' w 9999 t a b hu]

/-- A closure. -/
theorem ao_makeFunc {fn : Fn} {first captured : Array Operand} {fs cs : List Value} (h1 : first.toList.map ρ = fs) (h2 : captured.toList.map ρ = cs) :
    AOd P ⟨d, .makeFunc fn first captured, ty, pos, aft, g⟩ ρ H (.func fn fs.toArray cs.toArray) H :=
  AO.pure fun β ρ' w h hh => by
    refine ⟨.func fn (first.map ρ') (captured.map ρ'), by simp [execOp, go_sem, Instr.makeFunc], ?_⟩
    subst h1; subst h2
    refine .func (by simp) ?_ (by simp) ?_
    · intro i u u' hu hu'
      simp only [List.getElem?_toArray, List.getElem?_map, Array.getElem?_toList] at hu
      simp only [Array.getElem?_map] at hu'
      cases hx : first[i]? with
      | none => rw [hx] at hu; cases hu
      | some x =>
        rw [hx] at hu hu'
        cases hu; cases hu'
        exact h x (by simp [Op.operands, Array.mem_of_getElem? hx])
    · intro i u u' hu hu'
      simp only [List.getElem?_toArray, List.getElem?_map, Array.getElem?_toList] at hu
      simp only [Array.getElem?_map] at hu'
      cases hx : captured[i]? with
      | none => rw [hx] at hu; cases hu
      | some x =>
        rw [hx] at hu hu'
        cases hu; cases hu'
        exact h x (by simp [Op.operands, Array.mem_of_getElem? hx])

/-- A call of a function value. -/
theorem ao_callv {R : Value → AHeap → Prop} {t f : Nat} {fs cs : Array Value} {xs : Array Operand} {ts : Array TypeId} {args : List Value}
    (hc : ∀ (args : Array Value) (w : World), (callFunc f args).run P w = .ok (.enter f args) w) (hf : ρ (.tmp t) = .func (.func f) fs cs) (hx : fs.toList ++ xs.toList.map ρ ++ cs.toList = args) (h : AC P f args H R) :
    AO P ⟨d, .call ⟨.value (.tmp t), xs, ts⟩, ty, pos, aft, g⟩ ρ H R := by
  intro β ρ' w hv hh
  have q := hv (.tmp t) (by simp [Op.operands, Call.operands])
  rw [hf] at q
  generalize hz : ρ' (.tmp t) = z at q
  cases q with
  | func h1 h1' h2 h2' =>
    rename_i fs' cs'
    have hrun : (execOp ρ' ⟨d, .call ⟨.value (.tmp t), xs, ts⟩, ty, pos, aft, g⟩).run P w = .ok (.enter f (fs' ++ xs.map ρ' ++ cs')) w := by
      have := hc (fs' ++ xs.map ρ' ++ cs') w
      simp only [Array.append_assoc] at this
      simp [execOp, go_sem, resolve, hz, Deferred.ofValue, invoke, this]
    refine gives_enter hrun ?_
    have hl : VRL β args (fs' ++ xs.map ρ' ++ cs').toList := by
      rw [← hx]
      simp only [Array.toList_append]
      refine (VRL.append ?_ ?_).append ?_
      · exact ⟨by simpa using h1, fun i u u' hu hu' => h1' i u u' (by simpa using hu) (by simpa using hu')⟩
      · refine ⟨by simp, fun i u u' hu hu' => ?_⟩
        simp only [List.getElem?_map, Array.getElem?_toList] at hu
        simp only [Array.toList_map, List.getElem?_map, Array.getElem?_toList] at hu'
        cases hxi : xs[i]? with
        | none => rw [hxi] at hu; cases hu
        | some x =>
          rw [hxi] at hu hu'
          cases hu; cases hu'
          exact hv x (by simp [Op.operands, Call.operands, Array.mem_of_getElem? hxi])
      · exact ⟨by simpa using h2, fun i u u' hu hu' => h2' i u u' (by simpa using hu) (by simpa using hu')⟩
    refine (h β _ w (by have := hl.1; simp only [Array.length_toList] at this; exact this.symm) (fun i u u' hu hu' => hl.2 i u u' hu (by rw [Array.getElem?_toList]; exact hu')) hh).mono ?_
    rintro e w' ⟨v', rfl, hout⟩
    exact ⟨v', rfl, hout⟩
end
end Go.AW
