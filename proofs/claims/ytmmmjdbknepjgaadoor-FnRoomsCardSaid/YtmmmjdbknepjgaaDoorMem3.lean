/- The rules for stores and for new variables. -/
import Derived.Test.YtmmmjdbknepjgaaDoorDraw3
import Derived.Laws.StructEq
import Derived.Laws.AppendOwn
import Derived.Laws.MakeOwn
import Derived.Laws.IdiomStrings
import Derived.Laws.BytesString
import Derived.Laws.BytesArg
namespace Go.AW
open Go
set_option linter.unusedVariables false
set_option linter.unusedSimpArgs false

/-! ### stores -/

def isOne : Value → Bool
  | .agg _ | .tuple _ => false
  | _ => true

theorem VR.one {β : Bt} {x y : Value} (h : VR β x y) (hx : isOne x = true) : isOne y = true := by
  cases h <;> first | rfl | exact hx

theorem run_store {P : Program} {a : Addr} {w : World} {v u : Value} (h : w.cell? a = some u) (hf : w.frozen? a = false) (ho : isOne v = true) : (store a v).run P w = .ok () (w.setCell a v) := by
  cases v <;> first | (simp [isOne] at ho; done) | simp [store, Sem.run, h, hf]

/-- One cell of our own is written. -/
theorem HRel.write {β : Bt} {H : AHeap} {w : World} (h : HRel β H w) {b B off S es i : Nat} {cs : List Value} {x y : Value} (hb : β b = some (.live B off S es true)) (hk : H.blk b = some (.cells cs es))
    (hi : i < cs.length) (hv : VR β x y) (ho : isOne x = true) (P : Program) :
    (store ⟨B, off + i, none⟩ y).run P w = .ok () (w.setCell ⟨B, off + i, none⟩ y) ∧ HRel β (H.set b (.cells (cs.set i x) es)) (w.setCell ⟨B, off + i, none⟩ y) ∧
      Step H.next β w β (w.setCell ⟨B, off + i, none⟩ y) := by
  obtain ⟨k, hk', hr⟩ := h.rel b B off S es true hb
  rw [hk] at hk'; cases hk'
  obtain ⟨C, e, fz, h1, h2, h3, h4, h5, h6, h7⟩ := hr
  have hlt : off + i < C.size := by omega
  have hcell : w.cell? ⟨B, off + i, none⟩ = some C[off + i] := by rw [cell_of h1]; exact Array.getElem?_eq_getElem hlt
  have hfz : w.frozen? ⟨B, off + i, none⟩ = false := by
    simp [World.frozen?, h1, h7]
  have hset : ∀ j, (w.setCell ⟨B, off + i, none⟩ y).heap[j]? = if j = B then some (.cells (C.setIfInBounds (off + i) y) e fz) else w.heap[j]? := by
    intro j
    simp only [World.setCell, Array.getElem?_modify]
    by_cases ej : B = j
    · subst ej; simp [h1]
    · rw [if_neg ej, if_neg (Ne.symm ej)]
  refine ⟨run_store hcell hfz (hv.one ho), ⟨?_, ?_, h.inj, h.dom, h.glob.of (fun g _ hno => by rw [hset, if_neg]; rintro rfl; exact hno b off S es hb) fun b g o S es h => .inl ⟨b, o, S, es, h⟩⟩, ⟨fun _ _ h => .inl h, fun _ _ h => h, fun b B o S es h => .inl ⟨b, o, S, es, h⟩, fun _ _ _ _ _ h => h, rfl, rfl, rfl, by simp, fun B' hB' hno => ?_⟩⟩
  · intro b1 B1 o1 S1 es1 own1 hb1
    by_cases e1 : b1 = b
    · subst e1
      rw [hb] at hb1; cases hb1
      refine ⟨_, blk_set_same hk, C.setIfInBounds (off + i) y, e, fz, by rw [hset, if_pos rfl], by simp [h2], by simpa using h3, ?_, rfl, rfl, h7⟩
      intro j u hu
      rw [List.getElem?_set] at hu
      by_cases ej : i = j
      · subst ej
        rw [if_pos rfl, if_pos hi] at hu; cases hu
        exact ⟨y, by rw [Array.getElem?_setIfInBounds_self_of_lt hlt], hv⟩
      · rw [if_neg ej] at hu
        obtain ⟨z, hz, hzv⟩ := h4 j u hu
        exact ⟨z, by rw [Array.getElem?_setIfInBounds_ne (by omega)]; exact hz, hzv⟩
    · obtain ⟨k1, hk1, hr1⟩ := h.rel b1 B1 o1 S1 es1 own1 hb1
      refine ⟨k1, by rw [blk_set_ne e1]; exact hk1, hr1.mono (fun _ _ h => .inl h) ?_⟩
      rw [hset, if_neg]
      intro eB
      subst eB
      exact e1 (h.inj b1 b B1 o1 S1 es1 own1 off S es true hb1 hb (.inr rfl))
  · intro b1 hb1
    have e1 : b1 ≠ b := by intro e1; subst e1; rw [hb] at hb1; cases hb1
    rw [blk_set_ne e1]; exact h.stale b1 hb1
  · rw [hset, if_neg]
    intro eB
    subst eB
    exact hno b off S es hb

/-- A list written from place i on. -/
def writeL : List Value → Nat → List Value → List Value
  | cs, _, [] => cs
  | cs, i, x :: xs => writeL (cs.set i x) (i + 1) xs

theorem writeL_length (cs : List Value) (i : Nat) (xs : List Value) : (writeL cs i xs).length = cs.length := by
  induction xs generalizing cs i with
  | nil => rfl
  | cons x xs ih => simp [writeL, ih]

theorem writeL_eq (cs : List Value) (i : Nat) (xs : List Value) (h : i + xs.length ≤ cs.length) : writeL cs i xs = cs.take i ++ xs ++ cs.drop (i + xs.length) := by
  induction xs generalizing cs i with
  | nil => simp [writeL]
  | cons x xs ih =>
    simp only [List.length_cons] at h
    rw [writeL, ih _ _ (by simp; omega)]
    rw [List.take_set, List.drop_set_of_lt (by omega)]
    have : (cs.take (i + 1)).set i x = cs.take i ++ [x] := by
      rw [List.take_succ_eq_append_getElem (by omega), List.set_append_right _ _ (by simp; omega)]
      simp [List.length_take, Nat.min_eq_left (show i ≤ cs.length by omega)]
    rw [this]
    simp [Nat.add_assoc, Nat.add_comm 1]

theorem writeL_all {cs xs : List Value} (h : xs.length = cs.length) : writeL cs 0 xs = xs := by
  rw [writeL_eq _ _ _ (by omega)]; simp [h]

theorem HRel.writes (P : Program) {β : Bt} {b B off S es : Nat} (hb : β b = some (.live B off S es true)) : ∀ (xs ys : List Value) (o j : Nat) {H : AHeap} {w : World} {cs : List Value}, HRel β H w → H.blk b = some (.cells cs es) →
    o + j + xs.length ≤ cs.length → VRL β xs ys → (∀ x ∈ xs, isOne x = true) →
    ∃ w', (storeCells ⟨B, off + o, none⟩ ys j).run P w = .ok () w' ∧ HRel β (H.set b (.cells (writeL cs (o + j) xs) es)) w' ∧ Step H.next β w β w' := by
  intro xs
  induction xs with
  | nil =>
    intro ys o j H w cs h hk hl hv ho
    have : ys = [] := List.eq_nil_of_length_eq_zero hv.1.symm
    subst this
    exact ⟨w, by simp [storeCells, go_sem], by rw [writeL, set_self hk]; exact h, Step.refl _ _ _⟩
  | cons x xs ih =>
    intro ys o j H w cs h hk hl hv ho
    cases ys with
    | nil => have := hv.1; simp at this
    | cons y ys =>
      simp only [List.length_cons] at hl
      obtain ⟨r1, r2, r3⟩ := h.write hb hk (i := o + j) (by omega) hv.head (ho x (List.mem_cons_self ..)) P
      obtain ⟨w', q1, q2, q3⟩ := ih ys o (j + 1) r2 (blk_set_same hk) (by simp; omega) hv.tail fun u hu => ho u (List.mem_cons_of_mem _ hu)
      refine ⟨w', ?_, ?_, r3.trans q3 (Nat.le_refl _)⟩
      · have e1 : (⟨B, off + o, none⟩ : Addr).add j = ⟨B, off + (o + j), none⟩ := by rw [add_none rfl]; simp [Nat.add_assoc]
        have : (storeCells ⟨B, off + o, none⟩ (y :: ys) j).run P w = (storeCells ⟨B, off + o, none⟩ ys (j + 1)).run P (w.setCell ⟨B, off + (o + j), none⟩ y) := by
          rw [storeCells, e1, Sem.run_bind, r1]; rfl
        rw [this]; exact q1
      · rw [writeL]
        rw [set_set] at q2
        exact q2

theorem run_storeVar {P : Program} {t : TypeId} {a : Addr} {v : Value} {w w' : World} {n : Nat} (hn : (sizeOf t).run P w = .ok n w) (hsz : v.cells.size = n)
    (h : (storeCells a v.cells.toList).run P w = .ok () w') : (storeVar t a v).run P w = .ok () w' := by
  unfold storeVar
  rw [Sem.run_bind, hn]
  simp only [Result.andThen_ok]
  rw [if_neg (by simpa using hsz)]
  exact h

def ABlk.fits : ABlk → Nat → Prop
  | .cells _ es, n => es = n
  | .ro _, _ => True
  | .map _, _ => False

section
variable {P : Program} {Q : Exit → AFr → AHeap → Prop} {fr : AFr} {H H' : AHeap} {ρ : Operand → Value} {g : Option (Nat × Bool)} {d : Option Tmp} {ty : TypeId} {pos : String} {aft : Array Edge}

/-- A store. -/
theorem ao_store {t : TypeId} {x y : Operand} {b o n es : Nat} {cs : List Value} {v : Value} (hn : ∀ w, (sizeOf t).run P w = .ok n w) (hx : ρ x = .pointer (some ⟨b, o, none⟩)) (hy : ρ y = v)
    (hk : H.blk b = some (.cells cs es)) (hc : v.cells.toList.length = n) (ho : v.cells.toList.all isOne = true) (hl : o + n ≤ cs.length) :
    AOd P ⟨d, .store t x y, ty, pos, aft, g⟩ ρ H undef (H.set b (.cells (writeL cs o v.cells.toList) es)) := by
  intro β ρ' w h hh
  have h1 := h x (by simp [Op.operands]); rw [hx] at h1
  have h2 := h y (by simp [Op.operands]); rw [hy] at h2
  obtain ⟨a', ha, hA⟩ := h1.ptr_inv
  obtain ⟨B, off, S, es', own, hb, rfl, hbr⟩ := hh.at hA hk
  obtain ⟨C, e, fz, g1, g2, g3, g4, g5, g6, g7⟩ := hbr
  subst g5; subst g6
  have hvl := h2.cells
  obtain ⟨w', r1, r2, r3⟩ := HRel.writes P hb v.cells.toList (ρ' y).cells.toList o 0 hh hk (by omega) hvl (fun u hu => by rw [List.all_eq_true] at ho; exact ho u hu)
  have hsz : (ρ' y).cells.size = n := by have := hvl.1; simp at this hc; omega
  refine gives_skip (w' := w') ?_ ⟨undef, _, β, ⟨rfl, rfl⟩, VR.undef β, r2, r3, Nat.le_refl _⟩
  have : (storeCells ⟨B, off + o, none⟩ (ρ' y).cells.toList).run P w = .ok () w' := r1
  have h3 := run_storeVar (a := ⟨B, off + o, none⟩) (hn w) hsz this
  have h4 : (execOp ρ' ⟨d, .store t x y, ty, pos, aft, g⟩) = (do Instr.storeAt t (ρ' x) (ρ' y); Pure.pure Next.skip) := rfl
  rw [h4, Sem.run_bind, ha]
  unfold Instr.storeAt Instr.sureAddr
  simp only [pure_bind, h3, Result.andThen_ok]; rfl

/-- A store of one cell. -/
theorem ao_store1 {t : TypeId} {x y : Operand} {b o es : Nat} {cs : List Value} {v : Value} (hn : ∀ w, (sizeOf t).run P w = .ok 1 w) (hx : ρ x = .pointer (some ⟨b, o, none⟩)) (hy : ρ y = v)
    (hk : H.blk b = some (.cells cs es)) (ho : isOne v = true) (hl : o < cs.length) :
    AOd P ⟨d, .store t x y, ty, pos, aft, g⟩ ρ H undef (H.set b (.cells (cs.set o v) es)) := by
  have hcells : v.cells.toList = [v] := by cases v <;> first | rfl | (simp [isOne] at ho; done)
  have := ao_store (d := d) (ty := ty) (pos := pos) (aft := aft) (g := g) hn hx hy hk (by rw [hcells]; rfl) (by rw [hcells]; simp [ho]) (by omega)
  rw [hcells] at this
  exact this

/-- A store of a whole variable. -/
theorem ao_storea {t : TypeId} {x y : Operand} {b n es : Nat} {cs : List Value} {v : Value} (hn : ∀ w, (sizeOf t).run P w = .ok n w) (hx : ρ x = .pointer (some ⟨b, 0, none⟩)) (hy : ρ y = v)
    (hk : H.blk b = some (.cells cs es)) (hc : v.cells.toList.length = n) (ho : v.cells.toList.all isOne = true) (hl : cs.length = n) :
    AOd P ⟨d, .store t x y, ty, pos, aft, g⟩ ρ H undef (H.set b (.cells v.cells.toList es)) := by
  have := ao_store (d := d) (ty := ty) (pos := pos) (aft := aft) (g := g) hn hx hy hk hc ho (by omega)
  rwa [writeL_all (by omega)] at this

/-! ### what a set leaves, in one form -/
inductive SetR : AHeap → Nat → ABlk → AHeap → Prop where
  | base {H : AHeap} {b : Nat} {k : ABlk} : SetR H b k (H.set b k)
  | new {H : AHeap} {a k : ABlk} : SetR (H.push a) H.next k (H.push k)
  | old {H H' : AHeap} {b : Nat} {a k : ABlk} (hb : ∃ z, H.blk b = some z) (h : SetR H b k H') : SetR (H.push a) b k (H'.push a)
  | same {H : AHeap} {b : Nat} {a k : ABlk} : SetR (H.set b a) b k (H.set b k)

theorem SetR.eq {H : AHeap} {b : Nat} {k : ABlk} {H' : AHeap} (h : SetR H b k H') : H.set b k = H' := by
  induction h with
  | base => rfl
  | @new H a k =>
    refine AHeap.ext' rfl fun j => ?_
    by_cases e : j = H.next
    · subst e; rw [blk_set_same (blk_push_new _ _), blk_push_new]
    · rw [blk_set_ne e, blk_push_ne e, blk_push_ne e]
  | old hb h ih => obtain ⟨z, hz⟩ := hb; rw [set_push hz, ih]
  | same => exact set_set _ _ _ _

theorem AOd.to {o : Oper} {v : Value} {H1 H2 : AHeap} (h : AOd P o ρ H v H1) (e : H1 = H2) : AOd P o ρ H v H2 := e ▸ h

/-! ### slices -/

/-- The reach of a slice's part. -/
theorem SR.part {β : Bt} {H : AHeap} {w : World} (hh : HRel β H w) {b o len c c' n l h : Nat} {a' : Addr} (hA : SR β ⟨b, o, none⟩ a' len c c') {k : ABlk} (hk : H.blk b = some k) (hf : k.fits n) (h1 : l ≤ h) (h2 : h ≤ len)
    {c2 : Nat} (hc : c2 = h - l → c = len ∧ h = len) (hd : c2 ≤ h - l + 1 := by omega) :
    VR β (.slice (some ⟨b, o + l * n, none⟩) (h - l) c2) (.slice (if c' = l then some a' else some (a'.add (l * n))) (h - l) (c' - l)) := by
  obtain ⟨s1, s2, s3, s4, t', s5, s6⟩ := hA
  have key : SR β ⟨b, o + l * n, none⟩ (if c' = l then a' else a'.add (l * n)) (h - l) c2 (c' - l) := by
    refine ⟨rfl, ?_, by omega, fun e => by obtain ⟨e1, e2⟩ := hc e; have := s4 e1; omega, t', s5, fun B of S es own e => ?_⟩
    · split
      · exact s2
      · rw [add_none s2]
    · obtain ⟨k1, k2, _⟩ := s6 B of S es own e
      by_cases hcl : c' = l
      · rw [if_pos hcl]; exact ⟨k1, .inl ⟨by omega, by omega⟩, fun h => by omega⟩
      · rw [if_neg hcl, add_none s2]
        refine ⟨k1, ?_, fun h => by omega⟩
        rcases k2 with ⟨k2, k3⟩ | ⟨k2, k3⟩
        · exact absurd hcl (by omega)
        · refine .inr ⟨by simp only at k2 ⊢; omega, fun ho => ?_⟩
          have h5 := k3 ho
          subst ho
          subst e
          obtain ⟨k0, hk0, hbr⟩ := hh.rel b B of S es true s5
          rw [hk] at hk0; cases hk0
          have hes : es = n := by
            cases k with
            | cells cs z => obtain ⟨_, _, _, _, _, _, _, _, hz, _⟩ := hbr; rw [← hz]; exact hf
            | ro cs => obtain ⟨_, _, _, _, _, _, _, hz⟩ := hbr; cases hz
            | map es' => exact hf.elim
          subst hes
          simp only
          have : l * es + (c' - l) * es = c' * es := by rw [← Nat.add_mul]; congr 1; omega
          omega
  split
  · rename_i e; rw [if_pos e] at key; exact .slice key
  · rename_i e; rw [if_neg e] at key; exact .slice key
end
end Go.AW
/- The rules for slices. -/
namespace Go.AW
open Go
set_option linter.unusedVariables false
set_option linter.unusedSimpArgs false

section
variable {P : Program} {Q : Exit → AFr → AHeap → Prop} {fr : AFr} {H H' : AHeap} {ρ : Operand → Value} {g : Option (Nat × Bool)} {d : Option Tmp} {ty : TypeId} {pos : String} {aft : Array Edge}

/-- x[lo:hi] of a slice. -/
theorem ao_slice2 {t e : TypeId} {x lo hi : Operand} {b o len c n l h : Nat} {k1 k2 : IntKind} {i j : Int} {k : ABlk} (hu : P.underlying t = some (.slice e)) (hn : ∀ w, (sizeOf e).run P w = .ok n w)
    (hx : ρ x = .slice (some ⟨b, o, none⟩) len c) (hlo : ρ lo = .int k1 i) (hhi : ρ hi = .int k2 j) (hi' : i = (l : Int)) (hj' : j = (h : Int)) (hk : H.blk b = some k) (hf : k.fits n) (h1 : l ≤ h) (h2 : h ≤ len) :
    AOd P ⟨d, .slice t x (some lo) (some hi) none, ty, pos, aft, g⟩ ρ H (.slice (some ⟨b, o + l * n, none⟩) (h - l) (h - l + 1)) H :=
  AO.pure fun β ρ' w hv hh => by
    have q1 := hv x (by simp [Op.operands]); rw [hx] at q1
    have q2 := hv lo (by simp [Op.operands]); rw [hlo] at q2
    have q3 := hv hi (by simp [Op.operands]); rw [hhi] at q3
    obtain ⟨a', c', ha, hA⟩ := q1.slice_inv
    refine ⟨_, ?_, hA.part hh hk hf h1 h2 (c2 := h - l + 1) (fun e => by omega)⟩
    have := hA.2.2.1
    subst hi'; subst hj'
    simp [execOp, ha, q2.int_inv, q3.int_inv, go_sem, Instr.sliceAt, Instr.slice, underlying, hu, hn, Instr.sliceBounds, Instr.sliceBound, asIntOf, show h ≤ c' by omega, h1]

/-- x[lo:] of a slice. -/
theorem ao_sliceLo {t e : TypeId} {x lo : Operand} {b o len c n l : Nat} {k1 : IntKind} {i : Int} {k : ABlk} (hu : P.underlying t = some (.slice e)) (hn : ∀ w, (sizeOf e).run P w = .ok n w)
    (hx : ρ x = .slice (some ⟨b, o, none⟩) len c) (hlo : ρ lo = .int k1 i) (hi' : i = (l : Int)) (hk : H.blk b = some k) (hf : k.fits n) (h1 : l ≤ len) :
    AOd P ⟨d, .slice t x (some lo) none none, ty, pos, aft, g⟩ ρ H (.slice (some ⟨b, o + l * n, none⟩) (len - l) (len - l + 1)) H :=
  AO.pure fun β ρ' w hv hh => by
    have q1 := hv x (by simp [Op.operands]); rw [hx] at q1
    have q2 := hv lo (by simp [Op.operands]); rw [hlo] at q2
    obtain ⟨a', c', ha, hA⟩ := q1.slice_inv
    refine ⟨_, ?_, hA.part hh hk hf h1 (Nat.le_refl _) (c2 := len - l + 1) (fun e => by omega)⟩
    have := hA.2.2.1
    subst hi'
    simp [execOp, ha, q2.int_inv, go_sem, Instr.sliceAt, Instr.slice, underlying, hu, hn, Instr.sliceBounds, Instr.sliceBound, asIntOf, h1]

/-- x[:hi] of a slice. -/
theorem ao_sliceHi {t e : TypeId} {x hi : Operand} {b o len c n h : Nat} {k2 : IntKind} {j : Int} {k : ABlk} (hu : P.underlying t = some (.slice e)) (hn : ∀ w, (sizeOf e).run P w = .ok n w)
    (hx : ρ x = .slice (some ⟨b, o, none⟩) len c) (hhi : ρ hi = .int k2 j) (hj' : j = (h : Int)) (hk : H.blk b = some k) (hf : k.fits n) (h2 : h ≤ len) :
    AOd P ⟨d, .slice t x none (some hi) none, ty, pos, aft, g⟩ ρ H (.slice (some ⟨b, o, none⟩) h (h + 1)) H :=
  AO.pure fun β ρ' w hv hh => by
    have q1 := hv x (by simp [Op.operands]); rw [hx] at q1
    have q3 := hv hi (by simp [Op.operands]); rw [hhi] at q3
    obtain ⟨a', c', ha, hA⟩ := q1.slice_inv
    have key := hA.part hh hk hf (Nat.zero_le h) h2 (c2 := h - 0 + 1) (fun e => by omega)
    have e0 : (⟨b, o + 0 * n, none⟩ : Addr) = ⟨b, o, none⟩ := by simp
    rw [e0] at key
    simp only [Nat.sub_zero] at key
    refine ⟨_, ?_, key⟩
    have := hA.2.2.1
    subst hj'
    simp [execOp, ha, q3.int_inv, go_sem, Instr.sliceAt, Instr.slice, underlying, hu, hn, Instr.sliceBounds, Instr.sliceBound, asIntOf, show h ≤ c' by omega]

/-- x[:0:0] of a slice: nothing, and no room. -/
theorem ao_slice000 {t e : TypeId} {x hi mx : Operand} {b o len c n : Nat} {k2 k3 : IntKind} (hu : P.underlying t = some (.slice e)) (hn : ∀ w, (sizeOf e).run P w = .ok n w)
    (hx : ρ x = .slice (some ⟨b, o, none⟩) len c) (hhi : ρ hi = .int k2 0) (hmx : ρ mx = .int k3 0) :
    AOd P ⟨d, .slice t x none (some hi) (some mx), ty, pos, aft, g⟩ ρ H (.slice (some ⟨b, o, none⟩) 0 0) H :=
  AO.pure fun β ρ' w hv hh => by
    have q1 := hv x (by simp [Op.operands]); rw [hx] at q1
    have q3 := hv hi (by simp [Op.operands]); rw [hhi] at q3
    have q4 := hv mx (by simp [Op.operands]); rw [hmx] at q4
    obtain ⟨a', c', ha, hA⟩ := q1.slice_inv
    obtain ⟨s1, s2, s3, s4, t', s5, s6⟩ := hA
    refine ⟨.slice (some a') 0 0, ?_, .slice ⟨s1, s2, Nat.le_refl _, fun _ => rfl, t', s5, fun B of S es own e => ⟨(s6 B of S es own e).1, .inl ⟨rfl, rfl⟩, fun h => by omega⟩⟩⟩
    simp [execOp, ha, q3.int_inv, q4.int_inv, go_sem, Instr.sliceAt, Instr.slice, underlying, hu, hn, Instr.sliceBounds, Instr.sliceBound, asIntOf]

/-- The length of a slice that is not nil, of a nil one, of a string. -/
theorem ao_lenS {t e : TypeId} {x : Operand} {b o len c : Nat} (hu : P.underlying t = some (.slice e)) (hx : ρ x = .slice (some ⟨b, o, none⟩) len c) :
    AOd P ⟨d, .call ⟨.builtin .len, #[x], #[t]⟩, ty, pos, aft, g⟩ ρ H (.int .i64 len) H :=
  AO.pure fun β ρ' w hv hh => by
    have q1 := hv x (by simp [Op.operands, Call.operands]); rw [hx] at q1
    obtain ⟨a', c', ha, hA⟩ := q1.slice_inv
    exact ⟨_, by simp [execOp, ha, go_sem, resolve, invoke, builtin, Builtin.len_, underlying, hu, goInt], .int _ _⟩
theorem VR.nil_inv {β : Bt} {v : Value} (h : VR β (.slice none 0 0) v) : v = .slice none 0 0 := by cases h; rfl
theorem ao_lenN {t e : TypeId} {x : Operand} (hu : P.underlying t = some (.slice e)) (hx : ρ x = .slice none 0 0) :
    AOd P ⟨d, .call ⟨.builtin .len, #[x], #[t]⟩, ty, pos, aft, g⟩ ρ H (.int .i64 (0 : Nat)) H :=
  AO.pure fun β ρ' w hv hh => by
    have q1 := hv x (by simp [Op.operands, Call.operands]); rw [hx] at q1
    exact ⟨_, by simp [execOp, q1.nil_inv, go_sem, resolve, invoke, builtin, Builtin.len_, underlying, hu, goInt], .int _ _⟩
theorem ao_lenStr {t : TypeId} {x : Operand} {s : ByteArray} (hu : P.underlying t = some .string) (hx : ρ x = .string s) :
    AOd P ⟨d, .call ⟨.builtin .len, #[x], #[t]⟩, ty, pos, aft, g⟩ ρ H (.int .i64 s.size) H :=
  AO.pure fun β ρ' w hv hh => by
    have q1 := hv x (by simp [Op.operands, Call.operands]); rw [hx] at q1
    exact ⟨_, by simp [execOp, q1.string_inv, go_sem, resolve, invoke, builtin, Builtin.len_, underlying, hu, goInt], .int _ _⟩
theorem ao_lenA {t e : TypeId} {x : Operand} {n : Nat} (hu : P.underlying t = some (.array n e)) :
    AOd P ⟨d, .call ⟨.builtin .len, #[x], #[t]⟩, ty, pos, aft, g⟩ ρ H (.int .i64 n) H :=
  AO.pure fun β ρ' w hv hh =>
    ⟨_, by simp [execOp, go_sem, resolve, invoke, builtin, Builtin.len_, underlying, hu, goInt], .int _ _⟩
theorem ao_min {ts : Array TypeId} {x y : Operand} {k : IntKind} {m n : Int} (hx : ρ x = .int k m) (hy : ρ y = .int k n) :
    AOd P ⟨d, .call ⟨.builtin .min, #[x, y], ts⟩, ty, pos, aft, g⟩ ρ H (.int k (if n < m then n else m)) H :=
  AO.pure fun β ρ' w hv hh => by
    have q1 := hv x (by simp [Op.operands, Call.operands]); rw [hx] at q1
    have q2 := hv y (by simp [Op.operands, Call.operands]); rw [hy] at q2
    exact ⟨_, by simp [execOp, q1.int_inv, q2.int_inv, go_sem, resolve, invoke, builtin, Builtin.min_, Builtin.min2], .int _ _⟩
theorem ao_max {ts : Array TypeId} {x y : Operand} {k : IntKind} {m n : Int} (hx : ρ x = .int k m) (hy : ρ y = .int k n) :
    AOd P ⟨d, .call ⟨.builtin .max, #[x, y], ts⟩, ty, pos, aft, g⟩ ρ H (.int k (if n > m then n else m)) H :=
  AO.pure fun β ρ' w hv hh => by
    have q1 := hv x (by simp [Op.operands, Call.operands]); rw [hx] at q1
    have q2 := hv y (by simp [Op.operands, Call.operands]); rw [hy] at q2
    exact ⟨_, by simp [execOp, q1.int_inv, q2.int_inv, go_sem, resolve, invoke, builtin, Builtin.max_, Builtin.max2], .int _ _⟩

/-- A byte of a string. -/
theorem ao_indexStr {t : TypeId} {x y : Operand} {s : ByteArray} {k : IntKind} {i : Int} {n : Nat} {c : UInt8} (hu : P.underlying t = some .string) (hx : ρ x = .string s) (hy : ρ y = .int k i) (hi : i = (n : Int)) (hc : s[n]? = some c) :
    AOd P ⟨d, .index t x y, ty, pos, aft, g⟩ ρ H (.int .u8 (c.toNat : Int)) H :=
  AO.pure fun β ρ' w hv hh => by
    have q1 := hv x (by simp [Op.operands]); rw [hx] at q1
    have q2 := hv y (by simp [Op.operands]); rw [hy] at q2
    subst hi
    refine ⟨_, ?_, .int _ _⟩
    have : (Instr.index t (.string s) (.int k n)).run P w = .ok (.int .u8 (c.toNat : Int)) w := by
      unfold Instr.index
      simp [asIntOf, underlying, hu, hc]
    simp [execOp, q1.string_inv, q2.int_inv, this]

/-- An element of an array that is a value. -/
theorem ao_indexA {t e : TypeId} {x y : Operand} {cs : Array Value} {k : IntKind} {i : Int} {len n : Nat} {v : Value} (hu : P.underlying t = some (.array len e)) (hg : ∀ w, (isAgg e).run P w = .ok false w) (hn : ∀ w, (sizeOf e).run P w = .ok 1 w)
    (hx : ρ x = .agg cs) (hy : ρ y = .int k i) (hi : i = (n : Int)) (hl : n < len) (hc : cs[n]? = some v) :
    AOd P ⟨d, .index t x y, ty, pos, aft, g⟩ ρ H v H :=
  AO.pure fun β ρ' w hv hh => by
    have q1 := hv x (by simp [Op.operands]); rw [hx] at q1
    have q2 := hv y (by simp [Op.operands]); rw [hy] at q2
    subst hi
    generalize hz : ρ' x = z at q1
    cases q1 with
    | agg h1 h2 =>
      rename_i ys
      obtain ⟨u, hu'⟩ : ∃ u, ys[n]? = some u := ⟨_, Array.getElem?_eq_getElem (by rw [← h1]; exact (Array.getElem?_eq_some_iff.1 hc).1)⟩
      refine ⟨u, ?_, h2 n v u hc hu'⟩
      have : (Instr.index t (.agg ys) (.int k n)).run P w = .ok u w := by
        unfold Instr.index
        simp [asIntOf, underlying, hu, hl, part, hg, hn, hu']
      simp [execOp, hz, q2.int_inv, this]

/-- A string's part. -/
theorem ao_sliceStr {t : TypeId} {x : Operand} {lo hi : Option Operand} {s : ByteArray} {l h : Nat} (hu : P.underlying t = some .string) (hx : ρ x = .string s)
    (hlo : (lo = none ∧ l = 0) ∨ ∃ y k, lo = some y ∧ ρ y = .int k (l : Int)) (hhi : (hi = none ∧ h = s.size) ∨ ∃ y k, hi = some y ∧ ρ y = .int k (h : Int)) (h1 : l ≤ h) (h2 : h ≤ s.size) :
    AOd P ⟨d, .slice t x lo hi none, ty, pos, aft, g⟩ ρ H (.string (s.extract l h)) H :=
  AO.pure fun β ρ' w hv hh => by
    have q1 := hv x (by simp [Op.operands]); rw [hx] at q1
    refine ⟨_, ?_, .string _⟩
    rcases hlo with ⟨rfl, rfl⟩ | ⟨y1, k1, rfl, e1⟩
    · rcases hhi with ⟨rfl, rfl⟩ | ⟨y2, k2, rfl, e2⟩
      · simp [execOp, q1.string_inv, go_sem, Instr.sliceAt, Instr.slice, underlying, hu, Instr.sliceBounds]
      · have q2 := hv y2 (by simp [Op.operands]); rw [e2] at q2
        simp [execOp, q1.string_inv, q2.int_inv, go_sem, Instr.sliceAt, Instr.slice, underlying, hu, Instr.sliceBounds, Instr.sliceBound, asIntOf, h2]
    · have q3 := hv y1 (by simp [Op.operands]); rw [e1] at q3
      rcases hhi with ⟨rfl, rfl⟩ | ⟨y2, k2, rfl, e2⟩
      · simp [execOp, q1.string_inv, q3.int_inv, go_sem, Instr.sliceAt, Instr.slice, underlying, hu, Instr.sliceBounds, Instr.sliceBound, asIntOf, h1]
      · have q2 := hv y2 (by simp [Op.operands]); rw [e2] at q2
        simp [execOp, q1.string_inv, q2.int_inv, q3.int_inv, go_sem, Instr.sliceAt, Instr.slice, underlying, hu, Instr.sliceBounds, Instr.sliceBound, asIntOf, h1, h2]
end
end Go.AW
