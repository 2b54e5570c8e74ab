/- The rules for memory: blocks, loads, addresses. -/
import Derived.Test.YtmmmjdbknepjgaaDoorOps
namespace Go.AW
open Go
set_option linter.unusedVariables false
set_option linter.unusedSimpArgs false

def Bt.set (β : Bt) (b : Nat) (t : Tgt) : Bt := fun i => bif Nat.beq i b then some t else β i
theorem Bt.set_same (β : Bt) (b : Nat) (t : Tgt) : β.set b t b = some t := by unfold Bt.set; rw [beq_self]; rfl
theorem Bt.set_ne (β : Bt) {b i : Nat} (t : Tgt) (h : i ≠ b) : β.set b t i = β i := by unfold Bt.set; rw [beq_ne h]; rfl

theorem HRel.lt {β : Bt} {H : AHeap} {w : World} (h : HRel β H w) {b B o S es : Nat} {own : Bool} (hb : β b = some (.live B o S es own)) : B < w.heap.size := by
  obtain ⟨k, hk, hr⟩ := h.rel b B o S es own hb
  have key : ∀ x, w.heap[B]? = some x → B < w.heap.size := fun x hx => (Array.getElem?_eq_some_iff.1 hx).1
  cases k with
  | cells cs z => obtain ⟨C, e, fz, h1, _⟩ := hr; exact key _ h1
  | ro cs => obtain ⟨C, e, fz, h1, _⟩ := hr; exact key _ h1
  | map es => obtain ⟨es', clock, h1, _⟩ := hr; exact key _ h1

theorem BR.mono {β β' : Bt} (hb : ∀ b t, β b = some t → β' b = some t ∨ β' b = some .stale) {w w' : World} {B o S es : Nat} {own : Bool} {k : ABlk}
    (hw : w'.heap[B]? = w.heap[B]?) (h : BR β w B o S es own k) : BR β' w' B o S es own k := by
  cases k with
  | cells cs z =>
    obtain ⟨C, e, fz, h1, h2, h3, h4, h5⟩ := h
    exact ⟨C, e, fz, hw.trans h1, h2, h3, fun i x hx => by obtain ⟨y, hy, hv⟩ := h4 i x hx; exact ⟨y, hy, hv.mono hb⟩, h5⟩
  | ro cs =>
    obtain ⟨C, e, fz, h1, h2, h3, h4, h5⟩ := h
    exact ⟨C, e, fz, hw.trans h1, h2, h3, fun i x hx => by obtain ⟨y, hy, hv⟩ := h4 i x hx; exact ⟨y, hy, hv.mono hb⟩, h5⟩
  | map es =>
    obtain ⟨es', clock, h1, h2, h3, h4⟩ := h
    exact ⟨es', clock, hw.trans h1, h2, h3, fun i p e hp he => ⟨(h4 i p e hp he).1.mono hb, (h4 i p e hp he).2.mono hb⟩⟩

theorem ext_set {β : Bt} {n : Nat} {t : Tgt} (hd : ∀ b, n ≤ b → β b = none) : ∀ b u, β b = some u → β.set n t b = some u ∨ β.set n t b = some .stale := by
  intro b u hb
  have : b ≠ n := by
    intro e; subst e; rw [hd b (Nat.le_refl _)] at hb; cases hb
  exact .inl (by rw [Bt.set_ne _ _ this]; exact hb)

/-- A new block. -/
theorem HRel.alloc {β : Bt} {H : AHeap} {w : World} (h : HRel β H w) {k : ABlk} {o : Obj} {S es : Nat}
    (hk : ∀ β' : Bt, (∀ b u, β b = some u → β' b = some u ∨ β' b = some .stale) → BR β' (w.alloc o) w.heap.size 0 S es true k) :
    HRel (β.set H.next (.live w.heap.size 0 S es true)) (H.push k) (w.alloc o) ∧
    Step H.next β w (β.set H.next (.live w.heap.size 0 S es true)) (w.alloc o) := by
  have hext := ext_set (t := .live w.heap.size 0 S es true) h.dom
  have hold : ∀ B, B < w.heap.size → (w.alloc o).heap[B]? = w.heap[B]? := fun B hB => Go.RowKit.Below.heap_alloc _ _ _ hB
  have hgl : Glob (β.set H.next (.live w.heap.size 0 S es true)) (w.alloc o) := h.glob.of (fun g hg _ => hold g hg.lt) fun b g o' S' es' hb => by
    by_cases hn : b = H.next
    · subst hn; rw [Bt.set_same] at hb; cases hb; exact .inr (Nat.le_refl _)
    · rw [Bt.set_ne _ _ hn] at hb; exact .inl ⟨_, _, _, _, hb⟩
  refine ⟨⟨?_, ?_, ?_, ?_, hgl⟩, ⟨hext, ?_, ?_, ?_, rfl, rfl, rfl, by simp, fun B hB _ => hold B hB⟩⟩
  · intro b B o' S' es' own hb
    by_cases hn : b = H.next
    · subst hn
      rw [Bt.set_same] at hb
      cases hb
      exact ⟨k, blk_push_new _ _, hk _ hext⟩
    · rw [Bt.set_ne _ _ hn] at hb
      obtain ⟨k', hk', hr⟩ := h.rel b B o' S' es' own hb
      exact ⟨k', blk_push_old hk', hr.mono hext (hold B (h.lt hb))⟩
  · intro b hb
    by_cases hn : b = H.next
    · subst hn; rw [Bt.set_same] at hb; cases hb
    · rw [Bt.set_ne _ _ hn] at hb
      rw [blk_push_ne hn]; exact h.stale b hb
  · intro b1 b2 B o1 S1 es1 own1 o2 S2 es2 own2 h1 h2 ho
    by_cases e1 : b1 = H.next
    · by_cases e2 : b2 = H.next
      · rw [e1, e2]
      · exfalso
        subst e1; rw [Bt.set_same] at h1; rw [Bt.set_ne _ _ e2] at h2
        cases h1
        exact absurd (h.lt h2) (by omega)
    · by_cases e2 : b2 = H.next
      · exfalso
        subst e2; rw [Bt.set_same] at h2; rw [Bt.set_ne _ _ e1] at h1
        cases h2
        exact absurd (h.lt h1) (by omega)
      · rw [Bt.set_ne _ _ e1] at h1; rw [Bt.set_ne _ _ e2] at h2
        exact h.inj b1 b2 B o1 S1 es1 own1 o2 S2 es2 own2 h1 h2 ho
  · intro b hb
    have : H.next + 1 ≤ b := hb
    rw [Bt.set_ne _ _ (by omega)]; exact h.dom b (by omega)
  · intro b hb hn
    rw [Bt.set_ne _ _ (by omega)]; exact hn
  · intro b B o' S' es' hb
    by_cases hn : b = H.next
    · subst hn; rw [Bt.set_same] at hb; cases hb; exact .inr (Nat.le_refl _)
    · rw [Bt.set_ne _ _ hn] at hb; exact .inl ⟨_, _, _, _, hb⟩
  · intro b B o' S' es' hb
    by_cases hn : b = H.next
    · subst hn; rw [Bt.set_same] at hb; cases hb
    · rw [Bt.set_ne _ _ hn] at hb; exact hb

/-- Lists of values, related. -/
def VRL (β : Bt) (xs ys : List Value) : Prop := xs.length = ys.length ∧ ∀ (i : Nat) x y, xs[i]? = some x → ys[i]? = some y → VR β x y

theorem VRL.mono {β β' : Bt} (hb : ∀ b t, β b = some t → β' b = some t ∨ β' b = some .stale) {xs ys : List Value} (h : VRL β xs ys) : VRL β' xs ys :=
  ⟨h.1, fun i x y hx hy => (h.2 i x y hx hy).mono hb⟩

theorem VRL.get {β : Bt} {xs ys : List Value} (h : VRL β xs ys) {i : Nat} {x : Value} (hx : xs[i]? = some x) : ∃ y, ys[i]? = some y ∧ VR β x y := by
  have hlt : i < ys.length := by rw [← h.1]; exact (List.getElem?_eq_some_iff.1 hx).1
  exact ⟨_, List.getElem?_eq_getElem hlt, h.2 i x _ hx (List.getElem?_eq_getElem hlt)⟩

theorem VRL.cons {β : Bt} {x y : Value} {xs ys : List Value} (h : VR β x y) (hs : VRL β xs ys) : VRL β (x :: xs) (y :: ys) := by
  refine ⟨by simp [hs.1], fun i u v hu hv => ?_⟩
  cases i with
  | zero => simp at hu hv; subst hu; subst hv; exact h
  | succ i => simp at hu hv; exact hs.2 i u v hu hv

theorem VRL.nil (β : Bt) : VRL β [] [] := ⟨rfl, fun i x y h => by simp at h⟩

theorem VRL.head {β : Bt} {x y : Value} {xs ys : List Value} (h : VRL β (x :: xs) (y :: ys)) : VR β x y := h.2 0 x y rfl rfl
theorem VRL.tail {β : Bt} {x y : Value} {xs ys : List Value} (h : VRL β (x :: xs) (y :: ys)) : VRL β xs ys :=
  ⟨by simpa using h.1, fun i u v hu hv => h.2 (i + 1) u v (by simpa using hu) (by simpa using hv)⟩

theorem VRL.append {β : Bt} {xs ys us vs : List Value} (h : VRL β xs ys) (k : VRL β us vs) : VRL β (xs ++ us) (ys ++ vs) := by
  refine ⟨by simp [h.1, k.1], fun i x y hx hy => ?_⟩
  by_cases hi : i < xs.length
  · rw [List.getElem?_append_left hi] at hx
    rw [List.getElem?_append_left (by rw [← h.1]; exact hi)] at hy
    exact h.2 i x y hx hy
  · rw [List.getElem?_append_right (by omega)] at hx
    rw [List.getElem?_append_right (by rw [← h.1]; omega), ← h.1] at hy
    exact k.2 _ x y hx hy

theorem VRL.set {β : Bt} {xs ys : List Value} (h : VRL β xs ys) {i : Nat} {x y : Value} (hv : VR β x y) : VRL β (xs.set i x) (ys.set i y) := by
  refine ⟨by simp [h.1], fun j u v hu hw => ?_⟩
  rw [List.getElem?_set] at hu hw
  by_cases hij : i = j
  · subst hij
    simp only [if_true] at hu hw
    split at hu
    · split at hw
      · cases hu; cases hw; exact hv
      · cases hw
    · cases hu
  · rw [if_neg hij] at hu hw; exact h.2 j u v hu hw

/-- A value's cells. -/
theorem VR.cells {β : Bt} {v v' : Value} (h : VR β v v') : VRL β v.cells.toList v'.cells.toList := by
  cases h with
  | agg hx hx' => exact ⟨by simpa [Value.cells] using hx, fun i x y hx1 hy1 => hx' i x y (by simpa [Value.cells] using hx1) (by simpa [Value.cells] using hy1)⟩
  | _ => refine VRL.cons ?_ (VRL.nil _); constructor <;> assumption

theorem BR.new {β : Bt} {w : World} {cs : List Value} {C : Array Value} {e : TypeId} {es : Nat} (h : VRL β cs C.toList) :
    ∀ β' : Bt, (∀ b u, β b = some u → β' b = some u ∨ β' b = some .stale) → BR β' (w.alloc (.cells C e)) w.heap.size 0 C.size es true (.cells cs es) := by
  intro β' hb
  refine ⟨C, e, (0, 0), by show (w.heap.push _)[w.heap.size]? = _; simp, rfl, by have := h.1; simp at this; omega, ?_, rfl, rfl, rfl⟩
  intro i x hx
  obtain ⟨y, hy, hv⟩ := (h.mono hb).get hx
  exact ⟨y, by simpa using hy, hv⟩

/-- A slice's or an array's row, or a variable, in memory: what an address of an abstract block is. -/
theorem HRel.at {β : Bt} {H : AHeap} {w : World} (h : HRel β H w) {b o : Nat} {a' : Addr} (ha : AR β ⟨b, o, none⟩ a') {k : ABlk} (hk : H.blk b = some k) :
    ∃ B off S es own, β b = some (.live B off S es own) ∧ a' = ⟨B, off + o, none⟩ ∧ BR β w B off S es own k := by
  obtain ⟨_, h2, t, h3, h4⟩ := ha
  cases t with
  | stale => rw [h.stale b h3] at hk; cases hk
  | live B off S es own =>
    obtain ⟨k', hk', hr⟩ := h.rel b B off S es own h3
    rw [hk] at hk'; cases hk'
    obtain ⟨e1, e2⟩ := h4 B off S es own rfl
    refine ⟨B, off, S, es, own, h3, ?_, hr⟩
    obtain ⟨x, y, z⟩ := a'
    simp only at e1 e2 h2
    subst e1; subst e2; subst h2; rfl

def ABlk.rd : ABlk → Option (List Value)
  | .cells cs _ => some cs
  | .ro cs => some cs
  | .map _ => none

theorem BR.rd {β : Bt} {w : World} {B o S es : Nat} {own : Bool} {k : ABlk} {cs : List Value} (hk : k.rd = some cs) (h : BR β w B o S es own k) :
    ∃ C e fz, w.heap[B]? = some (.cells C e fz) ∧ C.size = S ∧ o + cs.length ≤ S ∧ (∀ (i : Nat) x, cs[i]? = some x → ∃ y, C[o + i]? = some y ∧ VR β x y) := by
  cases k with
  | cells cs' z => simp [ABlk.rd] at hk; subst hk; obtain ⟨C, e, fz, h1, h2, h3, h4, _⟩ := h; exact ⟨C, e, fz, h1, h2, h3, h4⟩
  | ro cs' => simp [ABlk.rd] at hk; subst hk; obtain ⟨C, e, fz, h1, h2, h3, h4, _⟩ := h; exact ⟨C, e, fz, h1, h2, h3, h4⟩
  | map es => simp [ABlk.rd] at hk

theorem cell_of {w : World} {B o : Nat} {C : Array Value} {e : TypeId} {fz : Nat × Nat} (h : w.heap[B]? = some (.cells C e fz)) : w.cell? ⟨B, o, none⟩ = C[o]? := by
  simp [World.cell?, h]

theorem add_none {a : Addr} (h : a.spot = none) (n : Nat) : a.add n = ⟨a.block, a.off + n, none⟩ := by
  unfold Addr.add
  split
  · rename_i h0; subst h0; obtain ⟨x, y, z⟩ := a; simp only at h; subst h; rfl
  · rfl

theorem AR.add {β : Bt} {b o : Nat} {a' : Addr} (h : AR β ⟨b, o, none⟩ a') (n : Nat) : AR β ⟨b, o + n, none⟩ (a'.add n) := by
  obtain ⟨_, h2, t, h3, h4⟩ := h
  rw [add_none h2]
  exact ⟨rfl, rfl, t, h3, fun B o' S es own e => by obtain ⟨e1, e2⟩ := h4 B o' S es own e; exact ⟨e1, by simp only at e2 ⊢; omega⟩⟩

theorem run_load {P : Program} {a : Addr} {w : World} {v : Value} (h : w.cell? a = some v) : (load a).run P w = .ok v w := by
  simp [load, Sem.run, h]

theorem run_loadCellsFrom {P : Program} {w : World} {B o : Nat} {C : Array Value} {e : TypeId} {fz : Nat × Nat} (hB : w.heap[B]? = some (.cells C e fz)) :
    ∀ n i (acc : Array Value), o + i + n ≤ C.size → (loadCellsFrom ⟨B, o, none⟩ i n acc).run P w = .ok (acc ++ C.extract (o + i) (o + i + n)) w := by
  intro n
  induction n with
  | zero => intro i acc h; simp [loadCellsFrom, go_sem]; omega
  | succ n ih =>
    intro i acc h
    have hlt : o + i < C.size := by omega
    have hc : w.cell? ⟨B, o + i, none⟩ = some C[o + i] := by
      rw [cell_of hB]; exact Array.getElem?_eq_getElem hlt
    have := ih (i + 1) (acc.push C[o + i]) (by omega)
    have hrun : (loadCellsFrom ⟨B, o, none⟩ i (n + 1) acc).run P w = (loadCellsFrom ⟨B, o, none⟩ (i + 1) n (acc.push C[o + i])).run P w := by
      simp [loadCellsFrom, go_sem, load, Sem.run, add_none, hc]
    rw [hrun, this]
    congr 1
    apply Array.ext'
    simp only [Array.toList_append, Array.toList_push, Array.toList_extract, List.append_assoc]
    congr 1
    simp only [List.extract_eq_take_drop]
    rw [show o + i + (n + 1) - (o + i) = n + 1 by omega, show o + (i + 1) + n - (o + (i + 1)) = n by omega]
    have hd : C.toList.drop (o + i) = C[o + i] :: C.toList.drop (o + i + 1) := by
      rw [List.drop_eq_getElem_cons (by simp; omega)]; simp
    rw [hd]; simp [Nat.add_assoc]

theorem run_loadCells {P : Program} {w : World} {B o : Nat} {C : Array Value} {e : TypeId} {fz : Nat × Nat} (hB : w.heap[B]? = some (.cells C e fz)) (n : Nat) (h : o + n ≤ C.size) :
    (loadCells ⟨B, o, none⟩ n).run P w = .ok (C.extract o (o + n)) w := by
  have := run_loadCellsFrom (P := P) (o := o) hB n 0 #[] (by omega)
  simpa [loadCells] using this

section
variable {P : Program} {Q : Exit → AFr → AHeap → Prop} {fr : AFr} {H H' : AHeap} {ρ : Operand → Value} {g : Option (Nat × Bool)} {d : Option Tmp} {ty : TypeId} {pos : String} {aft : Array Edge}

theorem VR.ptr_inv {β : Bt} {a : Addr} {v : Value} (h : VR β (.pointer (some a)) v) : ∃ a', v = .pointer (some a') ∧ AR β a a' := by
  cases h with | ptr h => exact ⟨_, rfl, h⟩

/-- A load of one cell. -/
theorem ao_load {t : TypeId} {x : Operand} {b o : Nat} {k : ABlk} {cs : List Value} {v : Value} (ht : ∀ w, (isAgg t).run P w = .ok false w)
    (hx : ρ x = .pointer (some ⟨b, o, none⟩)) (hk : H.blk b = some k) (hr : k.rd = some cs) (hv : cs[o]? = some v) :
    AOd P ⟨d, .load t x, ty, pos, aft, g⟩ ρ H v H :=
  AO.pure fun β ρ' w h hh => by
    have h1 := h x (by simp [Op.operands]); rw [hx] at h1
    obtain ⟨a', ha, hA⟩ := h1.ptr_inv
    obtain ⟨B, off, S, es, own, h2, rfl, hb⟩ := hh.at hA hk
    obtain ⟨C, e, fz, h3, h4, h5, h6⟩ := hb.rd hr
    obtain ⟨y, hy, hV⟩ := h6 o v hv
    refine ⟨y, ?_, hV⟩
    have hl : w.cell? ⟨B, off + o, none⟩ = some y := by rw [cell_of h3]; exact hy
    simp [execOp, ha, go_sem, Instr.loadAt, Instr.sureAddr, loadVar, ht, hl]

/-- A load of a struct or an array: n cells. -/
theorem ao_loads {t : TypeId} {x : Operand} {b o n : Nat} {k : ABlk} {cs : List Value} (ht : ∀ w, (isAgg t).run P w = .ok true w) (hn : ∀ w, (sizeOf t).run P w = .ok n w)
    (hx : ρ x = .pointer (some ⟨b, o, none⟩)) (hk : H.blk b = some k) (hr : k.rd = some cs) (hl : o + n ≤ cs.length) :
    AOd P ⟨d, .load t x, ty, pos, aft, g⟩ ρ H (.agg ((cs.drop o).take n).toArray) H :=
  AO.pure fun β ρ' w h hh => by
    have h1 := h x (by simp [Op.operands]); rw [hx] at h1
    obtain ⟨a', ha, hA⟩ := h1.ptr_inv
    obtain ⟨B, off, S, es, own, h2, rfl, hb⟩ := hh.at hA hk
    obtain ⟨C, e, fz, h3, h4, h5, h6⟩ := hb.rd hr
    have hl' : (loadCells ⟨B, off + o, none⟩ n).run P w = .ok (C.extract (off + o) (off + o + n)) w := run_loadCells h3 n (by omega)
    unfold loadCells at hl'
    refine ⟨.agg (C.extract (off + o) (off + o + n)), by simp [execOp, ha, go_sem, Instr.loadAt, Instr.sureAddr, loadVar, ht, hn, hl'], .agg ?_ ?_⟩
    · simp; omega
    · intro i u u' hu hu'
      simp only [List.getElem?_toArray, List.getElem?_take, List.getElem?_drop] at hu
      simp only [Array.getElem?_extract] at hu'
      split at hu
      · obtain ⟨y, hy, hV⟩ := h6 (o + i) u hu
        split at hu'
        · rw [← Nat.add_assoc] at hy; rw [hy] at hu'; cases hu'; exact hV
        · cases hu'
      · cases hu

/-- A load of a whole variable. -/
theorem ao_loada {t : TypeId} {x : Operand} {b n : Nat} {k : ABlk} {cs : List Value} (ht : ∀ w, (isAgg t).run P w = .ok true w) (hn : ∀ w, (sizeOf t).run P w = .ok n w)
    (hx : ρ x = .pointer (some ⟨b, 0, none⟩)) (hk : H.blk b = some k) (hr : k.rd = some cs) (hl : cs.length = n) :
    AOd P ⟨d, .load t x, ty, pos, aft, g⟩ ρ H (.agg cs.toArray) H := by
  have := ao_loads (d := d) (ty := ty) (pos := pos) (aft := aft) (g := g) ht hn hx hk hr (by omega)
  rwa [List.drop_zero, List.take_of_length_le (by omega)] at this

/-- A new variable that holds a value. -/
theorem ao_box {t : TypeId} {x : Operand} {v : Value} (hx : ρ x = v) : AOd P ⟨d, .box t x, ty, pos, aft, g⟩ ρ H (.pointer (some ⟨H.next, 0, none⟩)) (H.push (.cells v.cells.toList 1)) := by
  intro β ρ' w h hh
  have h1 := h x (by simp [Op.operands]); rw [hx] at h1
  have hc := h1.cells
  obtain ⟨k1, k2⟩ := hh.alloc (BR.new (w := w) (e := t) (es := 1) hc)
  refine gives_value (v := .pointer (some ⟨w.heap.size, 0, none⟩)) (w' := w.alloc (.cells (ρ' x).cells t)) ?_
    ⟨_, _, _, ⟨rfl, rfl⟩, .ptr ⟨rfl, rfl, _, Bt.set_same _ _ _, fun B o S es own e => by cases e; exact ⟨rfl, rfl⟩⟩, k1, k2, by show H.next ≤ H.next + 1; omega⟩
  simp [execOp, go_sem, Instr.box, newVar, newRow, newObj, Sem.run]

/-- A new variable. -/
theorem ao_alloc {t : TypeId} {z : Value} (hz : ∀ w, (zeroValue t).run P w = .ok z w) (hp : plainV z = true) :
    AOd P ⟨d, .alloc t, ty, pos, aft, g⟩ ρ H (.pointer (some ⟨H.next, 0, none⟩)) (H.push (.cells z.cells.toList 1)) := by
  intro β ρ' w h hh
  have hc := (VR.plain β hp).cells
  obtain ⟨k1, k2⟩ := hh.alloc (BR.new (w := w) (e := t) (es := 1) hc)
  refine gives_value (v := .pointer (some ⟨w.heap.size, 0, none⟩)) (w' := w.alloc (.cells z.cells t)) ?_
    ⟨_, _, _, ⟨rfl, rfl⟩, .ptr ⟨rfl, rfl, _, Bt.set_same _ _ _, fun B o S es own e => by cases e; exact ⟨rfl, rfl⟩⟩, k1, k2, by show H.next ≤ H.next + 1; omega⟩
  simp [execOp, go_sem, Instr.alloc, newVar, newRow, newObj, Sem.run, hz]

theorem ao_nilCheck {x : Operand} {a : Addr} (hx : ρ x = .pointer (some a)) : AOd P ⟨d, .nilCheck x, ty, pos, aft, g⟩ ρ H (.pointer (some a)) H :=
  AO.pure fun β ρ' w h hh => by
    have h1 := h x (by simp [Op.operands]); rw [hx] at h1
    obtain ⟨a', ha, hA⟩ := h1.ptr_inv
    exact ⟨_, by simp [execOp, ha, go_sem], .ptr hA⟩

/-- Where a field lies. -/
def fieldOff (P : Program) (s : TypeId) (f : Nat) : Option Nat :=
  match P.underlying s with
  | some (.struct fields) => match fields[f]? with
    | some fd => match P.info? fd.type with
      | some i => if i.size = 0 then none else some fd.offset
      | none => none
    | none => none
  | _ => none

theorem ao_fieldAddr {s : TypeId} {x : Operand} {f b o n : Nat} (hf : fieldOff P s f = some n) (hx : ρ x = .pointer (some ⟨b, o, none⟩)) :
    AOd P ⟨d, .fieldAddr s x f, ty, pos, aft, g⟩ ρ H (.pointer (some ⟨b, o + n, none⟩)) H :=
  AO.pure fun β ρ' w h hh => by
    have h1 := h x (by simp [Op.operands]); rw [hx] at h1
    obtain ⟨a', ha, hA⟩ := h1.ptr_inv
    unfold fieldOff at hf
    split at hf
    · rename_i fields hu
      split at hf
      · rename_i fd hfd
        split at hf
        · rename_i i hi
          split at hf
          · cases hf
          · rename_i h0
            cases hf
            refine ⟨.pointer (some (a'.add fd.offset)), ?_, .ptr (hA.add _)⟩
            simp [execOp, ha, go_sem, Instr.fieldAt, Instr.sureAddr, underlying, hu, hfd, fieldPlace, sizeOf, typeInfo, hi, h0]
        · cases hf
      · cases hf
    · cases hf

/-- The address of an array's element. -/
theorem ao_indexAddrA {t e : TypeId} {x y : Operand} {b o len n : Nat} {k : IntKind} {i : Int} (hu : P.underlying t = some (.array len e)) (hn : ∀ w, (sizeOf e).run P w = .ok n w)
    (hx : ρ x = .pointer (some ⟨b, o, none⟩)) (hy : ρ y = .int k i) (h0 : 0 ≤ i) (h1 : i < len) :
    AOd P ⟨d, .indexAddr t x y, ty, pos, aft, g⟩ ρ H (.pointer (some ⟨b, o + i.toNat * n, none⟩)) H :=
  AO.pure fun β ρ' w h hh => by
    have hx' := h x (by simp [Op.operands]); rw [hx] at hx'
    have hy' := h y (by simp [Op.operands]); rw [hy] at hy'
    obtain ⟨a', ha, hA⟩ := hx'.ptr_inv
    refine ⟨.pointer (some (a'.add (i.toNat * n))), ?_, .ptr (hA.add _)⟩
    simp [execOp, ha, hy'.int_inv, go_sem, Instr.indexAt, Instr.sureAddr, underlying, hu, hn, h0, h1, asIntOf]

theorem VR.slice_inv {β : Bt} {a : Addr} {n c : Nat} {v : Value} (h : VR β (.slice (some a) n c) v) : ∃ a' c', v = .slice (some a') n c' ∧ SR β a a' n c c' := by
  cases h with | slice h => exact ⟨_, _, rfl, h⟩

theorem SR.addr {β : Bt} {a a' : Addr} {n c c' : Nat} (h : SR β a a' n c c') (hn : 0 < n) : AR β a a' := by
  obtain ⟨h1, h2, h3, h4, t, h5, h6⟩ := h
  refine ⟨h1, h2, t, h5, fun B o S es own e => ?_⟩
  obtain ⟨h7, h8⟩ := h6 B o S es own e
  rcases h8 with ⟨h8, _⟩ | ⟨h8, _⟩
  · omega
  · exact ⟨h7, h8⟩

/-- The address of a slice's element. -/
theorem ao_indexAddrS {t e : TypeId} {x y : Operand} {b o len c n : Nat} {k : IntKind} {i : Int} (hu : P.underlying t = some (.slice e)) (hn : ∀ w, (sizeOf e).run P w = .ok n w)
    (hx : ρ x = .slice (some ⟨b, o, none⟩) len c) (hy : ρ y = .int k i) (h0 : 0 ≤ i) (h1 : i < len) :
    AOd P ⟨d, .indexAddr t x y, ty, pos, aft, g⟩ ρ H (.pointer (some ⟨b, o + i.toNat * n, none⟩)) H :=
  AO.pure fun β ρ' w h hh => by
    have hx' := h x (by simp [Op.operands]); rw [hx] at hx'
    have hy' := h y (by simp [Op.operands]); rw [hy] at hy'
    obtain ⟨a', c', ha, hA⟩ := hx'.slice_inv
    refine ⟨.pointer (some (a'.add (i.toNat * n))), ?_, .ptr ((hA.addr (by omega)).add _)⟩
    simp [execOp, ha, hy'.int_inv, go_sem, Instr.indexAt, Instr.sureAddr, underlying, hu, hn, h0, h1, asIntOf]

end
end Go.AW
