/- Abstract heaps, frames and how they stand to the machine's. -/
import Derived.Calls
import Derived.Tactics
import Derived.Orders
import Derived.Laws.World
import Derived.Deep.LoopGhost
import Derived.Below
namespace Go.AW
open Go

/-- Where an abstract block lies: nowhere any more; or concrete block B from cell o on, S cells in all, elements of es cells, our own or not. -/
inductive Tgt where
  | stale
  | live (B o S es : Nat) (own : Bool)

abbrev Bt := Nat → Option Tgt

/-- Abstract blocks: cells of our own (with the size of an element), cells that are only read, maps. -/
inductive ABlk where
  | cells (cs : List Value) (es : Nat)
  | ro (cs : List Value)
  | map (es : List (Value × Value))

structure AHeap where
  blk : Nat → Option ABlk
  next : Nat
  wf : ∀ i, next ≤ i → blk i = none

theorem beq_ne {i d : Nat} (h : i ≠ d) : Nat.beq i d = false := by
  cases e : Nat.beq i d
  · rfl
  · exact absurd (Nat.eq_of_beq_eq_true e) h
theorem beq_self (i : Nat) : Nat.beq i i = true := Nat.beq_refl i

theorem AHeap.lt {H : AHeap} {b : Nat} {k : ABlk} (h : H.blk b = some k) : b < H.next := by
  rcases Nat.lt_or_ge b H.next with h1 | h1
  · exact h1
  · rw [H.wf b h1] at h; cases h

def AHeap.push (H : AHeap) (b : ABlk) : AHeap :=
  ⟨fun i => bif Nat.beq i H.next then some b else H.blk i, H.next + 1, fun i hi => by rw [beq_ne (by omega)]; exact H.wf i (by omega)⟩
/-- What block i holds turns (where there is such a block). -/
def AHeap.set (H : AHeap) (i : Nat) (b : ABlk) : AHeap :=
  ⟨fun j => bif Nat.beq j i then (H.blk i).map (fun _ => b) else H.blk j, H.next, fun j hj => by
    by_cases h : j = i
    · subst h; rw [beq_self, H.wf j hj]; rfl
    · rw [beq_ne h]; exact H.wf j hj⟩
def AHeap.kill (H : AHeap) (i : Nat) : AHeap :=
  ⟨fun j => bif Nat.beq j i then none else H.blk j, H.next, fun j hj => by
    by_cases h : j = i
    · subst h; rw [beq_self]; rfl
    · rw [beq_ne h]; exact H.wf j hj⟩

theorem AHeap.ext' {H H' : AHeap} (hn : H.next = H'.next) (hb : ∀ i, H.blk i = H'.blk i) : H = H' := by
  cases H; cases H'; simp only at hn hb
  subst hn
  have := funext hb
  subst this
  rfl

theorem next_push (H : AHeap) (b : ABlk) : (H.push b).next = H.next + 1 := rfl
theorem next_set (H : AHeap) (i : Nat) (b : ABlk) : (H.set i b).next = H.next := rfl
theorem next_kill (H : AHeap) (i : Nat) : (H.kill i).next = H.next := rfl
theorem blk_push_new (H : AHeap) (b : ABlk) : (H.push b).blk H.next = some b := by show (bif Nat.beq H.next H.next then _ else _) = _; rw [beq_self]; rfl
theorem blk_push_ne {H : AHeap} {b : ABlk} {i : Nat} (h : i ≠ H.next) : (H.push b).blk i = H.blk i := by
  show (bif Nat.beq i H.next then _ else _) = _; rw [beq_ne h]; rfl
theorem blk_push_old {H : AHeap} {b k : ABlk} {i : Nat} (h : H.blk i = some k) : (H.push b).blk i = some k := by
  rw [blk_push_ne (by have := AHeap.lt h; omega)]; exact h
theorem blk_set_same {H : AHeap} {i : Nat} {b k : ABlk} (h : H.blk i = some k) : (H.set i b).blk i = some b := by
  show (bif Nat.beq i i then _ else _) = _; rw [beq_self, h]; rfl
theorem blk_set_ne {H : AHeap} {i j : Nat} {b : ABlk} (h : j ≠ i) : (H.set i b).blk j = H.blk j := by
  show (bif Nat.beq j i then _ else _) = _; rw [beq_ne h]; rfl
theorem blk_kill_ne {H : AHeap} {i j : Nat} (h : j ≠ i) : (H.kill i).blk j = H.blk j := by
  show (bif Nat.beq j i then _ else _) = _; rw [beq_ne h]; rfl
theorem blk_kill_same (H : AHeap) (i : Nat) : (H.kill i).blk i = none := by
  show (bif Nat.beq i i then _ else _) = _; rw [beq_self]; rfl
theorem set_set (H : AHeap) (i : Nat) (a b : ABlk) : (H.set i a).set i b = H.set i b := by
  refine AHeap.ext' rfl fun j => ?_
  by_cases h : j = i
  · subst h
    show (bif Nat.beq j j then ((H.set j a).blk j).map (fun _ => b) else _) = (bif Nat.beq j j then (H.blk j).map (fun _ => b) else _)
    rw [beq_self]
    show ((H.set j a).blk j).map (fun _ => b) = (H.blk j).map (fun _ => b)
    cases hk : H.blk j with
    | none =>
      have : (H.set j a).blk j = none := by show (bif Nat.beq j j then _ else _) = _; rw [beq_self, hk]; rfl
      rw [this]
    | some k => rw [blk_set_same hk]; rfl
  · rw [blk_set_ne h, blk_set_ne h, blk_set_ne h]
/-- Writing what is there already. -/
theorem set_self {H : AHeap} {i : Nat} {k : ABlk} (h : H.blk i = some k) : H.set i k = H := by
  refine AHeap.ext' rfl fun j => ?_
  by_cases hj : j = i
  · subst hj; rw [blk_set_same h, h]
  · rw [blk_set_ne hj]
theorem set_push {H : AHeap} {i : Nat} {a b k : ABlk} (h : H.blk i = some k) : (H.push a).set i b = (H.set i b).push a := by
  refine AHeap.ext' rfl fun j => ?_
  have hlt := AHeap.lt h
  by_cases hj : j = i
  · subst hj
    rw [blk_set_same (blk_push_old h)]
    exact (blk_push_old (blk_set_same h)).symm
  · rw [blk_set_ne hj]
    by_cases hn : j = H.next
    · subst hn; rw [blk_push_new]; exact (blk_push_new (H.set i b) a).symm
    · rw [blk_push_ne hn, blk_push_ne (by exact hn), blk_set_ne hj]

/-- Below n two heaps are one. -/
def Same (n : Nat) (H H' : AHeap) : Prop := ∀ i, i < n → H'.blk i = H.blk i
theorem Same.refl (n : Nat) (H : AHeap) : Same n H H := fun _ _ => rfl
theorem Same.push {n : Nat} {H H' : AHeap} (h : Same n H H') (hn : n ≤ H'.next) (b : ABlk) : Same n H (H'.push b) :=
  fun i hi => by rw [blk_push_ne (by omega)]; exact h i hi
theorem Same.set {n : Nat} {H H' : AHeap} (h : Same n H H') {i : Nat} (hn : n ≤ i) (b : ABlk) : Same n H (H'.set i b) :=
  fun j hj => by rw [blk_set_ne (by omega)]; exact h j hj
theorem Same.kill {n : Nat} {H H' : AHeap} (h : Same n H H') {i : Nat} (hn : n ≤ i) : Same n H (H'.kill i) :=
  fun j hj => by rw [blk_kill_ne (by omega)]; exact h j hj
theorem Same.trans {n m : Nat} {H H1 H2 : AHeap} (h : Same n H H1) (k : Same m H1 H2) (hn : n ≤ m) : Same n H H2 :=
  fun i hi => (k i (by omega)).trans (h i hi)

structure AFr where
  n : Nat
  get : Nat → Value

def AFr.put (fr : AFr) (d : Nat) (v : Value) : AFr := ⟨fr.n, fun i => bif Nat.beq i d then v else fr.get i⟩
def AFr.putO (fr : AFr) : Option Nat → Value → AFr
  | some d, v => fr.put d v
  | none, _ => fr

def AFr.ev (fr : AFr) : Operand → Value
  | .tmp t => fr.get t
  | .const v => v
  | .global g => .pointer (some ⟨g, 0, none⟩)
  | .func f => .func (.func f) #[] #[]

/-- Addresses. -/
def AR (β : Bt) (a a' : Addr) : Prop :=
  a.spot = none ∧ a'.spot = none ∧ ∃ t, β a.block = some t ∧ ∀ B o S es own, t = .live B o S es own → a'.block = B ∧ a'.off = o + a.off

/-- A slice that is not nil. -/
def SR (β : Bt) (a a' : Addr) (n c c' : Nat) : Prop :=
  a.spot = none ∧ a'.spot = none ∧ n ≤ c' ∧ (c = n → c' = n) ∧ ∃ t, β a.block = some t ∧ ∀ B o S es own, t = .live B o S es own →
    a'.block = B ∧ ((n = 0 ∧ c' = 0) ∨ (a'.off = o + a.off ∧ (own = true → a'.off + c' * es ≤ S))) ∧ (n + 1 < c → (own = true → c ≤ c' + 1) ∧ (own = false → c ≤ c'))

inductive VR (β : Bt) : Value → Value → Prop where
  | bool (b : Bool) : VR β (.bool b) (.bool b)
  | int (k : IntKind) (n : Int) : VR β (.int k n) (.int k n)
  | string (s : ByteArray) : VR β (.string s) (.string s)
  | ptrNil : VR β (.pointer none) (.pointer none)
  | ptr {a a' : Addr} (h : AR β a a') : VR β (.pointer (some a)) (.pointer (some a'))
  | sliceNil : VR β (.slice none 0 0) (.slice none 0 0)
  | slice {a a' : Addr} {n c c' : Nat} (h : SR β a a' n c c') : VR β (.slice (some a) n c) (.slice (some a') n c')
  | mapNil : VR β (.map none) (.map none)
  | map {r r' : Nat} (t : Tgt) (h : β r = some t) (h' : ∀ B o S es own, t = .live B o S es own → r' = B) : VR β (.map (some r)) (.map (some r'))
  | func {fn : Fn} {x x' y y' : Array Value} (hx : x.size = x'.size) (hx' : ∀ (i : Nat) (u u' : Value), x[i]? = some u → x'[i]? = some u' → VR β u u')
      (hy : y.size = y'.size) (hy' : ∀ (i : Nat) (u u' : Value), y[i]? = some u → y'[i]? = some u' → VR β u u') : VR β (.func fn x y) (.func fn x' y')
  | nilFunc : VR β .nilFunc .nilFunc
  | iface {t : TypeId} {v v' : Value} (h : VR β v v') : VR β (.iface t v) (.iface t v')
  | nilIface : VR β .nilIface .nilIface
  | agg {x x' : Array Value} (hx : x.size = x'.size) (hx' : ∀ (i : Nat) (u u' : Value), x[i]? = some u → x'[i]? = some u' → VR β u u') : VR β (.agg x) (.agg x')
  | tuple {x x' : Array Value} (hx : x.size = x'.size) (hx' : ∀ (i : Nat) (u u' : Value), x[i]? = some u → x'[i]? = some u' → VR β u u') : VR β (.tuple x) (.tuple x')

theorem AR.mono {β β' : Bt} {a a' : Addr} (hb : ∀ b t, β b = some t → β' b = some t ∨ β' b = some .stale) (h : AR β a a') : AR β' a a' := by
  obtain ⟨h1, h2, t, h3, h4⟩ := h
  rcases hb _ _ h3 with h5 | h5
  · exact ⟨h1, h2, t, h5, h4⟩
  · exact ⟨h1, h2, .stale, h5, fun _ _ _ _ _ e => by cases e⟩

theorem SR.mono {β β' : Bt} {a a' : Addr} {n c c' : Nat} (hb : ∀ b t, β b = some t → β' b = some t ∨ β' b = some .stale) (h : SR β a a' n c c') : SR β' a a' n c c' := by
  obtain ⟨h1, h2, h6, h7, t, h3, h4⟩ := h
  rcases hb _ _ h3 with h5 | h5
  · exact ⟨h1, h2, h6, h7, t, h5, h4⟩
  · exact ⟨h1, h2, h6, h7, .stale, h5, fun _ _ _ _ _ e => by cases e⟩

theorem VR.mono {β β' : Bt} (hb : ∀ b t, β b = some t → β' b = some t ∨ β' b = some .stale) {v v' : Value} (h : VR β v v') : VR β' v v' := by
  induction h with
  | bool b => exact .bool b
  | int k n => exact .int k n
  | string s => exact .string s
  | ptrNil => exact .ptrNil
  | ptr h => exact .ptr (h.mono hb)
  | sliceNil => exact .sliceNil
  | slice h => exact .slice (h.mono hb)
  | mapNil => exact .mapNil
  | map t h h' =>
    rcases hb _ _ h with h5 | h5
    · exact .map t h5 h'
    · exact .map .stale h5 (fun _ _ _ _ _ e => by cases e)
  | func hx _ hy _ ihx ihy => exact .func hx ihx hy ihy
  | nilFunc => exact .nilFunc
  | iface _ ih => exact .iface ih
  | nilIface => exact .nilIface
  | agg hx _ ih => exact .agg hx ih
  | tuple hx _ ih => exact .tuple hx ih

/-- What a related pair needs of the map of blocks is only what it names. -/
theorem VR.restrict {β β1 β2 : Bt} {v x : Value} (h : VR β v x) : ∀ {y : Value}, VR β1 v y → (∀ b, β b ≠ none → β2 b = β1 b) → VR β2 v y := by
  induction h with
  | bool b => intro y h1 _; cases h1; exact .bool b
  | int k n => intro y h1 _; cases h1; exact .int k n
  | string s => intro y h1 _; cases h1; exact .string s
  | ptrNil => intro y h1 _; cases h1; exact .ptrNil
  | ptr h =>
    intro y h1 hb
    cases h1 with
    | ptr h1 =>
      obtain ⟨_, _, t, h3, _⟩ := h
      obtain ⟨g1, g2, t', g3, g4⟩ := h1
      exact .ptr ⟨g1, g2, t', by rw [hb _ (by rw [h3]; simp)]; exact g3, g4⟩
  | sliceNil => intro y h1 _; cases h1; exact .sliceNil
  | slice h =>
    intro y h1 hb
    cases h1 with
    | slice h1 =>
      obtain ⟨_, _, _, _, t, h3, _⟩ := h
      obtain ⟨g1, g2, g5, g6, t', g3, g4⟩ := h1
      exact .slice ⟨g1, g2, g5, g6, t', by rw [hb _ (by rw [h3]; simp)]; exact g3, g4⟩
  | mapNil => intro y h1 _; cases h1; exact .mapNil
  | map t h h' =>
    intro y h1 hb
    cases h1 with
    | map t1 g g' => exact .map t1 (by rw [hb _ (by rw [h]; simp)]; exact g) g'
  | func hx hx' hy hy' ihx ihy =>
    intro y h1 hb
    cases h1 with
    | func gx gx' gy gy' =>
      refine .func gx (fun i u u' hu hu' => ?_) gy (fun i u u' hu hu' => ?_)
      · obtain ⟨z, hz⟩ : ∃ z, _ = some z := ⟨_, Array.getElem?_eq_getElem (by rw [← hx]; exact (Array.getElem?_eq_some_iff.1 hu).1)⟩
        exact ihx i u z hu hz (gx' i u u' hu hu') hb
      · obtain ⟨z, hz⟩ : ∃ z, _ = some z := ⟨_, Array.getElem?_eq_getElem (by rw [← hy]; exact (Array.getElem?_eq_some_iff.1 hu).1)⟩
        exact ihy i u z hu hz (gy' i u u' hu hu') hb
  | nilFunc => intro y h1 _; cases h1; exact .nilFunc
  | iface _ ih => intro y h1 hb; cases h1 with | iface g => exact .iface (ih g hb)
  | nilIface => intro y h1 _; cases h1; exact .nilIface
  | agg hx hx' ih =>
    intro y h1 hb
    cases h1 with
    | agg gx gx' =>
      refine .agg gx (fun i u u' hu hu' => ?_)
      obtain ⟨z, hz⟩ : ∃ z, _ = some z := ⟨_, Array.getElem?_eq_getElem (by rw [← hx]; exact (Array.getElem?_eq_some_iff.1 hu).1)⟩
      exact ih i u z hu hz (gx' i u u' hu hu') hb
  | tuple hx hx' ih =>
    intro y h1 hb
    cases h1 with
    | tuple gx gx' =>
      refine .tuple gx (fun i u u' hu hu' => ?_)
      obtain ⟨z, hz⟩ : ∃ z, _ = some z := ⟨_, Array.getElem?_eq_getElem (by rw [← hx]; exact (Array.getElem?_eq_some_iff.1 hu).1)⟩
      exact ih i u z hu hz (gx' i u u' hu hu') hb

/-- What an abstract block says of the world. -/
def BR (β : Bt) (w : World) (B o S es : Nat) (own : Bool) : ABlk → Prop
  | .cells cs z => ∃ C e fz, w.heap[B]? = some (.cells C e fz) ∧ C.size = S ∧ o + cs.length ≤ S ∧
      (∀ (i : Nat) x, cs[i]? = some x → ∃ y, C[o + i]? = some y ∧ VR β x y) ∧ own = true ∧ z = es ∧ fz = (0, 0)
  | .ro cs => ∃ C e fz, w.heap[B]? = some (.cells C e fz) ∧ C.size = S ∧ o + cs.length ≤ S ∧
      (∀ (i : Nat) x, cs[i]? = some x → ∃ y, C[o + i]? = some y ∧ VR β x y) ∧ own = false
  | .map es => ∃ es' clock, w.heap[B]? = some (.map es' clock) ∧ es'.size = es.length ∧ own = true ∧
      ∀ (i : Nat) p e, es[i]? = some p → es'[i]? = some e → VR β p.1 e.key ∧ VR β p.2 e.val

/-- Package-level variables that a walk's callees look at: blocks of the machine that nobody owns, and what is known of them. -/
def globs : List Nat := []
def globC (g : Nat) (C : Array Value) : Prop := True
def globAt (g : Nat) (o : Option Obj) : Prop := ∃ C ty fz, o = some (.cells C ty fz) ∧ globC g C
def Glob (β : Bt) (w : World) : Prop := ∀ g ∈ globs, globAt g w.heap[g]? ∧ ∀ b o S es, β b ≠ some (.live g o S es true)

structure HRel (β : Bt) (H : AHeap) (w : World) : Prop where
  rel : ∀ b B o S es own, β b = some (.live B o S es own) → ∃ k, H.blk b = some k ∧ BR β w B o S es own k
  stale : ∀ b, β b = some .stale → H.blk b = none
  inj : ∀ b1 b2 B o1 S1 es1 own1 o2 S2 es2 own2, β b1 = some (.live B o1 S1 es1 own1) → β b2 = some (.live B o2 S2 es2 own2) → (own1 = true ∨ own2 = true) → b1 = b2
  dom : ∀ b, H.next ≤ b → β b = none
  glob : Glob β w

/-- What a stretch of the run does to the map and to the world. -/
structure Step (n : Nat) (β : Bt) (w : World) (β' : Bt) (w' : World) : Prop where
  ext : ∀ b t, β b = some t → β' b = some t ∨ β' b = some .stale
  none : ∀ b, b < n → β b = none → β' b = none
  img : ∀ b B o S es, β' b = some (.live B o S es true) → (∃ b0 o0 S0 es0, β b0 = some (.live B o0 S0 es0 true)) ∨ w.heap.size ≤ B
  imgRO : ∀ b B o S es, β' b = some (.live B o S es false) → β b = some (.live B o S es false)
  os : w'.os = w.os
  tape : w'.tape = w.tape
  output : w'.output = w.output
  size : w.heap.size ≤ w'.heap.size
  block : ∀ B, B < w.heap.size → (∀ b o S es, β b ≠ some (.live B o S es true)) → w'.heap[B]? = w.heap[B]?

theorem Step.refl (n : Nat) (β : Bt) (w : World) : Step n β w β w :=
  ⟨fun _ _ h => .inl h, fun _ _ h => h, fun b _ o S es h => .inl ⟨b, o, S, es, h⟩, fun _ _ _ _ _ h => h, rfl, rfl, rfl, Nat.le_refl _, fun _ _ _ => rfl⟩

theorem Step.drew (n : Nat) (β : Bt) (w : World) : Step n β w β { w with drawn := w.drawn + 1 } :=
  ⟨fun _ _ h => .inl h, fun _ _ h => h, fun b _ o S es h => .inl ⟨b, o, S, es, h⟩, fun _ _ _ _ _ h => h, rfl, rfl, rfl, Nat.le_refl _, fun _ _ _ => rfl⟩

theorem Step.trans {n n' : Nat} {β β1 β2 : Bt} {w w1 w2 : World} (h : Step n β w β1 w1) (k : Step n' β1 w1 β2 w2) (hn : n ≤ n') : Step n β w β2 w2 where
  ext b t hb := by
    rcases h.ext b t hb with h1 | h1
    · exact k.ext b t h1
    · rcases k.ext b _ h1 with h2 | h2 <;> exact .inr h2
  none b hb hn' := k.none b (Nat.lt_of_lt_of_le hb hn) (h.none b hb hn')
  img b B o S es hb := by
    rcases k.img b B o S es hb with ⟨b0, o0, S0, es0, h0⟩ | h0
    · exact h.img b0 B o0 S0 es0 h0
    · exact .inr (Nat.le_trans h.size h0)
  imgRO b B o S es hb := h.imgRO b B o S es (k.imgRO b B o S es hb)
  os := k.os.trans h.os
  tape := k.tape.trans h.tape
  output := k.output.trans h.output
  size := Nat.le_trans h.size k.size
  block B hB hno := by
    rw [k.block B (Nat.lt_of_lt_of_le hB h.size) ?_, h.block B hB hno]
    intro b o S es hb
    rcases h.img b B o S es hb with ⟨b0, o0, S0, es0, h0⟩ | h0
    · exact hno _ _ _ _ h0
    · exact absurd hB (by omega)

theorem Step.glob {n : Nat} {β β' : Bt} {w w' : World} (h : Step n β w β' w') (k : Glob β w) : Glob β' w' := by
  intro g hg
  obtain ⟨k1, k2⟩ := k g hg
  have hlt : g < w.heap.size := by
    obtain ⟨C, ty, fz, e, _⟩ := k1
    exact (Array.getElem?_eq_some_iff.1 e).1
  refine ⟨by rw [h.block g hlt k2]; exact k1, fun b o S es hb => ?_⟩
  rcases h.img b g o S es hb with ⟨b0, o0, S0, es0, h0⟩ | h0
  · exact k2 b0 o0 S0 es0 h0
  · omega
theorem globAt.lt {w : World} {g : Nat} (k : globAt g w.heap[g]?) : g < w.heap.size := by
  obtain ⟨C, ty, fz, e, _⟩ := k
  exact (Array.getElem?_eq_some_iff.1 e).1
/-- Where nothing is owned that was not. -/
theorem Glob.of {β β' : Bt} {w w' : World} (k : Glob β w) (hw : ∀ g, globAt g w.heap[g]? → (∀ b o S es, β b ≠ some (.live g o S es true)) → w'.heap[g]? = w.heap[g]?) (hb : ∀ b g o S es, β' b = some (.live g o S es true) → (∃ b0 o0 S0 es0, β b0 = some (.live g o0 S0 es0 true)) ∨ w.heap.size ≤ g) : Glob β' w' := by
  intro g hg
  obtain ⟨k1, k2⟩ := k g hg
  refine ⟨by rw [hw g k1 k2]; exact k1, fun b o S es h => ?_⟩
  rcases hb b g o S es h with ⟨b0, o0, S0, es0, h0⟩ | h0
  · exact k2 b0 o0 S0 es0 h0
  · obtain ⟨C, ty, fz, e, _⟩ := k1
    have := (Array.getElem?_eq_some_iff.1 e).1
    omega
theorem HRel.drew {β : Bt} {H : AHeap} {w : World} (h : HRel β H w) : HRel β H { w with drawn := w.drawn + 1 } :=
  ⟨fun b B o S es own hb => by
    obtain ⟨k, hk, hr⟩ := h.rel b B o S es own hb
    refine ⟨k, hk, ?_⟩
    cases k <;> exact hr, h.stale, h.inj, h.dom, h.glob⟩

structure FRel (β : Bt) (fr : AFr) (a : Act) : Prop where
  defers : a.defers = []
  size : a.tmps.size = fr.n
  val : ∀ i, VR β (fr.get i) (a.tmps.getD i undef)

theorem VR.undef (β : Bt) : VR β undef undef := .tuple rfl (by intro i u u' h; simp at h)

theorem FRel.mono {β β' : Bt} (hb : ∀ b t, β b = some t → β' b = some t ∨ β' b = some .stale) {fr : AFr} {a : Act} (h : FRel β fr a) : FRel β' fr a :=
  ⟨h.defers, h.size, fun i => (h.val i).mono hb⟩

theorem FRel.put {β : Bt} {fr : AFr} {a : Act} (h : FRel β fr a) {d : Nat} (hd : d < fr.n) {v v' : Value} (hv : VR β v v') : FRel β (fr.put d v) (a.put (some d) v') := by
  refine ⟨h.defers, by simp [Act.put, AFr.put, h.size], fun i => ?_⟩
  by_cases hi : i = d
  · subst hi
    have e1 : (fr.put i v).get i = v := by simp [AFr.put]
    have e2 : (a.put (some i) v').tmps.getD i Go.undef = v' := by
      simp [Act.put, h.size, hd]
    rw [e1, e2]; exact hv
  · have e1 : (fr.put d v).get i = fr.get i := by
      simp [AFr.put, beq_ne hi]
    have e2 : (a.put (some d) v').tmps.getD i Go.undef = a.tmps.getD i Go.undef := by
      simp only [Act.put, Array.getD_eq_getD_getElem?]
      rw [Array.getElem?_setIfInBounds_ne (by omega)]
    rw [e1, e2]; exact h.val i

theorem FRel.put_none {β : Bt} {fr : AFr} {a : Act} (h : FRel β fr a) (v : Value) : FRel β fr (a.put none v) := h

end Go.AW
