/- Several texts in one. -/
import Derived.Test.YtmmmjdbknepjgaaDoorMem5
import Derived.ChangeArms
import Derived.ChangeShapes
import Derived.ChangeSame
import Derived.WideShapes
import Derived.RowKit
import Derived.Below
import Derived.Laws.StructEq
import Derived.WalkKit
import Derived.Laws.Cover3
import Derived.JoinedOf
import Derived.KernelRfl
import Derived.OpenShut
import Derived.Laws.BytesString
import Derived.ChangeKeysEq
import Derived.Laws.Strings2
import Derived.Laws.Slices
import Derived.Laws.IdiomStrings
import Derived.Lib.SplitLaws
import Derived.Lib.IndexBytes
/- The rules in the forms that the printed texts use. -/
namespace Go.AW
open Go
set_option linter.unusedVariables false
set_option linter.unusedSimpArgs false

section
variable {P : Program} {ops : Array Oper} {Q : Exit → AFr → AHeap → Prop} {K : AFr → AHeap → Prop} {fr : AFr} {H H' : AHeap} {ρ : Operand → Value} {g : Option (Nat × Bool)} {d : Option Tmp} {ty : TypeId} {pos : String} {aft : Array Edge}

/-! steps in the forms that the generated texts use -/
theorem ao_mv {x : Operand} {v : Value} (h : ρ x = v) : AOd P ⟨d, .move x, ty, pos, aft, g⟩ ρ H v H := h ▸ ao_move
theorem ao_as {x : Operand} {v : Value} (h : ρ x = v) : AOd P ⟨d, .assign x, ty, pos, aft, g⟩ ρ H v H := h ▸ ao_assign
theorem ao_pickT {c x y : Operand} {v : Value} (hc : ρ c = .bool true) (hx : ρ x = v) : AOd P ⟨d, .pick c x y, ty, pos, aft, g⟩ ρ H v H := by
  have := ao_pick (P := P) (d := d) (ty := ty) (pos := pos) (aft := aft) (g := g) (H := H) (x := x) (y := y) hc
  simpa [hx] using this
theorem ao_pickF {c x y : Operand} {v : Value} (hc : ρ c = .bool false) (hy : ρ y = v) : AOd P ⟨d, .pick c x y, ty, pos, aft, g⟩ ρ H v H := by
  have := ao_pick (P := P) (d := d) (ty := ty) (pos := pos) (aft := aft) (g := g) (H := H) (x := x) (y := y) hc
  simpa [hy] using this

theorem AOd.val {o : Oper} {v v' : Value} {H1 : AHeap} (h : AOd P o ρ H v H1) (e : v = v') : AOd P o ρ H v' H1 := e ▸ h

theorem nw {k : IntKind} {n : Int} (h1 : k.min ≤ n) (h2 : n ≤ k.max) : k.wrap n = n := by
  cases k <;> simp [IntKind.min, IntKind.max, IntKind.wrap, IntKind.signed, IntKind.bits] at h1 h2 ⊢ <;> omega
theorem nw_i64 {n : Int} (h1 : -9223372036854775808 ≤ n) (h2 : n ≤ 9223372036854775807) : Value.int .i64 (IntKind.i64.wrap n) = .int .i64 n := by
  rw [nw (k := .i64) (by simpa [IntKind.min, IntKind.signed, IntKind.bits] using h1) (by simpa [IntKind.max, IntKind.signed, IntKind.bits] using h2)]
theorem nw_i8 {n : Int} (h1 : -128 ≤ n) (h2 : n ≤ 127) : Value.int .i8 (IntKind.i8.wrap n) = .int .i8 n := by
  rw [nw (k := .i8) (by simpa [IntKind.min, IntKind.signed, IntKind.bits] using h1) (by simpa [IntKind.max, IntKind.signed, IntKind.bits] using h2)]
theorem nw_i16 {n : Int} (h1 : -32768 ≤ n) (h2 : n ≤ 32767) : Value.int .i16 (IntKind.i16.wrap n) = .int .i16 n := by
  rw [nw (k := .i16) (by simpa [IntKind.min, IntKind.signed, IntKind.bits] using h1) (by simpa [IntKind.max, IntKind.signed, IntKind.bits] using h2)]
theorem nw_i32 {n : Int} (h1 : -2147483648 ≤ n) (h2 : n ≤ 2147483647) : Value.int .i32 (IntKind.i32.wrap n) = .int .i32 n := by
  rw [nw (k := .i32) (by simpa [IntKind.min, IntKind.signed, IntKind.bits] using h1) (by simpa [IntKind.max, IntKind.signed, IntKind.bits] using h2)]
theorem nw_u8 {n : Int} (h1 : 0 ≤ n) (h2 : n ≤ 255) : Value.int .u8 (IntKind.u8.wrap n) = .int .u8 n := by
  rw [nw (k := .u8) (by simpa [IntKind.min, IntKind.signed, IntKind.bits] using h1) (by simpa [IntKind.max, IntKind.signed, IntKind.bits] using h2)]
theorem nw_u16 {n : Int} (h1 : 0 ≤ n) (h2 : n ≤ 65535) : Value.int .u16 (IntKind.u16.wrap n) = .int .u16 n := by
  rw [nw (k := .u16) (by simpa [IntKind.min, IntKind.signed, IntKind.bits] using h1) (by simpa [IntKind.max, IntKind.signed, IntKind.bits] using h2)]
theorem nw_u32 {n : Int} (h1 : 0 ≤ n) (h2 : n ≤ 4294967295) : Value.int .u32 (IntKind.u32.wrap n) = .int .u32 n := by
  rw [nw (k := .u32) (by simpa [IntKind.min, IntKind.signed, IntKind.bits] using h1) (by simpa [IntKind.max, IntKind.signed, IntKind.bits] using h2)]
theorem nw_u64 {n : Int} (h1 : 0 ≤ n) (h2 : n ≤ 18446744073709551615) : Value.int .u64 (IntKind.u64.wrap n) = .int .u64 n := by
  rw [nw (k := .u64) (by simpa [IntKind.min, IntKind.signed, IntKind.bits] using h1) (by simpa [IntKind.max, IntKind.signed, IntKind.bits] using h2)]

/-! ends of stretches -/
theorem al_nilT (h : K fr H) : AL P ops (thenA K Q) [] fr H := al_nil h
theorem al_nilB {id : Nat} (h : Q .normal fr H) : AL P ops (blockA id Q) [] fr H := al_nil h
theorem aw_skipT (h : K fr H) : AW P .skip (thenA K Q) fr H := aw_skip h
theorem aw_skipB {id : Nat} (h : Q .normal fr H) : AW P .skip (blockA id Q) fr H := aw_skip h
theorem thenA_n (h : K fr H) : thenA K Q .normal fr H := h
theorem thenA_x {id : Nat} (h : Q (.exit id) fr H) : thenA K Q (.exit id) fr H := h
theorem thenA_r (h : Q .ret fr H) : thenA K Q .ret fr H := h
theorem blockA_n {id : Nat} (h : Q .normal fr H) : blockA id Q .normal fr H := h
theorem blockA_r {id : Nat} (h : Q .ret fr H) : blockA id Q .ret fr H := h
theorem blockA_hit {id : Nat} (h : Q .normal fr H) : blockA id Q (.exit id) fr H := by simp only [blockA, if_true]; exact h
theorem blockA_miss {id id' : Nat} (hne : id' ≠ id) (h : Q (.exit id') fr H) : blockA id Q (.exit id') fr H := by simp only [blockA, if_neg hne]; exact h

theorem aw_condT {t : Operand} {x y : Code} (hc : fr.ev t = .bool true) (ht : ∃ i, t = .tmp i) (hx : AW P x Q fr H) : AW P (.cond t x y) Q fr H := by
  obtain ⟨i, rfl⟩ := ht
  exact aw_cond hc (fun _ => hx) (fun h => by cases h)
theorem aw_condF {t : Operand} {x y : Code} (hc : fr.ev t = .bool false) (ht : ∃ i, t = .tmp i) (hy : AW P y Q fr H) : AW P (.cond t x y) Q fr H := by
  obtain ⟨i, rfl⟩ := ht
  exact aw_cond hc (fun h => by cases h) (fun _ => hy)

/-- A slot told. -/
theorem aw_slot {c : Code} {d : Nat} {v : Value} (h : fr.get d = v) (k : AW P c Q (fr.put d v) H) : AW P c Q fr H := by rwa [AFr.put_same h] at k
/-- Ways that meet again. -/
theorem aw_cut {c : Code} (J : AFr → AHeap → Prop) (h : AW P c (thenA J Q) fr H) (k : ∀ fr H, J fr H → K fr H) : AW P c (thenA K Q) fr H :=
  h.mono fun e fr H hq => by cases e <;> first | exact k _ _ hq | exact hq

theorem Same.blk {n : Nat} {H0 : AHeap} (h : Same n H0 H) {b : Nat} {k : ABlk} (hk : H0.blk b = some k) (hb : b < n) : H.blk b = some k := (h b hb).trans hk
theorem Same.blk' {H0 : AHeap} (h : Same H0.next H0 H) {b : Nat} {k : ABlk} (hk : H0.blk b = some k) : H.blk b = some k := (h b (AHeap.lt hk)).trans hk
theorem Same.mono {n n' : Nat} {H0 : AHeap} (h : Same n H0 H) (hn : n' ≤ n) : Same n' H0 H := fun i hi => h i (by omega)

theorem ao_box1 {t : TypeId} {x : Operand} {v : Value} (h1 : isOne v = true) (hx : ρ x = v) : AOd P ⟨d, .box t x, ty, pos, aft, g⟩ ρ H (.pointer (some ⟨H.next, 0, none⟩)) (H.push (.cells [v] 1)) := by
  have : v.cells.toList = [v] := by cases v <;> first | rfl | (simp [isOne] at h1; done)
  have h := ao_box (P := P) (d := d) (ty := ty) (pos := pos) (aft := aft) (g := g) (H := H) (t := t) hx
  rwa [this] at h
theorem ao_boxa {t : TypeId} {x : Operand} {cs : List Value} (hx : ρ x = .agg cs.toArray) : AOd P ⟨d, .box t x, ty, pos, aft, g⟩ ρ H (.pointer (some ⟨H.next, 0, none⟩)) (H.push (.cells cs 1)) := by
  have h := ao_box (P := P) (d := d) (ty := ty) (pos := pos) (aft := aft) (g := g) (H := H) (t := t) hx
  simpa [Value.cells] using h
theorem ao_alloca {t : TypeId} {cs : List Value} (hz : ∀ w, (zeroValue t).run P w = .ok (.agg cs.toArray) w) (hp : cs.all plain1 = true) :
    AOd P ⟨d, .alloc t, ty, pos, aft, g⟩ ρ H (.pointer (some ⟨H.next, 0, none⟩)) (H.push (.cells cs 1)) := by
  have h := ao_alloc (P := P) (ρ := ρ) (d := d) (ty := ty) (pos := pos) (aft := aft) (g := g) (H := H) hz (by simpa [plainV] using hp)
  simpa [Value.cells] using h
theorem ao_alloc1 {t : TypeId} {v : Value} (hz : ∀ w, (zeroValue t).run P w = .ok v w) (h1 : isOne v = true) (hp : plain1 v = true) :
    AOd P ⟨d, .alloc t, ty, pos, aft, g⟩ ρ H (.pointer (some ⟨H.next, 0, none⟩)) (H.push (.cells [v] 1)) := by
  have : v.cells.toList = [v] := by cases v <;> first | rfl | (simp [isOne] at h1; done)
  have h := ao_alloc (P := P) (ρ := ρ) (d := d) (ty := ty) (pos := pos) (aft := aft) (g := g) (H := H) hz (by cases v <;> first | exact hp | (simp [isOne] at h1; done))
  rwa [this] at h
/-- A store of a whole struct or array that is a list. -/
theorem ao_storeL {t : TypeId} {x y : Operand} {b n es : Nat} {cs ds : List Value} (hn : ∀ w, (sizeOf t).run P w = .ok n w) (hx : ρ x = .pointer (some ⟨b, 0, none⟩)) (hy : ρ y = .agg ds.toArray)
    (hk : H.blk b = some (.cells cs es)) (hc : ds.length = n) (ho : ds.all isOne = true) (hl : cs.length = n) :
    AOd P ⟨d, .store t x y, ty, pos, aft, g⟩ ρ H undef (H.set b (.cells ds es)) := by
  have := ao_storea (d := d) (ty := ty) (pos := pos) (aft := aft) (g := g) (ρ := ρ) (H := H) hn hx hy hk (by simpa [Value.cells] using hc) (by simpa [Value.cells] using ho) hl
  simpa [Value.cells] using this
/-- A store of a struct or array into a part. -/
theorem ao_storeP {t : TypeId} {x y : Operand} {b o n es : Nat} {cs ds : List Value} (hn : ∀ w, (sizeOf t).run P w = .ok n w) (hx : ρ x = .pointer (some ⟨b, o, none⟩)) (hy : ρ y = .agg ds.toArray)
    (hk : H.blk b = some (.cells cs es)) (hc : ds.length = n) (ho : ds.all isOne = true) (hl : o + n ≤ cs.length) :
    AOd P ⟨d, .store t x y, ty, pos, aft, g⟩ ρ H undef (H.set b (.cells (cs.take o ++ ds ++ cs.drop (o + n)) es)) := by
  have := ao_store (d := d) (ty := ty) (pos := pos) (aft := aft) (g := g) (ρ := ρ) (H := H) hn hx hy hk (by simpa [Value.cells] using hc) (by simpa [Value.cells] using ho) hl
  rw [writeL_eq _ _ _ (by simp [Value.cells, hc, hl])] at this
  simpa [Value.cells, hc] using this
/-- A literal of one element. -/
theorem ao_lit1 {t e : TypeId} {x : Operand} {size : Nat} {z v : Value} (hu : P.underlying t = some (.slice e)) (hn : ∀ w, (sizeOf e).run P w = .ok size w)
    (hz : ∀ w, (zeroValue e).run P w = .ok z w) (hzp : plainV z = true) (hzc : z.cells.size = size) (hs : Nat.blt 0 size = true) (hl : Nat.ble size 16777216 = true) (hx : ρ x = v) (hv : v.cells.size = size) :
    AOd P ⟨d, .buildSlice t 1 #[(0, x)], ty, pos, aft, g⟩ ρ H (.slice (some ⟨H.next, 0, none⟩) 1 1) (H.push (.cells v.cells.toList size)) := by
  have hs' : 0 < size := by simpa [Nat.blt_eq] using hs
  have hl' : size ≤ 16777216 := Nat.le_of_ble_eq_true hl
  have hA : litCells P e 1 size z.cells [(0, v)] = some v.cells := by
    unfold litCells
    simp only [Instr.fill]
    rw [if_neg (by simp [hv])]
    congr 1
    apply Array.ext
    · rw [← Array.foldl_toList, foldl_size]; simp [hv]
    · intro i h1 h2
      have key : ∀ (L : List (Value × Nat)) (X : Array Value) (i : Nat), (∀ p ∈ L, v.cells[p.2]? = some p.1) → i < X.size → ((∃ p ∈ L, p.2 = i) ∨ X[i]? = v.cells[i]?) →
          (L.foldl (fun cs (c, j) => cs.setIfInBounds (0 * size + j) c) X)[i]? = v.cells[i]? := by
        intro L
        induction L with
        | nil => intro X i _ _ h; rcases h with ⟨p, hp, _⟩ | h; cases hp; exact h
        | cons p L ih =>
          intro X i hL hi h
          obtain ⟨c, j⟩ := p
          rw [List.foldl_cons]
          refine ih _ i (fun p hp => hL p (List.mem_cons_of_mem _ hp)) (by simpa using hi) ?_
          have hj := hL (c, j) (List.mem_cons_self ..)
          simp only at hj
          by_cases e : j = i
          · subst e
            refine .inr ?_
            simp only [Nat.zero_mul, Nat.zero_add]
            rw [Array.getElem?_setIfInBounds_self_of_lt hi, hj]
          · rcases h with ⟨p, hp, hpi⟩ | h
            · rcases List.mem_cons.1 hp with rfl | hp
              · exact absurd hpi e
              · exact .inl ⟨p, hp, hpi⟩
            · refine .inr ?_
              simp only [Nat.zero_mul, Nat.zero_add]
              rw [Array.getElem?_setIfInBounds_ne e]; exact h
      have hk := key v.cells.zipIdx.toList ((Array.range (1 * size)).map (z.cells[· % z.cells.size]!)) i (by
        intro p hp
        simp only [Array.toList_zipIdx] at hp
        obtain ⟨j, hj, e⟩ := List.mem_iff_getElem.1 hp
        simp at e; subst e; simp at hj ⊢) (by simp; omega) (.inl ⟨(v.cells[i], i), by
          simp only [Array.toList_zipIdx]
          refine List.mem_iff_getElem.2 ⟨i, by simpa using h2, by simp⟩, rfl⟩)
      rw [Array.foldl_toList] at hk
      rw [Array.getElem?_eq_getElem h1, Array.getElem?_eq_getElem h2] at hk
      exact Option.some.inj hk
  have := ao_buildSlice (P := P) (H := H) (ρ := ρ) (d := d) (ty := ty) (pos := pos) (aft := aft) (g := g) (parts := #[(0, x)]) hu hn hz hzp hzc hs' (by omega) (by simp [hx]) hA
  exact this
/-- A literal of nothing. -/
theorem ao_lit0 {t e : TypeId} {size : Nat} {z : Value} (hu : P.underlying t = some (.slice e)) (hn : ∀ w, (sizeOf e).run P w = .ok size w)
    (hz : ∀ w, (zeroValue e).run P w = .ok z w) (hzp : plainV z = true) (hzc : z.cells.size = size) (hs : Nat.blt 0 size = true) :
    AOd P ⟨d, .buildSlice t 0 #[], ty, pos, aft, g⟩ ρ H (.slice (some ⟨H.next, 0, none⟩) 0 0) (H.push (.cells [] size)) := by
  have hA : litCells P e 0 size z.cells [] = some #[] := by
    unfold litCells; simp [Instr.fill]
  exact ao_buildSlice (P := P) (H := H) (ρ := ρ) (d := d) (ty := ty) (pos := pos) (aft := aft) (g := g) (parts := #[]) hu hn hz hzp hzc (by simpa [Nat.blt_eq] using hs) (by omega) rfl hA
end
end Go.AW

/- Slices read as lists. -/
set_option linter.unusedVariables false
set_option linter.unusedSimpArgs false
namespace Go.AW
open Go

/-- A value that is a slice of the elements l, each of them the cells e x. -/
def Sl {α : Type} (H : AHeap) (e : α → List Value) (es : Nat) (v : Value) (l : List α) : Prop :=
  (v = .slice none 0 0 ∧ l = []) ∨ ∃ b o c, v = .slice (some ⟨b, o, none⟩) l.length c ∧
    (l = [] ∨ ∃ k cs, H.blk b = some k ∧ k.rd = some cs ∧ ∀ (i : Nat) x, l[i]? = some x → (cs.drop (o + i * es)).take es = e x ∧ (e x).length = es)

def vb : Value → Nat
  | .slice (some a) _ _ => a.block
  | _ => 0
def vo : Value → Nat
  | .slice (some a) _ _ => a.off
  | _ => 0

theorem Sl.nil {α : Type} {H : AHeap} {e : α → List Value} {es : Nat} : Sl H e es (.slice none 0 0) ([] : List α) := .inl ⟨rfl, rfl⟩
theorem Sl.zero {α : Type} {H : AHeap} {e : α → List Value} {es b o c : Nat} : Sl H e es (.slice (some ⟨b, o, none⟩) 0 c) ([] : List α) := .inr ⟨b, o, c, rfl, .inl rfl⟩

theorem Sl.mono {α : Type} {H H' : AHeap} {e : α → List Value} {es : Nat} {v : Value} {l : List α} (h : Sl H e es v l) (hs : Same H.next H H') : Sl H' e es v l := by
  rcases h with h | ⟨b, o, c, hv, h⟩
  · exact .inl h
  · refine .inr ⟨b, o, c, hv, ?_⟩
    rcases h with h | ⟨k, cs, hk, h⟩
    · exact .inl h
    · exact .inr ⟨k, cs, by rw [hs b (AHeap.lt hk)]; exact hk, h⟩

theorem get_lt {α : Type} {l : List α} {i : Nat} (h : i < l.length) : ∃ x, l[i]? = some x := ⟨_, List.getElem?_eq_getElem h⟩

/-- The cells of elements. -/
def fl {α : Type} (e : α → List Value) (l : List α) : List Value := l.flatMap e

theorem fl_nil {α : Type} (e : α → List Value) : fl e [] = [] := rfl
theorem fl_cons {α : Type} (e : α → List Value) (x : α) (l : List α) : fl e (x :: l) = e x ++ fl e l := rfl
theorem fl_app {α : Type} (e : α → List Value) (l m : List α) : fl e (l ++ m) = fl e l ++ fl e m := List.flatMap_append
theorem fl_snoc {α : Type} (e : α → List Value) (l : List α) (x : α) : fl e (l ++ [x]) = fl e l ++ e x := by
  rw [fl_app, fl_cons, fl_nil, List.append_nil]
theorem fl_len {α : Type} {e : α → List Value} {es : Nat} (he : ∀ x, (e x).length = es) (l : List α) : (fl e l).length = l.length * es := by
  induction l with
  | nil => simp [fl]
  | cons x l ih => rw [fl_cons, List.length_append, he, ih, List.length_cons, Nat.add_mul]; omega
theorem fl_drop {α : Type} {e : α → List Value} {es : Nat} (he : ∀ x, (e x).length = es) (l : List α) (i : Nat) : (fl e l).drop (i * es) = fl e (l.drop i) := by
  induction l generalizing i with
  | nil => simp [fl]
  | cons x l ih =>
    cases i with
    | zero => simp
    | succ i =>
      rw [fl_cons, List.drop_succ_cons, ← ih i, Nat.succ_mul, Nat.add_comm, ← List.drop_drop, List.drop_left' (he x)]
theorem fl_take {α : Type} {e : α → List Value} {es : Nat} (he : ∀ x, (e x).length = es) (l : List α) (i : Nat) : (fl e l).take (i * es) = fl e (l.take i) := by
  induction l generalizing i with
  | nil => simp [fl]
  | cons x l ih =>
    cases i with
    | zero => simp [fl]
    | succ i =>
      rw [List.take_succ_cons, fl_cons, fl_cons, ← ih i, Nat.succ_mul, Nat.add_comm, ← he x, List.take_length_add_append]
theorem fl_at {α : Type} {e : α → List Value} {es : Nat} (he : ∀ x, (e x).length = es) {l : List α} {i : Nat} {x : α} (h : l[i]? = some x) : ((fl e l).drop (i * es)).take es = e x := by
  rw [fl_drop he]
  have : l.drop i = x :: l.drop (i + 1) := by
    obtain ⟨hi, rfl⟩ := List.getElem?_eq_some_iff.mp h
    exact List.drop_eq_getElem_cons hi
  rw [this, fl_cons, List.take_left' (he x)]
theorem fl_get {α : Type} {e : α → List Value} {es : Nat} (he : ∀ x, (e x).length = es) {l : List α} {i j : Nat} {x : α} {u : Value} (h : l[i]? = some x) (hu : (e x)[j]? = some u) : (fl e l)[i * es + j]? = some u := by
  have h1 := fl_at he h
  have hj : j < es := by have := (List.getElem?_eq_some_iff.mp hu).1; rw [he] at this; exact this
  rw [← h1, List.getElem?_take, if_pos hj, List.getElem?_drop] at hu
  exact hu
theorem fl_set {α : Type} {e : α → List Value} {es : Nat} (he : ∀ x, (e x).length = es) {l : List α} {i j : Nat} {x y : α} {u : Value} (h : l[i]? = some x) (hj : j < es) (hy : e y = (e x).set j u) : (fl e l).set (i * es + j) u = fl e (l.set i y) := by
  induction l generalizing i with
  | nil => simp at h
  | cons z l ih =>
    cases i with
    | zero =>
      simp at h; subst h
      rw [List.set_cons_zero, fl_cons, fl_cons, hy, Nat.zero_mul, Nat.zero_add, List.set_append_left _ _ (by rw [he]; exact hj)]
    | succ i =>
      simp at h
      rw [List.set_cons_succ, fl_cons, fl_cons, ← ih h, List.set_append_right _ _ (by rw [he, Nat.succ_mul]; omega), he]
      congr 2
      rw [Nat.succ_mul]; omega
theorem fl_setL {α : Type} {e : α → List Value} {es : Nat} (he : ∀ x, (e x).length = es) {l : List α} {i : Nat} {y : α} (h : i < l.length) :
    (fl e l).take (i * es) ++ e y ++ (fl e l).drop (i * es + es) = fl e (l.set i y) := by
  rw [show i * es + es = (i + 1) * es by rw [Nat.succ_mul], fl_drop he, fl_take he, List.set_eq_take_append_cons_drop, if_pos h, fl_app, fl_cons, List.append_assoc]

/-- A slice of the whole of a block. -/
theorem Sl.full {α : Type} {H : AHeap} {e : α → List Value} {es : Nat} (he : ∀ x, (e x).length = es) {l : List α} {b n c : Nat} {k : ABlk} {cs : List Value} (hk : H.blk b = some k) (hr : k.rd = some cs) (hc : cs = fl e l) (hn : n = l.length) :
    Sl H e es (.slice (some ⟨b, 0, none⟩) n c) l :=
  .inr ⟨b, 0, c, by rw [hn], .inr ⟨k, cs, hk, hr, fun i x hx => ⟨by rw [hc, Nat.zero_add]; exact fl_at he hx, he x⟩⟩⟩

/-- A slice of a part of a block. -/
theorem Sl.part {α : Type} {H : AHeap} {e : α → List Value} {es : Nat} (he : ∀ x, (e x).length = es) {l m : List α} {b o n c i : Nat} {k : ABlk} {cs : List Value} (hk : H.blk b = some k) (hr : k.rd = some cs) (hc : cs = fl e l) (ho : o = i * es) (hm : (l.drop i).take n = m) (hn : n = m.length) :
    Sl H e es (.slice (some ⟨b, o, none⟩) n c) m := by
  refine .inr ⟨b, o, c, by rw [← hn], .inr ⟨k, cs, hk, hr, fun j x hx => ⟨?_, he x⟩⟩⟩
  subst hm ho hc
  have h1 : l[i + j]? = some x := by
    rw [List.getElem?_take] at hx
    split at hx
    · rwa [List.getElem?_drop] at hx
    · cases hx
  rw [← Nat.add_mul]
  exact fl_at he h1

section
variable {α : Type} {P : Program} {d : Option Nat} {ty : TypeId} {pos : String} {aft : Array Edge} {g : Option (Nat × Bool)} {ρ : Operand → Value} {H : AHeap} {e : α → List Value} {es : Nat} {v : Value} {l : List α}

theorem Sl.len0 (h : Sl H e es v l) : (v = .slice none 0 0 ∧ l = []) ∨ ∃ b o c, v = .slice (some ⟨b, o, none⟩) l.length c := by
  rcases h with h | ⟨b, o, c, hv, _⟩
  · exact .inl h
  · exact .inr ⟨b, o, c, hv⟩

theorem ao_lenV {t e' : TypeId} {x : Operand} (hu : P.underlying t = some (.slice e')) (hx : ρ x = v) (h : Sl H e es v l) :
    AOd P ⟨d, .call ⟨.builtin .len, #[x], #[t]⟩, ty, pos, aft, g⟩ ρ H (.int .i64 l.length) H := by
  rcases h.len0 with ⟨rfl, rfl⟩ | ⟨b, o, c, rfl⟩
  · exact ao_lenN hu hx
  · exact ao_lenS hu hx

theorem ao_indexV {t e' : TypeId} {x y : Operand} {k : IntKind} {i : Int} (hu : P.underlying t = some (.slice e')) (hn : ∀ w, (sizeOf e').run P w = .ok es w)
    (hx : ρ x = v) (hy : ρ y = .int k i) (h : Sl H e es v l) (h0 : 0 ≤ i) (h1 : i < l.length) :
    AOd P ⟨d, .indexAddr t x y, ty, pos, aft, g⟩ ρ H (.pointer (some ⟨vb v, vo v + i.toNat * es, none⟩)) H := by
  rcases h.len0 with ⟨rfl, rfl⟩ | ⟨b, o, c, rfl⟩
  · simp at h1; omega
  · exact ao_indexAddrS hu hn hx hy h0 h1

theorem ao_loadV {t : TypeId} {x : Operand} {i j a : Nat} {z : α} {u : Value} (ht : ∀ w, (isAgg t).run P w = .ok false w) (h : Sl H e es v l)
    (hx : ρ x = .pointer (some ⟨vb v, a, none⟩)) (ha : a = vo v + i * es + j) (hl : l[i]? = some z) (hj : (e z)[j]? = some u) :
    AOd P ⟨d, .load t x, ty, pos, aft, g⟩ ρ H u H := by
  rcases h with ⟨rfl, rfl⟩ | ⟨b, o, c, rfl, h⟩
  · simp at hl
  · rcases h with rfl | ⟨k, cs, hk, hr, h⟩
    · simp at hl
    · obtain ⟨h1, h2⟩ := h i z hl
      refine ao_load ht hx hk hr ?_
      have hj' : j < es := by rw [← h2]; exact (List.getElem?_eq_some_iff.mp hj).1
      rw [← h1, List.getElem?_take, if_pos hj', List.getElem?_drop] at hj
      rw [ha]; exact hj

theorem ao_loadsV {t : TypeId} {x : Operand} {i : Nat} {z : α} {A : Array Value} (ht : ∀ w, (isAgg t).run P w = .ok true w) (hn : ∀ w, (sizeOf t).run P w = .ok es w) (h : Sl H e es v l)
    (hx : ρ x = .pointer (some ⟨vb v, vo v + i * es, none⟩)) (hl : l[i]? = some z) (hA : (e z).toArray = A) (h0 : 0 < es) :
    AOd P ⟨d, .load t x, ty, pos, aft, g⟩ ρ H (.agg A) H := by
  rcases h with ⟨rfl, rfl⟩ | ⟨b, o, c, rfl, h⟩
  · simp at hl
  · rcases h with rfl | ⟨k, cs, hk, hr, h⟩
    · simp at hl
    · obtain ⟨h1, h2⟩ := h i z hl
      have := ao_loads (d := d) (ty := ty) (pos := pos) (aft := aft) (g := g) ht hn hx hk hr (by
        have h3 : ((cs.drop (o + i * es)).take es).length = es := by rw [h1, h2]
        rw [List.length_take, List.length_drop] at h3
        show o + i * es + es ≤ _; omega)
      rw [← hA, ← h1]; exact this

theorem Sl.src (h : Sl H e es v l) (he : ∀ x, (e x).length = es) (hp : 0 < es) : Src H es v l.length (fl e l) := by
  rcases h with ⟨rfl, rfl⟩ | ⟨b, o, c, rfl, h⟩
  · exact .inl ⟨rfl, rfl, rfl⟩
  · rcases h with rfl | ⟨k, cs, hk, hr, h⟩
    · exact src_none
    · by_cases h0 : l.length * es = 0
      · have : fl e l = [] := List.eq_nil_of_length_eq_zero (by rw [fl_len he]; exact h0)
        rw [this]
        exact .inr ⟨b, o, c, k, [], rfl, .inl ⟨(Nat.mul_eq_zero.mp h0).resolve_right (by omega), rfl⟩⟩
      · have hl : o + l.length * es ≤ cs.length := by
          obtain ⟨x, hx⟩ : ∃ x, l[l.length - 1]? = some x := get_lt (by have : l.length ≠ 0 := fun q => h0 (by rw [q, Nat.zero_mul]); omega)
          obtain ⟨h1, h2⟩ := h _ x hx
          have h3 : ((cs.drop (o + (l.length - 1) * es)).take es).length = es := by rw [h1, h2]
          rw [List.length_take, List.length_drop] at h3
          have h4 : l.length * es = (l.length - 1) * es + es := by
            have : l.length = (l.length - 1) + 1 := by have : l.length ≠ 0 := fun q => h0 (by rw [q, Nat.zero_mul]); omega
            rw [← Nat.succ_mul]; exact congrArg (· * es) this
          have h5 : es ≠ 0 := fun q => h0 (by rw [q, Nat.mul_zero])
          omega
        have hc : (cs.drop o).take (l.length * es) = fl e l := by
          have key : ∀ (m : List α) (o : Nat), o + m.length * es ≤ cs.length → (∀ (i : Nat) x, m[i]? = some x → (cs.drop (o + i * es)).take es = e x) → (cs.drop o).take (m.length * es) = fl e m := by
            intro m
            induction m with
            | nil => intro o _ _; simp [fl]
            | cons y m ih =>
              intro o ho hm
              have q0 := hm 0 y rfl
              have q1 := ih (o + es) (by rw [List.length_cons, Nat.succ_mul] at ho; omega) (fun i x hx => by
                have := hm (i + 1) x (by simpa using hx)
                rw [Nat.succ_mul] at this
                rw [← this]; congr 2; omega)
              rw [Nat.zero_mul, Nat.add_zero] at q0
              rw [fl_cons, ← q0, ← q1, List.length_cons, Nat.succ_mul, Nat.add_comm (m.length * es), List.take_add, List.drop_drop]
          exact key l o hl fun i x hx => (h i x hx).1
        rw [← hc]
        exact .inr ⟨b, o, c, k, cs, rfl, .inr ⟨hk, hr, hl, rfl⟩⟩
end

/-- Lists that agree. -/
theorem take_step {α : Type} {l m : List α} {i : Nat} {x : α} (h : l.take i = m.take i) (hx : l[i]? = some x) (hy : m[i]? = some x) : l.take (i + 1) = m.take (i + 1) := by
  rw [List.take_add_one, List.take_add_one, h, hx, hy]
theorem take_all {α : Type} {l m : List α} {i : Nat} (h : l.take i = m.take i) (hi : l.length ≤ i) (hl : l.length = m.length) : l = m := by
  rwa [List.take_of_length_le hi, List.take_of_length_le (by omega)] at h
theorem ne_at {α : Type} {l m : List α} {i : Nat} {x y : α} (hx : l[i]? = some x) (hy : m[i]? = some y) (h : x ≠ y) : l ≠ m := by
  rintro rfl; rw [hx] at hy; exact h (Option.some.inj hy)

end Go.AW

/- What stands at the start of a law, and how a law's answer follows from its contract. -/
set_option linter.unusedVariables false
set_option linter.unusedSimpArgs false
namespace Go.AW
open Go Go.RowKit Go.ChangeShapes

/-- What stands at the start: abstract blocks that are only read. -/
structure Emb (β : Bt) (H : AHeap) (W : World) : Prop where
  rel : HRel β H W
  ro : ∀ b B o S es, β b ≠ some (.live B o S es true)

def noH : AHeap := ⟨fun _ => none, 0, fun _ _ => rfl⟩

theorem Emb.start (W : World) (hg : ∀ g ∈ globs, globAt g W.heap[g]? := by intro g h; cases h) : Emb noB noH W :=
  ⟨⟨(fun _ _ _ _ _ _ h => by cases h), (fun _ h => by cases h), (fun _ _ _ _ _ _ _ _ _ _ _ h => by cases h), (fun _ _ => rfl), fun g h => ⟨hg g h, fun _ _ _ _ e => by cases e⟩⟩, (fun _ _ _ _ _ h => by cases h)⟩

theorem Emb.add {β : Bt} {H : AHeap} {W : World} (h : Emb β H W) {cs : List Value} {B o : Nat} {C : Array Value} {e : TypeId} {fz : Nat × Nat} (hB : W.heap[B]? = some (.cells C e fz))
    (hl : o + cs.length ≤ C.size) (hc : ∀ (i : Nat) x, cs[i]? = some x → C[o + i]? = some x) (hp : cs.all plain1 = true) (es : Nat) :
    Emb (β.set H.next (.live B o C.size es false)) (H.push (.ro cs)) W ∧ (∀ b t, β b = some t → β.set H.next (.live B o C.size es false) b = some t) := by
  have hd := h.rel.dom
  have hext : ∀ b t, β b = some t → β.set H.next (.live B o C.size es false) b = some t := by
    intro b t hb
    rw [Bt.set_ne]; exact hb
    rintro rfl
    rw [hd _ (Nat.le_refl _)] at hb; cases hb
  refine ⟨⟨⟨?_, ?_, ?_, ?_, h.rel.glob.of (fun _ _ _ => rfl) fun b g o' S' es' hb => by
    by_cases e1 : b = H.next
    · subst e1; rw [Bt.set_same] at hb; cases hb
    · rw [Bt.set_ne _ _ e1] at hb; exact .inl ⟨_, _, _, _, hb⟩⟩, ?_⟩, hext⟩
  · intro b B1 o1 S1 es1 own1 hb
    by_cases e1 : b = H.next
    · subst e1
      rw [Bt.set_same] at hb; cases hb
      refine ⟨.ro cs, blk_push_new _ _, C, e, fz, hB, rfl, hl, fun i x hx => ⟨x, hc i x hx, ?_⟩, rfl⟩
      exact VR.plain1 _ (by rw [List.all_eq_true] at hp; exact hp x (List.mem_of_getElem? hx))
    · rw [Bt.set_ne _ _ e1] at hb
      obtain ⟨k, hk, hr⟩ := h.rel.rel b B1 o1 S1 es1 own1 hb
      exact ⟨k, by rw [blk_push_ne e1]; exact hk, hr.mono (fun b t hb => .inl (hext b t hb)) rfl⟩
  · intro b hb
    by_cases e1 : b = H.next
    · subst e1; rw [Bt.set_same] at hb; cases hb
    · rw [Bt.set_ne _ _ e1] at hb; rw [blk_push_ne e1]; exact h.rel.stale b hb
  · intro b1 b2 B1 o1 S1 es1 own1 o2 S2 es2 own2 h1 h2 ho
    have no : ∀ b own o S es, β.set H.next (.live B o C.size es false) b = some (.live B1 o S es own) → own = false := by
      intro b own o' S' es' hb
      by_cases e1 : b = H.next
      · subst e1; rw [Bt.set_same] at hb; cases hb; rfl
      · rw [Bt.set_ne _ _ e1] at hb
        cases own with
        | false => rfl
        | true => exact absurd hb (h.ro _ _ _ _ _)
    have n1 : own1 = false := by
      by_cases e1 : b1 = H.next
      · subst e1; rw [Bt.set_same] at h1; cases h1; rfl
      · rw [Bt.set_ne _ _ e1] at h1
        cases own1 with
        | false => rfl
        | true => exact absurd h1 (h.ro _ _ _ _ _)
    have n2 : own2 = false := by
      by_cases e1 : b2 = H.next
      · subst e1; rw [Bt.set_same] at h2; cases h2; rfl
      · rw [Bt.set_ne _ _ e1] at h2
        cases own2 with
        | false => rfl
        | true => exact absurd h2 (h.ro _ _ _ _ _)
    rcases ho with ho | ho
    · rw [n1] at ho; cases ho
    · rw [n2] at ho; cases ho
  · intro b hb
    rw [next_push] at hb
    rw [Bt.set_ne _ _ (by omega)]
    exact hd b (by omega)
  · intro b B1 o1 S1 es1 hb
    by_cases e1 : b = H.next
    · subst e1; rw [Bt.set_same] at hb; cases hb
    · rw [Bt.set_ne _ _ e1] at hb; exact h.ro _ _ _ _ _ hb

/-- A law's answer, out of its contract. -/
theorem Emb.calls {P : Program} {f : FuncId} {args : List Value} {args' : Array Value} {β : Bt} {H H' : AHeap} {W : World} (h : Emb β H W)
    (hs : args'.size = args.length) (hv : ∀ (i : Nat) u u', args[i]? = some u → args'[i]? = some u' → VR β u u') (hc : ACd P f args H (.bool true) H') :
    Calls P f args' W fun e W' => e = .returned (.bool true) ∧ Below W.heap.size W W' := by
  refine (hc β args' W hs hv h.rel).mono ?_
  rintro e W' ⟨v', rfl, v, H1, β', ⟨rfl, rfl⟩, hvv, hh, hst, hn⟩
  refine ⟨by rw [hvv.bool_inv], hst.os, hst.tape, hst.output, hst.size, fun k hk => hst.block k hk fun b o S es => h.ro b k o S es⟩

/-- How elements that name no block are read. -/
structure Dec {α : Type} (P : Program) (t : TypeId) (n : Nat) (e : α → List Value) (ok : α → Prop) : Prop where
  len : ∀ x, (e x).length = n
  cells : P.cellsOf t = n
  plain : ∀ x, (e x).all plain1 = true
  get : ∀ {H : Type} {enc : TypeId × Value → H} {w : World} {base : Nat} {sp : Nat → Bool} {held : Bool} {fuel : Nat} {cs : List Value} {x : DataW H × List MemPlace},
    DataW.trod enc P w base sp held fuel t cs = some x → ∃ a, cs = e a ∧ ok a

theorem dec_int {P : Program} {t : TypeId} {k : IntKind} (ht : P.underlying t = some (.int k)) (hc : P.cellsOf t = 1) : Dec P t 1 (fun n : Int => [.int k n]) (fun n => (Lit.int k n).wf = true) where
  len _ := rfl
  cells := hc
  plain _ := rfl
  get {H enc w base sp held fuel cs x} h := by
    cases fuel with
    | zero => simp [DataW.trod] at h
    | succ n =>
      unfold DataW.trod at h
      rw [ht] at h
      split at h <;> simp_all

theorem dec_bool {P : Program} {t : TypeId} (ht : P.underlying t = some .bool) (hc : P.cellsOf t = 1) : Dec P t 1 (fun b : Bool => [.bool b]) (fun _ => True) where
  len _ := rfl
  cells := hc
  plain _ := rfl
  get {H enc w base sp held fuel cs x} h := by
    cases fuel with
    | zero => simp [DataW.trod] at h
    | succ n =>
      unfold DataW.trod at h
      rw [ht] at h
      split at h <;> simp_all

theorem dec_struct2 {α β γ : Type} {P : Program} {t : TypeId} {f0 f1 : Field} {n0 n1 : Nat} {e0 : α → List Value} {e1 : β → List Value} {ok0 : α → Prop} {ok1 : β → Prop} {e : γ → List Value} {mk : α → β → γ} {ok : γ → Prop}
    (ht : P.underlying t = some (.struct #[f0, f1])) (D0 : Dec P f0.type n0 e0 ok0) (D1 : Dec P f1.type n1 e1 ok1) (hc : P.cellsOf t = n0 + n1) (h0 : f0.offset = 0) (h1 : f1.offset = n0)
    (he : ∀ a b, e (mk a b) = e0 a ++ e1 b) (hs : ∀ c, ∃ a b, c = mk a b) (hok : ∀ a b, ok0 a → ok1 b → ok (mk a b)) : Dec P t (n0 + n1) e ok where
  len x := by obtain ⟨a, b, rfl⟩ := hs x; rw [he, List.length_append, D0.len, D1.len]
  cells := hc
  plain x := by obtain ⟨a, b, rfl⟩ := hs x; rw [he, List.all_append, D0.plain, D1.plain]; rfl
  get {H enc w base sp held fuel cs x} h := by
    obtain ⟨y0, y1, n, _, hl, q0, q1⟩ := trod_struct2 ht h
    rw [h0, D0.cells, List.drop_zero] at q0
    rw [h1, D1.cells] at q1
    obtain ⟨a, ha, oa⟩ := D0.get q0
    obtain ⟨b, hb, ob⟩ := D1.get q1
    refine ⟨mk a b, ?_, hok a b oa ob⟩
    rw [he, ← ha, ← hb]
    rw [hc] at hl
    rw [List.take_of_length_le (l := cs.drop n0) (by rw [List.length_drop]; omega), List.take_append_drop]

theorem cells_at {w : World} {b o n : Nat} {cs : List Value} (h : w.cells? 0 ⟨b, o, none⟩ n = some cs) {C : Array Value} {e : TypeId} {fz : Nat × Nat} (hB : w.heap[b]? = some (.cells C e fz)) :
    cs.length = n ∧ ∀ (i : Nat) x, cs[i]? = some x → C[o + i]? = some x := by
  obtain ⟨_, h1, h2⟩ := World.cells?_some h
  refine ⟨h1, fun i x hx => ?_⟩
  have hi : i < n := by rw [← h1]; exact (List.getElem?_eq_some_iff.mp hx).1
  have := h2 i hi
  rw [hx, add_none rfl, cell_of hB] at this
  exact this

/-- A slice that comes in: its elements, and an abstract block of its own for them. -/
theorem Emb.slice {α Hd : Type} {enc : TypeId × Value → Hd} {P : Program} {t e : TypeId} {n : Nat} {el : α → List Value} {ok : α → Prop} (D : Dec P e n el ok) (ht : P.underlying t = some (.slice e)) (hn : 0 < n)
    {W : World} {base : Nat} {v : Value} {d : DataW Hd} {p : List MemPlace} (hv : Cell.okWide P W .any base t v) {fuel : Nat} (h : DataW.trod enc P W 0 (fun _ => true) true fuel t [v] = some (d, p))
    {β : Bt} {H : AHeap} (hE : Emb β H W) :
    ∃ (β' : Bt) (H' : AHeap) (u : Value) (l : List α), Emb β' H' W ∧ Same H.next H H' ∧ H.next ≤ H'.next ∧ (∀ b s, β b = some s → β' b = some s ∨ β' b = some .stale) ∧ VR β' u v ∧ Sl H' el n u l ∧ l.length ≤ maxLen ∧ ∀ x ∈ l, ok x := by
  rcases DataW.trod_slice ht h with ⟨hcs, _⟩ | ⟨a, len, cap, elems, rest, fu, _, hcs, _, _, hl, hm, hlen, hel, _, _⟩
  · obtain rfl : v = .slice none 0 0 := by simpa using hcs
    exact ⟨β, H, .slice none 0 0, [], hE, Same.refl _ _, Nat.le_refl _, fun b s hb => .inl hb, .sliceNil, Sl.nil, by simp, by simp⟩
  · obtain rfl : v = .slice (some a) len cap := by simpa using hcs
    have hok : a.spot = none ∧ ∃ C et fz, W.heap[a.block]? = some (.cells C et fz) := by
      unfold Cell.okWide at hv
      rw [ht] at hv
      simp only [Cell.ok, ht] at hv
      obtain ⟨_, _, _, hsp, row, cells, hsh, _⟩ := hv
      refine ⟨hsp, ?_⟩
      unfold World.shape? at hsh
      split at hsh
      · rename_i c el' fz hq; exact ⟨c, el', fz, hq⟩
      · cases hsh
    obtain ⟨hsp, C, et, fz, hB⟩ := hok
    obtain ⟨b, o, sp⟩ := a
    obtain rfl : sp = none := hsp
    rw [D.cells] at hel
    -- the elements
    have key : ∀ m, m ≤ len → ∃ l : List α, l.length = m ∧ (∀ x ∈ l, ok x) ∧ (l = [] ∨ o + m * n ≤ C.size) ∧ ∀ i x, (fl el l)[i]? = some x → C[o + i]? = some x := by
      intro m
      induction m with
      | zero => exact fun _ => ⟨[], rfl, by simp, .inl rfl, by simp [fl]⟩
      | succ m ih =>
        intro hm'
        obtain ⟨l, hl1, hl2, hl3, hl4⟩ := ih (by omega)
        have q := hel m (by omega)
        obtain ⟨y, hy⟩ : ∃ y, elems[m]? = some y := get_lt (by omega)
        rw [hy, Option.bind_eq_some_iff] at q
        obtain ⟨cs, hcs1, hcs2⟩ := q
        rw [add_none rfl] at hcs1
        obtain ⟨z, rfl, hz⟩ := D.get hcs2
        obtain ⟨c1, c2⟩ := cells_at hcs1 hB
        refine ⟨l ++ [z], by simp [hl1], ?_, .inr ?_, ?_⟩
        · intro x hx
          rcases List.mem_append.mp hx with hx | hx
          · exact hl2 x hx
          · rw [List.mem_singleton.mp hx]; exact hz
        · obtain ⟨u, hu⟩ : ∃ u, (el z)[n - 1]? = some u := get_lt (by omega)
          have := (Array.getElem?_eq_some_iff.mp (c2 _ _ hu)).1
          rw [Nat.succ_mul]
          simp only at this ⊢
          omega
        · intro i x hx
          rw [fl_snoc, List.getElem?_append] at hx
          split at hx
          · exact hl4 i x hx
          · rename_i hge
            have hfl : (fl el l).length = m * n := by rw [fl_len D.len, hl1]
            rw [hfl] at hx hge
            have := c2 _ _ hx
            simp only at this
            rwa [show o + m * n + (i - m * n) = o + i by omega] at this
    obtain ⟨l, hl1, hl2, hl3, hl4⟩ := key len (Nat.le_refl _)
    by_cases h0 : l = []
    · subst h0
      obtain rfl : len = 0 := by simpa using hl1.symm
      obtain ⟨e1, e2⟩ := hE.add (cs := []) (o := 0) hB (by simp) (by simp) rfl n
      refine ⟨_, _, .slice (some ⟨H.next, o, none⟩) 0 1, [], e1, (Same.refl _ _).push (Nat.le_refl _) _, by rw [next_push]; omega, fun b s hb => .inl (e2 b s hb), .slice ⟨rfl, rfl, by omega, fun e => by omega, _, Bt.set_same _ _ _, ?_⟩, Sl.zero, by simp, by simp⟩
      intro B o1 S es own he
      cases he
      exact ⟨rfl, .inr ⟨by simp, fun e => by cases e⟩, fun h => by omega⟩
    · have hl3' := hl3.resolve_left h0
      have hfl : (fl el l).length = len * n := by rw [fl_len D.len, hl1]
      obtain ⟨e1, e2⟩ := hE.add (cs := fl el l) (o := o) hB (by rw [hfl]; exact hl3') hl4 (by
        rw [List.all_eq_true]
        intro x hx
        obtain ⟨z, hz, hxz⟩ := List.mem_flatMap.mp hx
        exact List.all_eq_true.mp (D.plain z) x hxz) n
      refine ⟨_, _, .slice (some ⟨H.next, 0, none⟩) len (len + 1), l, e1, (Same.refl _ _).push (Nat.le_refl _) _, by rw [next_push]; omega, fun b s hb => .inl (e2 b s hb), .slice ⟨rfl, rfl, hl, fun e => by omega, _, Bt.set_same _ _ _, ?_⟩,
        Sl.full D.len (blk_push_new _ _) rfl rfl hl1.symm, by omega, hl2⟩
      intro B o1 S es own he
      cases he
      exact ⟨rfl, .inr ⟨by simp, fun e => by cases e⟩, fun h => by omega⟩

end Go.AW

/- The elements of this program's slices. -/
set_option linter.unusedVariables false
namespace Go.AW
open Go

/-! the elements of this program's slices, and their cells -/
def i64 (n : Int) : List Value := [.int .i64 n]
def i16 (n : Int) : List Value := [.int .i16 n]
def i8 (n : Int) : List Value := [.int .i8 n]
structure Hold where
  who : Int
  knot : Int
  deriving DecidableEq
def hold (h : Hold) : List Value := [.int .i16 h.who, .int .i8 h.knot]
structure Said where
  number : Int
  check : Int
  deriving DecidableEq
def said (s : Said) : List Value := [.int .i64 s.number, .int .i64 s.check]
structure Spot where
  x : Int
  y : Int
  deriving DecidableEq
def spot (s : Spot) : List Value := [.int .i8 s.x, .int .i8 s.y]

theorem i64_len (x : Int) : (i64 x).length = 1 := rfl
theorem i16_len (x : Int) : (i16 x).length = 1 := rfl
theorem i8_len (x : Int) : (i8 x).length = 1 := rfl
theorem hold_len (x : Hold) : (hold x).length = 2 := rfl
theorem said_len (x : Said) : (said x).length = 2 := rfl
theorem spot_len (x : Spot) : (spot x).length = 2 := rfl
theorem hold_ext {x y : Hold} (h : x.who = y.who) (k : x.knot = y.knot) : x = y := by cases x; cases y; simp_all
theorem said_ext {x y : Said} (h : x.number = y.number) (k : x.check = y.check) : x = y := by cases x; cases y; simp_all
theorem spot_ext {x y : Spot} (h : x.x = y.x) (k : x.y = y.y) : x = y := by cases x; cases y; simp_all

theorem fl_setz {α : Type} {e : α → List Value} {es : Nat} (he : ∀ x, (e x).length = es) {l : List α} {i j : Nat} {x : α} (y : α) {u : Value} (h : l[i]? = some x) (hj : j < es) (hy : e y = (e x).set j u) :
    (fl e l).set (0 + ((i : Nat) : Int).toNat * es + j) u = fl e (l.set i y) := by
  rw [Nat.zero_add, Int.toNat_natCast]; exact fl_set he h hj hy

theorem get_some {α : Type} {l : List α} {i : Nat} (h : i < l.length) : l[i]? = some l[i] := List.getElem?_eq_getElem h
theorem fl_setzL {α : Type} {e : α → List Value} {es : Nat} (he : ∀ x, (e x).length = es) {l : List α} {i : Nat} {y : α} (h : i < l.length) :
    (fl e l).take (0 + ((i : Nat) : Int).toNat * es) ++ e y ++ (fl e l).drop (0 + ((i : Nat) : Int).toNat * es + es) = fl e (l.set i y) := by
  rw [Nat.zero_add, Int.toNat_natCast]; exact fl_setL he h

/-- What an element type is: its zero, its cells, its bytes. -/
def ElemZ (P : Program) (e : TypeId) (size bytes : Nat) (z : Value) : Prop :=
  ∃ i, P.info? e = some i ∧ i.zero = some z ∧ i.size = size ∧ i.bytes = bytes ∧ z.cells.size = size ∧ plainV z = true

theorem elemZ_of {P : Program} {e : TypeId} {size bytes : Nat} {z : Value} (h : (P.info? e).map (fun i => (i.zero, i.size, i.bytes)) = some (some z, size, bytes)) (hc : z.cells.size = size) (hp : plainV z = true) : ElemZ P e size bytes z := by
  rw [Option.map_eq_some_iff] at h
  obtain ⟨i, hi, he⟩ := h
  simp only [Prod.mk.injEq] at he
  exact ⟨i, hi, he.1, he.2.1, he.2.2, hc, hp⟩

theorem ElemZ.elem {P : Program} {e : TypeId} {size bytes : Nat} {z : Value} (h : ElemZ P e size bytes z) : Elem P e size bytes := by
  obtain ⟨i, h1, h2, h3, h4, h5, _⟩ := h
  exact ⟨i, z, h1, h2, h3, h4, h5⟩

theorem made_fl {α : Type} {el : α → List Value} {z0 : α} {zs : Array Value} {es : Nat} (hz : zs.size = es) (he : el z0 = zs.toList) (n : Nat) : (madeCells zs (n * es)).toList = fl el (List.replicate n z0) := by
  apply List.ext_getElem?
  intro j
  have hl : ∀ x, x ∈ List.replicate n z0 → (el x).length = es := by intro x hx; rw [List.eq_of_mem_replicate hx, he, Array.length_toList, hz]
  have hlen : (fl el (List.replicate n z0)).length = n * es := by
    clear hl
    induction n with
    | zero => simp [fl]
    | succ n ih => rw [List.replicate_succ, fl_cons, List.length_append, ih, he, Array.length_toList, hz, Nat.succ_mul]; omega
  by_cases hj : j < n * es
  · have h0 : 0 < es := by rcases Nat.eq_zero_or_pos es with h | h
                           · rw [h] at hj; omega
                           · exact h
    have hfl : (fl el (List.replicate n z0))[j]? = zs[j % es]? := by
      clear hlen hl
      induction n generalizing j with
      | zero => omega
      | succ n ih =>
        rw [List.replicate_succ, fl_cons, List.getElem?_append, he, Array.length_toList, hz]
        split
        · rename_i h; rw [Nat.mod_eq_of_lt h, Array.getElem?_toList]
        · rename_i h
          rw [ih (j - es) (by rw [Nat.succ_mul] at hj; omega), Nat.mod_eq_sub_mod (a := j) (by omega)]
    rw [hfl]
    have : j % es < zs.size := by rw [hz]; exact Nat.mod_lt _ h0
    simp only [madeCells, Array.toList_map, Array.toList_range, List.getElem?_map, List.getElem?_range hj, Option.map_some, hz]
    rw [Array.getElem?_eq_getElem this]; congr 1; exact getElem!_pos zs _ this
  · rw [List.getElem?_eq_none (l := fl el _) (by omega), List.getElem?_eq_none (by simp [madeCells]; omega)]

section
variable {α : Type} {P : Program} {d : Option Tmp} {ty : TypeId} {pos : String} {aft : Array Edge} {g : Option (Nat × Bool)} {ρ : Operand → Value} {H : AHeap}
theorem ao_makeF {t e : TypeId} {x y : Operand} {k1 k2 : IntKind} {l : Int} {ln size bytes : Nat} {z : Value} (el : α → List Value) (z0 : α) (ht : P.underlying t = some (.slice e)) (hE : ElemZ P e size bytes z) (he : el z0 = z.cells.toList) (hs : 0 < size)
    (hx : ρ x = .int k1 l) (hy : ρ y = .int k2 l) (hl : l = (ln : Int)) (hb : (bytes : Int) * l ≤ 281474976710656) (h63 : l ≤ 9223372036854775807) :
    AOd P ⟨d, .makeSlice t x y, ty, pos, aft, g⟩ ρ H (.slice (some ⟨H.next, 0, none⟩) ln ln) (H.push (.cells (fl el (List.replicate ln z0)) size)) := by
  obtain ⟨i, h1, h2, h3, h4, h5, h6⟩ := hE
  have := ao_makeSlice (H := H) (d := d) (ty := ty) (pos := pos) (aft := aft) (g := g) ht h1 h2 h3 h4 h6 h5 hs hx hy hl (Int.le_refl _) hb h63
  rw [if_pos rfl, made_fl h5 he] at this
  exact this
end

theorem vr_sl {ρ : Bt} {b b' n c c' o : Nat} (h : ρ b = some (ren b')) (hc : n ≤ c') (he : c = n → c' = n) (hd : n + 1 < c → c ≤ c' := by omega) : VR ρ (.slice (some ⟨b, o, none⟩) n c) (.slice (some ⟨b', o, none⟩) n c') :=
  .slice ⟨rfl, rfl, hc, he, _, h, fun B o1 S es own e => by cases e; exact ⟨rfl, .inr ⟨by simp, fun e => (nomatch e)⟩, fun k => ⟨fun e => (nomatch e), fun _ => hd k⟩⟩⟩
theorem vr_agg2 {ρ : Bt} {a a' b b' : Value} (h : VR ρ a a') (k : VR ρ b b') : VR ρ (.agg #[a, b]) (.agg #[a', b']) :=
  .agg rfl fun i u u' hu hu' => by
    match i with
    | 0 => simp at hu hu'; subst hu hu'; exact h
    | 1 => simp at hu hu'; subst hu hu'; exact k
    | i + 2 => simp at hu
theorem vr_tup2 {ρ : Bt} {a a' b b' : Value} (h : VR ρ a a') (k : VR ρ b b') : VR ρ (.tuple #[a, b]) (.tuple #[a', b']) :=
  .tuple rfl fun i u u' hu hu' => by
    match i with
    | 0 => simp at hu hu'; subst hu hu'; exact h
    | 1 => simp at hu hu'; subst hu hu'; exact k
    | i + 2 => simp at hu
theorem vr_tup3 {ρ : Bt} {a a' b b' c c' : Value} (h : VR ρ a a') (k : VR ρ b b') (m : VR ρ c c') : VR ρ (.tuple #[a, b, c]) (.tuple #[a', b', c']) :=
  .tuple rfl fun i u u' hu hu' => by
    match i with
    | 0 => simp at hu hu'; subst hu hu'; exact h
    | 1 => simp at hu hu'; subst hu hu'; exact k
    | 2 => simp at hu hu'; subst hu hu'; exact m
    | i + 3 => simp at hu

/-- Cells that name no block. -/
theorem vrl_fl {α : Type} {e : α → List Value} (he : ∀ x, (e x).all plain1 = true) (l : List α) (β : Bt) : VRL β (fl e l) (fl e l) := by
  refine ⟨rfl, fun i x y hx hy => ?_⟩
  rw [hx] at hy; cases hy
  obtain ⟨z, _, hz⟩ := List.mem_flatMap.mp (List.mem_of_getElem? hx)
  exact VR.plain1 _ (List.all_eq_true.mp (he z) x hz)
theorem i64_plain (x : Int) : (i64 x).all plain1 = true := rfl
theorem i16_plain (x : Int) : (i16 x).all plain1 = true := rfl
theorem i8_plain (x : Int) : (i8 x).all plain1 = true := rfl
theorem hold_plain (x : Hold) : (hold x).all plain1 = true := rfl
theorem said_plain (x : Said) : (said x).all plain1 = true := rfl
theorem spot_plain (x : Spot) : (spot x).all plain1 = true := rfl

/-- What stands in a slice's cells behind the marks. -/
def mk16 (k : Int) (n : Nat) : List Int := (List.range n).map fun (j : Nat) => IntKind.i16.wrap (k + j)
def mk64 (k : Int) (n : Nat) : List Int := (List.range n).map fun (j : Nat) => k + j
def mkHold (k : Int) (n : Nat) : List Hold := (List.range n).map fun (j : Nat) => ⟨IntKind.i16.wrap (k + 2 * j), IntKind.i8.wrap (k + 2 * j + 1)⟩
def mkSaid (k : Int) (n : Nat) : List Said := (List.range n).map fun (j : Nat) => ⟨k + 2 * j, k + 2 * j + 1⟩
theorem mk16_get {k : Int} {n i : Nat} {x : Int} (h : (mk16 k n)[i]? = some x) : x = IntKind.i16.wrap (k + i) := by
  simp only [mk16, List.getElem?_map, Option.map_eq_some_iff] at h
  obtain ⟨j, hj, rfl⟩ := h
  rw [List.getElem?_range (by have := (List.getElem?_eq_some_iff.mp hj).1; simpa using this)] at hj
  cases hj; rfl
theorem mk64_get {k : Int} {n i : Nat} {x : Int} (h : (mk64 k n)[i]? = some x) : x = k + i := by
  simp only [mk64, List.getElem?_map, Option.map_eq_some_iff] at h
  obtain ⟨j, hj, rfl⟩ := h
  rw [List.getElem?_range (by have := (List.getElem?_eq_some_iff.mp hj).1; simpa using this)] at hj
  cases hj; rfl
theorem mkHold_get {k : Int} {n i : Nat} {x : Hold} (h : (mkHold k n)[i]? = some x) : x = ⟨IntKind.i16.wrap (k + 2 * i), IntKind.i8.wrap (k + 2 * i + 1)⟩ := by
  simp only [mkHold, List.getElem?_map, Option.map_eq_some_iff] at h
  obtain ⟨j, hj, rfl⟩ := h
  rw [List.getElem?_range (by have := (List.getElem?_eq_some_iff.mp hj).1; simpa using this)] at hj
  cases hj; rfl
theorem mkSaid_get {k : Int} {n i : Nat} {x : Said} (h : (mkSaid k n)[i]? = some x) : x = ⟨k + 2 * i, k + 2 * i + 1⟩ := by
  simp only [mkSaid, List.getElem?_map, Option.map_eq_some_iff] at h
  obtain ⟨j, hj, rfl⟩ := h
  rw [List.getElem?_range (by have := (List.getElem?_eq_some_iff.mp hj).1; simpa using this)] at hj
  cases hj; rfl
theorem mk16_len (k : Int) (n : Nat) : (mk16 k n).length = n := by simp [mk16]
theorem mk64_len (k : Int) (n : Nat) : (mk64 k n).length = n := by simp [mk64]
theorem mkHold_len (k : Int) (n : Nat) : (mkHold k n).length = n := by simp [mkHold]
theorem mkSaid_len (k : Int) (n : Nat) : (mkSaid k n).length = n := by simp [mkSaid]

theorem take_setz {α : Type} {z l : List α} {i : Nat} {x : α} (h : z.take i = l.take i) (hx : l[i]? = some x) (hi : i < z.length) : (z.set i x).take (i + 1) = l.take (i + 1) := by
  refine take_step (x := x) ?_ (by rw [List.getElem?_set_self hi]) hx
  rw [List.take_set_of_le (Nat.le_refl _)]; exact h

end Go.AW

/- How a law's arguments are read. -/
set_option linter.unusedVariables false
set_option linter.unusedSimpArgs false
namespace Go.AW
open Go Go.RowKit Go.ChangeShapes

theorem maxLen_le {n : Nat} (h : n ≤ maxLen) : n ≤ 9223372036854775807 := by unfold maxLen at h; omega

section
variable {α Hd : Type} {enc : TypeId × Value → Hd} {P : Program} {W : World} {base : Nat} {β : Bt} {H : AHeap}

/-- An argument that is a slice of elements that name no block. -/
theorem Emb.argSlice {t e : TypeId} {n : Nat} {el : α → List Value} {ok : α → Prop} (D : Dec P e n el ok) (ht : P.underlying t = some (.slice e)) (hn : 0 < n)
    {v : Value} {d : DataW Hd} {p : List MemPlace} (hv : Value.okWide P W .any base t v) (h : DataW.Trod enc P W 0 (fun _ => true) true t v d p) (hE : Emb β H W) :
    ∃ (β' : Bt) (H' : AHeap) (u : Value) (l : List α), Emb β' H' W ∧ Same H.next H H' ∧ H.next ≤ H'.next ∧ (∀ b s, β b = some s → β' b = some s ∨ β' b = some .stale) ∧ VR β' u v ∧ Sl H' el n u l ∧ l.length ≤ 9223372036854775807 ∧ ∀ x ∈ l, ok x := by
  obtain ⟨a, len, cap, rfl⟩ := WideShapes.okWide_slice ht hv
  obtain ⟨fuel, hf⟩ := h
  obtain ⟨β', H', u, l, h1, h2, h3, h4, h5, h6, h7, h8⟩ := Emb.slice D ht hn (by unfold Value.okWide at hv; rw [ht] at hv; exact hv) hf hE
  exact ⟨β', H', u, l, h1, h2, h3, h4, h5, h6, maxLen_le h7, h8⟩

/-- An argument that is a struct of a whole number and such a slice. -/
theorem Emb.argIS {t e : TypeId} {f0 f1 : Field} {k : IntKind} {n : Nat} {el : α → List Value} {ok : α → Prop} (D : Dec P e n el ok) (ht : P.underlying t = some (.struct #[f0, f1])) (h0 : P.underlying f0.type = some (.int k)) (c0 : P.cellsOf f0.type = 1)
    (h1 : P.underlying f1.type = some (.slice e)) (c1 : P.cellsOf f1.type = 1) (o0 : f0.offset = 0) (o1 : f1.offset = 1) (hc : P.cellsOf t = 2) (hct : P.cellTypes P.depth t = some [f0.type, f1.type]) (hn : 0 < n)
    {v : Value} {d : DataW Hd} {p : List MemPlace} (hv : Value.okWide P W .any base t v) (h : DataW.Trod enc P W 0 (fun _ => true) true t v d p) (hE : Emb β H W) :
    ∃ (L : Int) (v' : Value), v = .agg #[.int k L, v'] ∧ (Lit.int k L).wf = true ∧ ∃ (β' : Bt) (H' : AHeap) (u : Value) (l : List α), Emb β' H' W ∧ Same H.next H H' ∧ H.next ≤ H'.next ∧ (∀ b s, β b = some s → β' b = some s ∨ β' b = some .stale) ∧
      VR β' (.agg #[.int k L, u]) v ∧ Sl H' el n u l ∧ l.length ≤ 9223372036854775807 ∧ ∀ x ∈ l, ok x := by
  unfold Value.okWide at hv
  rw [ht] at hv
  obtain ⟨cs, rfl, hcs, ts, hts, _, hall⟩ := hv
  rw [hct] at hts; cases hts
  rw [hc] at hcs
  obtain ⟨fuel, hf⟩ := h
  obtain ⟨y0, y1, m, _, hl, q0, q1⟩ := trod_struct2 ht hf
  obtain ⟨x, v', rfl⟩ : ∃ x v', cs = #[x, v'] := by
    rcases cs with ⟨cs⟩
    match cs, hcs with
    | [x, y], _ => exact ⟨x, y, rfl⟩
  have e0 : (Value.agg #[x, v']).cells.toList = [x, v'] := rfl
  rw [e0, o0, c0] at q0
  rw [e0, o1, c1] at q1
  have q0' : DataW.trod enc P W 0 (fun _ => true) true m f0.type [x] = some y0 := q0
  have q1' : DataW.trod enc P W 0 (fun _ => true) true m f1.type [v'] = some y1 := q1
  obtain ⟨L, hL, wL⟩ := (dec_int (P := P) h0 c0).get q0'
  obtain rfl : x = .int k L := by simpa using hL
  have hv1 : Cell.okWide P W .any base f1.type v' := by
    obtain ⟨u, hu, hok⟩ := hall 1 v' rfl
    simp at hu; subst hu; exact hok
  obtain ⟨β', H', u, l, hE', hs, hle, hext, hV, hS, hm, hr⟩ := Emb.slice D h1 hn hv1 (d := y1.1) (p := y1.2) q1' hE
  exact ⟨L, v', rfl, wL, β', H', u, l, hE', hs, hle, hext, vr_agg2 (.int _ _) hV, hS, maxLen_le hm, hr⟩
end

theorem vrs1 {β : Bt} {a a' : Value} (h : VR β a a') : ∀ (i : Nat) u u', [a][i]? = some u → #[a'][i]? = some u' → VR β u u' := by
  intro i u u' hu hu'
  match i with
  | 0 => simp at hu hu'; subst hu hu'; exact h
  | i + 1 => simp at hu
theorem vrs2 {β : Bt} {a a' b b' : Value} (h : VR β a a') (k : VR β b b') : ∀ (i : Nat) u u', [a, b][i]? = some u → #[a', b'][i]? = some u' → VR β u u' := by
  intro i u u' hu hu'
  match i with
  | 0 => simp at hu hu'; subst hu hu'; exact h
  | 1 => simp at hu hu'; subst hu hu'; exact k
  | i + 2 => simp at hu
theorem vrs3 {β : Bt} {a a' b b' c c' : Value} (h : VR β a a') (k : VR β b b') (m : VR β c c') : ∀ (i : Nat) u u', [a, b, c][i]? = some u → #[a', b', c'][i]? = some u' → VR β u u' := by
  intro i u u' hu hu'
  match i with
  | 0 => simp at hu hu'; subst hu hu'; exact h
  | 1 => simp at hu hu'; subst hu hu'; exact k
  | 2 => simp at hu hu'; subst hu hu'; exact m
  | i + 3 => simp at hu
theorem vrs4 {β : Bt} {a a' b b' c c' d d' : Value} (h : VR β a a') (k : VR β b b') (m : VR β c c') (n : VR β d d') : ∀ (i : Nat) u u', [a, b, c, d][i]? = some u → #[a', b', c', d'][i]? = some u' → VR β u u' := by
  intro i u u' hu hu'
  match i with
  | 0 => simp at hu hu'; subst hu hu'; exact h
  | 1 => simp at hu hu'; subst hu hu'; exact k
  | 2 => simp at hu hu'; subst hu hu'; exact m
  | 3 => simp at hu hu'; subst hu hu'; exact n
  | i + 4 => simp at hu

/-- A whole number's bounds. -/
theorem wf_i64 {n : Int} (h : (Lit.int .i64 n).wf = true) : -9223372036854775808 ≤ n ∧ n ≤ 9223372036854775807 := by
  simp only [Lit.wf, Bool.and_eq_true, decide_eq_true_eq] at h; exact h
theorem wf_i16 {n : Int} (h : (Lit.int .i16 n).wf = true) : -32768 ≤ n ∧ n ≤ 32767 := by
  simp only [Lit.wf, Bool.and_eq_true, decide_eq_true_eq] at h; exact h
theorem wf_i8 {n : Int} (h : (Lit.int .i8 n).wf = true) : -128 ≤ n ∧ n ≤ 127 := by
  simp only [Lit.wf, Bool.and_eq_true, decide_eq_true_eq] at h; exact h

end Go.AW

/- When two structs are equal, field by field. -/
set_option linter.unusedVariables false
set_option linter.unusedSimpArgs false
namespace Go.AW
open Go
section
variable {P : Program} {d : Nat} {xs ys : Array Value} {f : Field} {fs : List Field} {a b : Value} {r s : Bool} {w : World}
theorem seq_one (hn : (f.name == "_") = false) (ha : (part f.type xs f.offset).run P w = .ok a w) (hb : (part f.type ys f.offset).run P w = .ok b w) (he : (Op.equalIn d f.type a b).run P w = .ok r w) :
    (Op.eqFields d xs ys [f]).run P w = .ok r w := by
  have h : f.name ≠ "_" := by simpa using hn
  simp only [Op.eqFields, if_pos h, Sem.run_bind, ha, hb, he, Result.andThen_ok]
  cases r <;> simp
theorem seq_more (hn : (f.name == "_") = false) (ha : (part f.type xs f.offset).run P w = .ok a w) (hb : (part f.type ys f.offset).run P w = .ok b w) (he : (Op.equalIn d f.type a b).run P w = .ok r w)
    (hr : (Op.eqFields d xs ys fs).run P w = .ok s w) : (Op.eqFields d xs ys (f :: fs)).run P w = .ok (r && s) w := by
  have h : f.name ≠ "_" := by simpa using hn
  rw [Op.eqFields]
  simp only [if_pos h, Sem.run_bind, ha, hb, he, Result.andThen_ok]
  cases r
  · simp
  · simpa using hr
theorem seq_all {t : TypeId} {gs : Array Field} (hu : P.underlying t = some (.struct gs)) (hp : P.stoodInHeld t = false) (h : (Op.eqFields d xs ys gs.toList).run P w = .ok r w) : (Op.equalIn (d + 1) t (.agg xs) (.agg ys)).run P w = .ok r w := by
  have hf : P.fieldsOf t = gs := by simp [Program.fieldsOf, hu]
  rw [run_equalIn_struct (P := P) w d t xs ys (by rw [hf]; exact hu) hp, hf]
  exact h
end
theorem hold_eq (x y : Hold) : (x.who == y.who && x.knot == y.knot) = decide (x = y) := by
  by_cases h : x = y
  · subst h; simp
  · rw [decide_eq_false h]
    cases q : (x.who == y.who && x.knot == y.knot) with
    | false => rfl
    | true => simp at q; exact absurd (hold_ext q.1 q.2) h
theorem said_eq (x y : Said) : (x.number == y.number && x.check == y.check) = decide (x = y) := by
  by_cases h : x = y
  · subst h; simp
  · rw [decide_eq_false h]
    cases q : (x.number == y.number && x.check == y.check) with
    | false => rfl
    | true => simp at q; exact absurd (said_ext q.1 q.2) h
theorem spot_eq (x y : Spot) : (x.x == y.x && x.y == y.y) = decide (x = y) := by
  by_cases h : x = y
  · subst h; simp
  · rw [decide_eq_false h]
    cases q : (x.x == y.x && x.y == y.y) with
    | false => rfl
    | true => simp at q; exact absurd (spot_ext q.1 q.2) h

theorem exists_bool (p : Prop) : ∃ b : Bool, b = true ↔ p := by
  by_cases h : p
  · exact ⟨true, by simp [h]⟩
  · exact ⟨false, by simp [h]⟩
theorem bt {b : Bool} {p : Prop} (hb : b = true ↔ p) (h : p) : Value.bool true = Value.bool b := by rw [hb.mpr h]
theorem bf {b : Bool} {p : Prop} (hb : b = true ↔ p) (h : ¬ p) : Value.bool false = Value.bool b := by
  cases b with
  | false => rfl
  | true => exact absurd (hb.mp rfl) h
end Go.AW

/- What it means that a rope, and a list of holds, is valid. -/
namespace Go.AW
open Go

def okRope (L : Int) (ks : List Int) : Prop :=
  1 ≤ L ∧ L ≤ 400 ∧ 2 ≤ ks.length ∧ ks.length ≤ 40 ∧ (∀ x, ks[0]? = some x → x = 0) ∧ (∀ x, ks[ks.length - 1]? = some x → x = L) ∧
    ∀ (i : Nat) x y, ks[i]? = some x → ks[i + 1]? = some y → x < y

theorem sub1 (k : Nat) (h : k < 4611686018427387904) : Value.int .i64 (IntKind.i64.wrap (((k + 1 : Nat) : Int) - 1)) = .int .i64 ((k : Nat) : Int) := by
  rw [nw (by show (-9223372036854775808 : Int) ≤ _; omega) (by show _ ≤ (9223372036854775807 : Int); omega)]
  congr 1; omega
theorem subn (n : Nat) (h1 : 1 ≤ n) (h : n < 4611686018427387904) : Value.int .i64 (IntKind.i64.wrap ((n : Int) - 1)) = .int .i64 ((n - 1 : Nat) : Int) := by
  rw [nw (by show (-9223372036854775808 : Int) ≤ _; omega) (by show _ ≤ (9223372036854775807 : Int); omega)]
  congr 1; omega

theorem beqb {b : Bool} {p : Prop} {x y : Int} (hb : b = true ↔ p) (h : p ↔ x = y) : Value.bool (x == y) = Value.bool b := by
  by_cases e : x = y
  · rw [hb.mpr (h.mpr e), beq_iff_eq.mpr e]
  · rw [← bf hb (fun q => e (h.mp q)), beq_eq_false_iff_ne.mpr e]

theorem mk16_at {k : Int} {n i : Nat} (h : i < n) : (mk16 k n)[i]? = some (IntKind.i16.wrap (k + i)) := by
  obtain ⟨x, hx⟩ := get_lt (l := mk16 k n) (by rw [mk16_len]; exact h)
  rw [hx, mk16_get hx]
theorem mk64_at {k : Int} {n i : Nat} (h : i < n) : (mk64 k n)[i]? = some (k + i) := by
  obtain ⟨x, hx⟩ := get_lt (l := mk64 k n) (by rw [mk64_len]; exact h)
  rw [hx, mk64_get hx]
theorem mkHold_at {k : Int} {n i : Nat} (h : i < n) : (mkHold k n)[i]? = some ⟨IntKind.i16.wrap (k + 2 * i), IntKind.i8.wrap (k + 2 * i + 1)⟩ := by
  obtain ⟨x, hx⟩ := get_lt (l := mkHold k n) (by rw [mkHold_len]; exact h)
  rw [hx, mkHold_get hx]
theorem mkSaid_at {k : Int} {n i : Nat} (h : i < n) : (mkSaid k n)[i]? = some ⟨k + 2 * i, k + 2 * i + 1⟩ := by
  obtain ⟨x, hx⟩ := get_lt (l := mkSaid k n) (by rw [mkSaid_len]; exact h)
  rw [hx, mkSaid_get hx]
theorem hold_set2 {z : List Hold} {i : Nat} {a b : Int} (h : i < z.length) :
    ((fl hold z).set (0 + ((i : Nat) : Int).toNat * 2 + 0) (.int .i16 a)).set (0 + ((i : Nat) : Int).toNat * 2 + 1) (.int .i8 b) = fl hold (z.set i ⟨a, b⟩) := by
  rw [fl_setz hold_len ⟨a, z[i].knot⟩ (get_some h) (by decide) rfl, fl_setz hold_len ⟨a, b⟩ (x := ⟨a, z[i].knot⟩) (by rw [List.getElem?_set_self h]) (by decide) rfl, List.set_set]
theorem said_set2 {z : List Said} {i : Nat} {a b : Int} (h : i < z.length) :
    ((fl said z).set (0 + ((i : Nat) : Int).toNat * 2 + 0) (.int .i64 a)).set (0 + ((i : Nat) : Int).toNat * 2 + 1) (.int .i64 b) = fl said (z.set i ⟨a, b⟩) := by
  rw [fl_setz said_len ⟨a, z[i].check⟩ (get_some h) (by decide) rfl, fl_setz said_len ⟨a, b⟩ (x := ⟨a, z[i].check⟩) (by rw [List.getElem?_set_self h]) (by decide) rfl, List.set_set]

theorem app_snoc {α : Type} {e : α → List Value} {l : List α} {k : Nat} {x : α} (h : l[k]? = some x) : (fl e (l.take k)).drop 0 ++ e x = fl e (l.take (k + 1)) := by
  rw [List.drop_zero, List.take_add_one, h]; exact (fl_snoc e _ x).symm

theorem no {p : Prop} (h : ¬ p) : false = true ↔ p := ⟨fun e => (nomatch e), fun e => absurd e h⟩
theorem yes {p : Prop} (h : p) : true = true ↔ p := ⟨fun _ => h, fun _ => rfl⟩

/-- How far the knots are apart. -/
def gaps (ks : List Int) : List Int := (List.range (ks.length - 1)).map fun i => ks.getD (i + 1) 0 - ks.getD i 0
theorem gaps_len (ks : List Int) : (gaps ks).length = ks.length - 1 := by simp [gaps]
theorem gaps_at {ks : List Int} {k : Nat} {x y : Int} (hx : ks[k]? = some x) (hy : ks[k + 1]? = some y) : (gaps ks)[k]? = some (y - x) := by
  have h := (List.getElem?_eq_some_iff.mp hy).1
  simp [gaps, List.getElem?_range (show k < ks.length - 1 by omega), hx, hy]

/-- The size of a number; the knot that is nearest. -/
def dist (n : Int) : Int := if 0 - n < n then n else 0 - n
def near (ks : List Int) (a : Int) : Nat → Nat
  | 0 => 0
  | k + 1 => if dist (ks.getD (k + 1) 0 - a) < dist (ks.getD (near ks a k) 0 - a) then k + 1 else near ks a k
theorem near_le (ks : List Int) (a : Int) (k : Nat) : near ks a k ≤ k := by
  induction k with
  | zero => exact Nat.le_refl _
  | succ k ih => unfold near; split <;> omega
theorem near_yes {ks : List Int} {a x z : Int} {i : Nat} (hx : ks[i]? = some x) (hz : ks[near ks a (i - 1)]? = some z) (h : dist (x - a) < dist (z - a)) : near ks a i = i := by
  cases i with
  | zero => rfl
  | succ k =>
    rw [near, if_pos]
    rw [List.getD_eq_getElem?_getD, List.getD_eq_getElem?_getD, hx]
    rw [Nat.add_sub_cancel] at hz
    rw [hz]; exact h
theorem near_no {ks : List Int} {a x z : Int} {i : Nat} (hx : ks[i]? = some x) (hz : ks[near ks a (i - 1)]? = some z) (h : ¬ dist (x - a) < dist (z - a)) : near ks a i = near ks a (i - 1) := by
  cases i with
  | zero => rfl
  | succ k =>
    rw [near, if_neg, Nat.add_sub_cancel]
    rw [List.getD_eq_getElem?_getD, List.getD_eq_getElem?_getD, hx]
    rw [Nat.add_sub_cancel] at hz
    rw [hz]; exact h
theorem dist_bnd {n : Int} (h : -1000000 ≤ n ∧ n ≤ 1000000) : 0 ≤ dist n ∧ dist n ≤ 1000000 := by unfold dist; split <;> omega

theorem okRope.mono {L : Int} {ks : List Int} (h : okRope L ks) : ∀ (i j : Nat) x y, i ≤ j → ks[i]? = some x → ks[j]? = some y → x ≤ y := by
  intro i j
  induction j with
  | zero => intro x y hij hx hy; obtain rfl : i = 0 := by omega
            rw [hx] at hy; cases hy; omega
  | succ j ih =>
    intro x y hij hx hy
    rcases Nat.lt_or_ge i (j + 1) with h1 | h1
    · obtain ⟨z, hz⟩ := get_lt (l := ks) (i := j) (by have := (List.getElem?_eq_some_iff.mp hy).1; omega)
      have := ih x z (by omega) hx hz
      have := h.2.2.2.2.2.2 j z y hz hy
      omega
    · obtain rfl : i = j + 1 := by omega
      rw [hx] at hy; cases hy; omega
theorem okRope.bnd {L : Int} {ks : List Int} (h : okRope L ks) {i : Nat} {x : Int} (hx : ks[i]? = some x) : 0 ≤ x ∧ x ≤ L := by
  have hi := (List.getElem?_eq_some_iff.mp hx).1
  obtain ⟨a, ha⟩ := get_lt (l := ks) (i := 0) (by omega)
  obtain ⟨z, hz⟩ := get_lt (l := ks) (i := ks.length - 1) (by omega)
  have h1 := h.mono 0 i a x (by omega) ha hx
  have h2 := h.mono i (ks.length - 1) x z (by omega) hx hz
  have h3 := h.2.2.2.2.1 a ha
  have h4 := h.2.2.2.2.2.1 z hz
  omega

/-- Valid holds. -/
def inRange (n : Nat) (x : Hold) : Prop := 0 ≤ x.who ∧ x.who ≤ 999 ∧ 0 ≤ x.knot ∧ x.knot + 1 ≤ n
def goodAt (n : Nat) (hs : List Hold) (i : Nat) : Prop :=
  ∀ x, hs[i]? = some x → inRange n x ∧ (∀ (j : Nat) y, i = j + 1 → hs[j]? = some y → y.knot < x.knot) ∧ (∀ (j : Nat) y, j < i → hs[j]? = some y → y.who ≠ x.who)
def okHolds (n : Nat) (hs : List Hold) : Prop := ∀ i, goodAt n hs i
def holdOk (hs : List Hold) : Prop := ∀ x ∈ hs, (-32768 ≤ x.who ∧ x.who ≤ 32767) ∧ (-128 ≤ x.knot ∧ x.knot ≤ 127)

/-- The first one, or -1. -/
def firstAt (p : Nat → Prop) (m : Nat) (r : Int) : Prop := (r = -1 ∧ ∀ j, j < m → ¬ p j) ∨ ∃ k : Nat, k < m ∧ r = k ∧ p k ∧ ∀ j, j < k → ¬ p j
theorem exists_first (p : Nat → Prop) (m : Nat) : ∃ r, firstAt p m r := by
  induction m with
  | zero => exact ⟨-1, .inl ⟨rfl, fun j h => by omega⟩⟩
  | succ m ih =>
    obtain ⟨r, ⟨h1, h2⟩ | ⟨k, h1, h2, h3, h4⟩⟩ := ih
    · by_cases h : p m
      · exact ⟨m, .inr ⟨m, by omega, rfl, h, h2⟩⟩
      · refine ⟨-1, .inl ⟨rfl, fun j hj => ?_⟩⟩
        rcases Nat.lt_or_ge j m with h5 | h5
        · exact h2 j h5
        · obtain rfl : j = m := by omega
          exact h
    · exact ⟨r, .inr ⟨k, by omega, h2, h3, h4⟩⟩
theorem firstAt_hit {p : Nat → Prop} {m : Nat} {r : Int} (h : firstAt p m r) {i : Nat} (hi : i < m) (hp : p i) (hb : ∀ j, j < i → ¬ p j) : (i : Int) = r := by
  rcases h with ⟨_, h⟩ | ⟨k, h1, h2, h3, h4⟩
  · exact absurd hp (h i hi)
  · rcases Nat.lt_trichotomy i k with h5 | h5 | h5
    · exact absurd hp (h4 i h5)
    · omega
    · exact absurd h3 (hb k h5)
theorem firstAt_none {p : Nat → Prop} {m : Nat} {r : Int} (h : firstAt p m r) (hb : ∀ j, j < m → ¬ p j) : (-1 : Int) = r := by
  rcases h with ⟨h, _⟩ | ⟨k, h1, h2, h3, h4⟩
  · omega
  · exact absurd h3 (hb k h1)
theorem firstAt_ge {p : Nat → Prop} {m : Nat} {r : Int} (h : firstAt p m r) : 0 ≤ r ↔ ∃ j, j < m ∧ p j := by
  rcases h with ⟨h, h'⟩ | ⟨k, h1, h2, h3, h4⟩
  · exact ⟨fun q => by omega, fun ⟨j, q1, q2⟩ => absurd q2 (h' j q1)⟩
  · exact ⟨fun _ => ⟨k, h1, h3⟩, fun _ => by omega⟩
theorem bdec {b : Bool} {p q : Prop} [Decidable q] (hb : b = true ↔ p) (h : p ↔ q) : Value.bool (decide q) = Value.bool b := by
  by_cases e : q
  · rw [hb.mpr (h.mpr e), decide_eq_true e]
  · rw [← bf hb (fun z => e (h.mp z)), decide_eq_false e]
theorem beqv {b c : Bool} {p : Prop} (hb : b = true ↔ p) (h : c = true ↔ p) : Value.bool c = Value.bool b := by
  congr 1; rw [Bool.eq_iff_iff, hb, h]

theorem take_hit {α : Type} {l : List α} {i j : Nat} {y : α} {p : Prop} (h : (l.take i)[j]? = some y) (k : j < i → l[j]? = some y → p) : p := by
  rw [List.getElem?_take] at h
  split at h
  · exact k (by assumption) h
  · cases h

end Go.AW

/- Slices against nil. -/
set_option linter.unusedVariables false
namespace Go.AW
open Go
section
variable {P : Program} {d : Option Tmp} {ty : TypeId} {pos : String} {aft : Array Edge} {g : Option (Nat × Bool)} {ρ : Operand → Value} {H : AHeap}
theorem run_eqlSN (w : World) (t e : TypeId) (a : Option Addr) (l c : Nat) (h : P.underlying t = some (.slice e)) : (binOp .eql t (.slice a l c) (.slice none 0 0)).run P w = .ok (.bool a.isNone) w := by
  simp only [binOp]
  simp [run_equal_slice_nil w t e a l c h]
theorem ao_eqSN {t e yt : TypeId} {x y : Operand} {a : Addr} {n c : Nat} (hu : P.underlying t = some (.slice e)) (hx : ρ x = .slice (some a) n c) (hy : ρ y = .slice none 0 0) : AOd P ⟨d, .binOp .eql t x y yt, ty, pos, aft, g⟩ ρ H (.bool false) H :=
  AO.pure fun β ρ' w h hh => by
    have q1 := h x (by simp [Op.operands]); rw [hx] at q1
    have q2 := h y (by simp [Op.operands]); rw [hy] at q2
    obtain ⟨a', c', ha, hA⟩ := q1.slice_inv
    refine ⟨_, ?_, .bool _⟩
    simp [execOp, ha, q2.nil_inv, go_sem, eqGuard, run_eqlSN w t e _ _ _ hu]
theorem ao_neSN {t e yt : TypeId} {x y : Operand} {a : Addr} {n c : Nat} (hu : P.underlying t = some (.slice e)) (hx : ρ x = .slice (some a) n c) (hy : ρ y = .slice none 0 0) : AOd P ⟨d, .binOp .neq t x y yt, ty, pos, aft, g⟩ ρ H (.bool true) H :=
  AO.pure fun β ρ' w h hh => by
    have q1 := h x (by simp [Op.operands]); rw [hx] at q1
    have q2 := h y (by simp [Op.operands]); rw [hy] at q2
    obtain ⟨a', c', ha, hA⟩ := q1.slice_inv
    refine ⟨_, ?_, .bool _⟩
    simp [execOp, ha, q2.nil_inv, go_sem, eqGuard, run_neq_slice_nil w t e _ _ _ hu]
theorem ao_eqNN {t e yt : TypeId} {x y : Operand} (hu : P.underlying t = some (.slice e)) (hx : ρ x = .slice none 0 0) (hy : ρ y = .slice none 0 0) : AOd P ⟨d, .binOp .eql t x y yt, ty, pos, aft, g⟩ ρ H (.bool true) H :=
  AO.pure fun β ρ' w h hh => by
    have q1 := h x (by simp [Op.operands]); rw [hx] at q1
    have q2 := h y (by simp [Op.operands]); rw [hy] at q2
    refine ⟨_, ?_, .bool _⟩
    simp [execOp, q1.nil_inv, q2.nil_inv, go_sem, eqGuard, run_eqlSN w t e _ _ _ hu]
theorem ao_appZ {t tx e : TypeId} {s x : Operand} {b o m size bytes : Nat} {xv : Value} {news : List Value} (ht : P.underlying t = some (.slice e)) (htx : ∃ e2, P.underlying tx = some (.slice e2)) (he : Elem P e size bytes)
    (hs : ρ s = .slice (some ⟨b, o, none⟩) 0 0) (hx : ρ x = xv) (hsrc : Src H size xv m news) (h0 : 0 < m) (h63 : m ≤ 9223372036854775807) (hby : m * bytes ≤ 140737488355328) :
    AOd P ⟨d, .call ⟨.builtin .append, #[s, x], #[t, tx]⟩, ty, pos, aft, g⟩ ρ H (.slice (some ⟨H.next, 0, none⟩) m (m + 1)) (H.push (.cells news size)) := by
  have := ao_appE (k := .map []) (cs := []) (d := d) (ty := ty) (pos := pos) (aft := aft) (g := g) ht htx he hs hx (.inl ⟨rfl, rfl⟩) hsrc h0 (by omega) (by rw [Nat.zero_add]; exact hby)
  rwa [Nat.zero_add] at this
end

/-- Holds that have closed up. -/
def closeL (hs : List Hold) : List Hold := hs.mapIdx fun i h => ⟨h.who, IntKind.i8.wrap i⟩
theorem closeL_len (hs : List Hold) : (closeL hs).length = hs.length := by simp [closeL]
theorem closeL_at {hs : List Hold} {i : Nat} {x : Hold} (h : hs[i]? = some x) : (closeL hs)[i]? = some ⟨x.who, IntKind.i8.wrap i⟩ := by
  simp [closeL, List.getElem?_mapIdx, h]

/-- How far holds are apart. -/
def knotOf (hs : List Hold) (i : Nat) : Nat := (hs.getD i ⟨0, 0⟩).knot.toNat
def hgaps (ks : List Int) (hs : List Hold) : List Int := (List.range (hs.length - 1)).map fun i => ks.getD (knotOf hs (i + 1)) 0 - ks.getD (knotOf hs i) 0
theorem hgaps_len (ks : List Int) (hs : List Hold) : (hgaps ks hs).length = hs.length - 1 := by simp [hgaps]
theorem knotOf_at {hs : List Hold} {i : Nat} {x : Hold} (h : hs[i]? = some x) : knotOf hs i = x.knot.toNat := by
  unfold knotOf; rw [List.getD_eq_getElem?_getD, h]; rfl
theorem hgaps_at {ks : List Int} {hs : List Hold} {k : Nat} {x y : Hold} {a b : Int} (hx : hs[k]? = some x) (hy : hs[k + 1]? = some y) (ha : ks[x.knot.toNat]? = some a) (hb : ks[y.knot.toNat]? = some b) : (hgaps ks hs)[k]? = some (b - a) := by
  have h := (List.getElem?_eq_some_iff.mp hy).1
  simp [hgaps, List.getElem?_range (show k < hs.length - 1 by omega), knotOf_at hx, knotOf_at hy, ha, hb]
end Go.AW

/- Facts of the program's head, read once. -/
namespace Go.AW
open Go

/-! the words at the head of a program's order of start: read once, out of a long text -/
theorem strip_cut (r : List (List Char)) : stripLifts liftWords ("cut".toList :: r) = ([], "cut".toList :: r) := by
  simp [stripLifts, liftWords]

theorem words_of {P : Program} (h : ∃ L, P.initOrder = String.ofList L ∧ (behindMainWord (wordsSigns L)).head? = some "cut".toList) : ∃ r, behindMainWord (wordsSigns P.initOrder.toList) = "cut".toList :: r := by
  obtain ⟨L, h1, h2⟩ := h
  rw [h1, String.toList_ofList]
  cases hb : behindMainWord (wordsSigns L) with
  | nil => rw [hb] at h2; cases h2
  | cons a r => rw [hb] at h2; exact ⟨r, by rw [Option.some.inj h2]⟩

theorem make_of {P : Program} (h : ∃ r, behindMainWord (wordsSigns P.initOrder.toList) = "cut".toList :: r) : P.make = some .cut := by
  obtain ⟨r, h⟩ := h
  unfold Program.make
  rw [h]
  simp

theorem lifts_of {P : Program} (h : ∃ r, behindMainWord (wordsSigns P.initOrder.toList) = "cut".toList :: r) : P.liftsFinal = false := by
  obtain ⟨r, h⟩ := h
  unfold Program.liftsFinal Program.headLifts
  simp only [h, strip_cut]
  simp

theorem enter_of {P : Program} (h : ∃ r, behindMainWord (wordsSigns P.initOrder.toList) = "cut".toList :: r) (h1 : P.laysLater = false) (h2 : P.bearsReflect = false) (h3 : P.doorFits [] = true) : P.mayEnter = true := by
  obtain ⟨r, h⟩ := h
  unfold Program.mayEnter
  rw [h]
  simp only [strip_cut]
  simp [h1, h2, h3]

end Go.AW

/- Counts along a rope, the first fault of a count, even ropes. -/
namespace Go.AW
open Go
set_option linter.unusedVariables false

def nextS (s : Said) (who : Int) : Said := ⟨s.number + 1, (7 * s.check + who + 1) % 97⟩
def countS (hs : List Hold) : Nat → Said
  | 0 => ⟨0, 0⟩
  | k + 1 => nextS (countS hs k) (hs.getD k ⟨0, 0⟩).who
theorem countS_at {hs : List Hold} {k : Nat} {x : Hold} (h : hs[k]? = some x) : nextS (countS hs k) x.who = countS hs (k + 1) := by
  show _ = nextS _ _
  rw [List.getD_eq_getElem?_getD, h]; rfl
theorem countS_num (hs : List Hold) (k : Nat) : (countS hs k).number = k := by
  induction k with
  | zero => rfl
  | succ k ih => show (countS hs k).number + 1 = _; rw [ih]; omega
theorem countS_chk (hs : List Hold) (k : Nat) : 0 ≤ (countS hs k).check ∧ (countS hs k).check < 97 := by
  cases k with
  | zero => show (0 : Int) ≤ 0 ∧ (0 : Int) < 97; omega
  | succ k => show 0 ≤ (7 * _ + _ + 1 : Int) % 97 ∧ (7 * _ + _ + 1 : Int) % 97 < 97; omega
theorem countS_bnd (hs : List Hold) (k : Nat) (h : k ≤ 4194304) : 0 ≤ (countS hs k).number ∧ (countS hs k).number ≤ 4194304 ∧ 0 ≤ (countS hs k).check ∧ (countS hs k).check < 97 := by
  have h1 := countS_num hs k
  have h2 := countS_chk hs k
  omega
def counts (hs : List Hold) : List Said := (List.range hs.length).map fun i => countS hs (i + 1)
theorem counts_len (hs : List Hold) : (counts hs).length = hs.length := by simp [counts]
theorem counts_at {hs : List Hold} {i : Nat} (h : i < hs.length) : (counts hs)[i]? = some (countS hs (i + 1)) := by
  simp [counts, List.getElem?_range h]

theorem okHolds_ge {n : Nat} {hs : List Hold} (h : okHolds n hs) : ∀ (i : Nat) x, hs[i]? = some x → (i : Int) ≤ x.knot := by
  intro i
  induction i with
  | zero => intro x hx; have := (h 0 x hx).1; unfold inRange at this; omega
  | succ i ih =>
    intro x hx
    obtain ⟨y, hy⟩ := get_lt (show i < hs.length by have := (List.getElem?_eq_some_iff.mp hx).1; omega)
    have h1 := ih y hy
    have h2 := (h (i + 1) x hx).2.1 i y rfl hy
    omega
theorem okHolds_len {n : Nat} {hs : List Hold} (h : okHolds n hs) : hs.length ≤ n := by
  rcases Nat.eq_zero_or_pos hs.length with e | e
  · omega
  · obtain ⟨x, hx⟩ := get_lt (show hs.length - 1 < hs.length by omega)
    have h1 := okHolds_ge h _ x hx
    have h2 := (h _ x hx).1
    unfold inRange at h2; omega

def faultAt (hs : List Hold) (sd : List Said) (j : Nat) : Prop := sd[j]? ≠ some (countS hs (j + 1))
def faultV (n m : Nat) (r : Int) : Value := .tuple #[.int .i64 (if 0 ≤ r then r else if n < m then n else 0), .int .i64 (if 0 ≤ r then 0 else if n < m then 0 else 6)]
theorem faultV_hit {n m i : Nat} {r : Int} (h : (i : Int) = r) : Value.tuple #[.int .i64 i, .int .i64 0] = faultV n m r := by
  subst h; unfold faultV; rw [if_pos (by omega), if_pos (by omega)]
theorem faultV_more {n m : Nat} {r : Int} (h : (-1 : Int) = r) (hm : n < m) : Value.tuple #[.int .i64 n, .int .i64 0] = faultV n m r := by
  subst h; unfold faultV; rw [if_neg (by omega), if_pos hm, if_neg (by omega), if_pos hm]
theorem faultV_none {n m : Nat} {r : Int} (h : (-1 : Int) = r) (hm : ¬ n < m) : Value.tuple #[.int .i64 0, .int .i64 6] = faultV n m r := by
  subst h; unfold faultV; rw [if_neg (by omega), if_neg hm, if_neg (by omega), if_neg hm]

/-- What a cut leaves behind. -/
def cutB (ks : List Int) (k : Nat) (x : Int) : List Int := (ks.drop k).map fun y => y - x
theorem cutB_len (ks : List Int) (k : Nat) (x : Int) : (cutB ks k x).length = ks.length - k := by simp [cutB]
theorem cutB_at {ks : List Int} {k i : Nat} {x y : Int} (h : ks[k + i]? = some y) : (cutB ks k x)[i]? = some (y - x) := by
  simp [cutB, List.getElem?_drop, h]

/-- The knots of an even rope, without the last one: 0, gap, 2 gap .. below long. -/
def evens (gap : Int) : Nat → List Int
  | 0 => []
  | n + 1 => evens gap n ++ [gap * n]
theorem evens_len (gap : Int) (n : Nat) : (evens gap n).length = n := by
  induction n with
  | zero => rfl
  | succ n ih => show (evens gap n ++ [_]).length = _; rw [List.length_append, ih]; rfl
def evenL (long gap : Int) (n : Nat) : List Int := evens gap n ++ [long]
theorem evenL_len (long gap : Int) (n : Nat) : (evenL long gap n).length = n + 1 := by
  unfold evenL; rw [List.length_append, evens_len]; rfl
theorem evens_succ (gap : Int) (n : Nat) : (fl i16 (evens gap n)).drop 0 ++ [.int .i16 (gap * (n : Int))] = fl i16 (evens gap (n + 1)) := (fl_snoc i16 (evens gap n) (gap * (n : Int))).symm
theorem evens_one (gap : Int) : fl i16 (evens gap (0 + 1)) = [.int .i16 0] := by
  show [Value.int .i16 (gap * ((0 : Nat) : Int))] = _
  simp
theorem evens_end (long gap : Int) (n : Nat) : (fl i16 (evens gap n)).drop 0 ++ [.int .i16 long] = fl i16 (evenL long gap n) := (fl_snoc i16 (evens gap n) long).symm
/-- The number of knots of an even rope but the last one. -/
def evenN (long s : Int) (n : Nat) : Prop := 0 < s ∧ 1 ≤ n ∧ s * ((n - 1 : Nat) : Int) < long ∧ long ≤ s * (n : Int)
theorem evenN_at {long s : Int} {n j : Nat} (h : evenN long s n) (h1 : 1 ≤ j) (h2 : s * ((j - 1 : Nat) : Int) < long) (h3 : long ≤ s * (j : Int)) : j = n := by
  obtain ⟨g0, g1, g2, g3⟩ := h
  have a1 : ((n - 1 : Nat) : Int) < (j : Int) := Int.lt_of_mul_lt_mul_left (Int.lt_of_lt_of_le g2 h3) (Int.le_of_lt g0)
  have a2 : ((j - 1 : Nat) : Int) < (n : Int) := Int.lt_of_mul_lt_mul_left (Int.lt_of_lt_of_le h2 g3) (Int.le_of_lt g0)
  omega
theorem exists_evenN {long s : Int} (h1 : 1 ≤ long) (hs : 1 ≤ s) : ∃ n, evenN long s n := by
  have key : ∀ m : Nat, (∃ n, evenN long s n) ∨ s * (m : Int) < long := by
    intro m
    induction m with
    | zero => right; simp; omega
    | succ m ih =>
      rcases ih with ih | ih
      · exact .inl ih
      · by_cases h : s * ((m + 1 : Nat) : Int) < long
        · exact .inr h
        · exact .inl ⟨m + 1, by omega, by omega, by simpa using ih, by omega⟩
  rcases key long.toNat with h | h
  · exact h
  · exfalso
    have : (1 : Int) * (long.toNat : Int) ≤ s * (long.toNat : Int) := Int.mul_le_mul_of_nonneg_right hs (by omega)
    omega
/-- Steps that are as long as the rope, or longer, come to one knot. -/
theorem evenN_big {long s : Int} {n : Nat} (h : evenN long s n) (hb : long ≤ s) : n = 1 :=
  (evenN_at h (Nat.le_refl 1) (by have := h.2.2.1; have : (0 : Int) ≤ s * ((n - 1 : Nat) : Int) := Int.mul_nonneg (Int.le_of_lt h.1) (by omega); simp; omega) (by simpa using hb)).symm
theorem evenN_min {long gap : Int} {n : Nat} (h1 : 1 ≤ long) (hg : 1 ≤ gap) (ht : long ≤ 400) (h : evenN long (if gap < 400 then gap else 400) n) : evenN long (if long < gap then long else gap) n := by
  by_cases hb : long < gap
  · rw [if_pos hb]
    have hn : n = 1 := evenN_big h (by split <;> omega)
    subst hn
    exact ⟨by omega, Nat.le_refl 1, by simp; omega, by simp⟩
  · rw [if_neg hb]
    by_cases hc : gap < 400
    · rwa [if_pos hc] at h
    · rw [if_neg hc] at h
      have : gap = 400 := by omega
      rwa [this]
theorem even_step (s : Int) (j : Nat) : s * (j : Int) + s = s * ((j + 1 : Nat) : Int) := by
  rw [Int.natCast_add, Int.mul_add]; simp
theorem even_one (s : Int) : (0 : Int) + s = s * ((0 + 1 : Nat) : Int) := by simp
/-- The next knot: j steps are j gaps. -/
theorem even_knot {long gap s : Int} {j : Nat} (h1 : s * (j : Int) < long) (hs : s = gap ∨ long ≤ s) (h0 : 0 < s) : s * (j : Int) = gap * (j : Int) := by
  rcases hs with rfl | hs
  · rfl
  · have : j = 0 := by
      rcases Nat.eq_zero_or_pos j with e | e
      · exact e
      · exfalso
        have : s * (1 : Int) ≤ s * (j : Int) := Int.mul_le_mul_of_nonneg_left (by omega) (Int.le_of_lt h0)
        omega
    subst this; simp
theorem srcn {H : AHeap} {es n m : Nat} {v : Value} {cs : List Value} (h : Src H es v n cs) (e : n = m) : Src H es v m cs := e ▸ h
theorem drop_at {α : Type} {z l : List α} {i k : Nat} {y : α} (hd : z.drop i = (l.drop k).drop i) (h : l[k + i]? = some y) : z[i]? = some y := by
  have := congrArg (·[0]?) hd
  simpa [List.getElem?_drop, h] using this
end Go.AW

/- Rooms: their cells, bits of their rows, what is free. -/
namespace Go.AW
open Go
set_option linter.unusedVariables false

/-- A room: its sides, and its rows as numbers. -/
structure Room where
  w : Int
  h : Int
  f : Nat → Nat
def roomC (r : Room) : List Value := [.int .i8 r.w, .int .i8 r.h, .int .u16 (r.f 0 : Nat), .int .u16 (r.f 1 : Nat), .int .u16 (r.f 2 : Nat), .int .u16 (r.f 3 : Nat), .int .u16 (r.f 4 : Nat), .int .u16 (r.f 5 : Nat), .int .u16 (r.f 6 : Nat), .int .u16 (r.f 7 : Nat), .int .u16 (r.f 8 : Nat), .int .u16 (r.f 9 : Nat)]
def wallsC (f : Nat → Nat) : List Value := [.int .u16 (f 0 : Nat), .int .u16 (f 1 : Nat), .int .u16 (f 2 : Nat), .int .u16 (f 3 : Nat), .int .u16 (f 4 : Nat), .int .u16 (f 5 : Nat), .int .u16 (f 6 : Nat), .int .u16 (f 7 : Nat), .int .u16 (f 8 : Nat), .int .u16 (f 9 : Nat)]
def putF (f : Nat → Nat) (y v : Nat) : Nat → Nat := fun j => if j = y then v else f j
def Room.put (r : Room) (y v : Nat) : Room := ⟨r.w, r.h, putF r.f y v⟩
theorem ten {p : Nat → Prop} (h0 : p 0) (h1 : p 1) (h2 : p 2) (h3 : p 3) (h4 : p 4) (h5 : p 5) (h6 : p 6) (h7 : p 7) (h8 : p 8) (h9 : p 9) (y : Nat) (hy : y < 10) : p y := by
  match y, hy with
  | 0, _ => exact h0
  | 1, _ => exact h1
  | 2, _ => exact h2
  | 3, _ => exact h3
  | 4, _ => exact h4
  | 5, _ => exact h5
  | 6, _ => exact h6
  | 7, _ => exact h7
  | 8, _ => exact h8
  | 9, _ => exact h9
theorem roomC_at (r : Room) (y : Nat) (hy : y < 10) : (roomC r)[2 + y]? = some (.int .u16 (r.f y : Nat)) :=
  ten (p := fun y => (roomC r)[2 + y]? = some (.int .u16 (r.f y : Nat))) rfl rfl rfl rfl rfl rfl rfl rfl rfl rfl y hy
theorem wallsC_at (f : Nat → Nat) (y : Nat) (hy : y < 10) : (wallsC f)[y]? = some (.int .u16 (f y : Nat)) :=
  ten (p := fun y => (wallsC f)[y]? = some (.int .u16 (f y : Nat))) rfl rfl rfl rfl rfl rfl rfl rfl rfl rfl y hy
theorem roomC_put (r : Room) (y v : Nat) (hy : y < 10) : (roomC r).set (2 + y) (.int .u16 (v : Nat)) = roomC (r.put y v) :=
  ten (p := fun y => (roomC r).set (2 + y) (.int .u16 (v : Nat)) = roomC (r.put y v)) rfl rfl rfl rfl rfl rfl rfl rfl rfl rfl y hy
theorem wallsC_put (f : Nat → Nat) (y v : Nat) (hy : y < 10) : (wallsC f).set y (.int .u16 (v : Nat)) = wallsC (putF f y v) :=
  ten (p := fun y => (wallsC f).set y (.int .u16 (v : Nat)) = wallsC (putF f y v)) rfl rfl rfl rfl rfl rfl rfl rfl rfl rfl y hy
theorem wallsC_plain (f : Nat → Nat) : (wallsC f).all plain1 = true := rfl
theorem roomC_plain (r : Room) : (roomC r).all plain1 = true := rfl
theorem roomC_ext {r s : Room} (h : roomC r = roomC s) : r.w = s.w ∧ r.h = s.h ∧ ∀ y, y < 10 → r.f y = s.f y := by
  unfold roomC at h
  simp only [List.cons.injEq, Value.int.injEq, true_and, and_true, Int.ofNat_inj] at h
  obtain ⟨h0, h1, a0, a1, a2, a3, a4, a5, a6, a7, a8, a9⟩ := h
  exact ⟨h0, h1, ten (p := fun y => r.f y = s.f y) a0 a1 a2 a3 a4 a5 a6 a7 a8 a9⟩
theorem roomC_congr {r s : Room} (hw : r.w = s.w) (hh : r.h = s.h) (hf : ∀ y, y < 10 → r.f y = s.f y) : roomC r = roomC s := by
  unfold roomC
  rw [hw, hh, hf 0 (by omega), hf 1 (by omega), hf 2 (by omega), hf 3 (by omega), hf 4 (by omega), hf 5 (by omega), hf 6 (by omega), hf 7 (by omega), hf 8 (by omega), hf 9 (by omega)]
theorem wallsC_congr {f g : Nat → Nat} (hf : ∀ y, y < 10 → f y = g y) : wallsC f = wallsC g := by
  unfold wallsC
  rw [hf 0 (by omega), hf 1 (by omega), hf 2 (by omega), hf 3 (by omega), hf 4 (by omega), hf 5 (by omega), hf 6 (by omega), hf 7 (by omega), hf 8 (by omega), hf 9 (by omega)]

def rowsOk (f : Nat → Nat) : Prop := ∀ y, f y < 65536
def wfRoom (r : Room) : Prop := (-128 ≤ r.w ∧ r.w ≤ 127) ∧ (-128 ≤ r.h ∧ r.h ≤ 127) ∧ rowsOk r.f
def rowOk (r : Room) (y : Nat) : Prop := r.f y < 2 ^ r.w.toNat ∧ (r.h ≤ (y : Int) → r.f y = 0)
def okRoom (r : Room) : Prop := 1 ≤ r.w ∧ r.w ≤ 10 ∧ 1 ≤ r.h ∧ r.h ≤ 10 ∧ ∀ y, y < 10 → rowOk r y
def isCell (r : Room) (s : Spot) : Prop := 0 ≤ s.x ∧ s.x < r.w ∧ s.x < 10 ∧ 0 ≤ s.y ∧ s.y < r.h ∧ s.y < 10
def bitAt (f : Nat → Nat) (s : Spot) : Bool := (f s.y.toNat).testBit s.x.toNat
def isFree (r : Room) (s : Spot) : Prop := isCell r s ∧ bitAt r.f s = false
def wfSpot (s : Spot) : Prop := (-128 ≤ s.x ∧ s.x ≤ 127) ∧ (-128 ≤ s.y ∧ s.y ≤ 127)

theorem shr16 (a : Nat) (n : Int) (h0 : 0 ≤ n) (h1 : n ≤ 16) : Value.int .u16 (((a : Nat) : Int).fdiv (2 ^ (min n.toNat IntKind.u16.bits))) = .int .u16 ((a / 2 ^ n.toNat : Nat) : Int) := by
  have : min n.toNat IntKind.u16.bits = n.toNat := by show min n.toNat 16 = _; omega
  rw [this]
  congr 1
  rw [Int.fdiv_eq_ediv_of_nonneg _ (by exact Int.pow_nonneg (by decide))]
  norm_cast
theorem and16 (a : Nat) (h : a < 65536) : Value.int .u16 (bitsOf .and .u16 (a : Int) 1) = .int .u16 ((a % 2 : Nat) : Int) := by
  congr 1
  unfold bitsOf
  show IntKind.u16.wrap ((BitVec.ofInt 16 (a : Int) &&& BitVec.ofInt 16 1).toNat : Int) = _
  have e : (BitVec.ofInt 16 (a : Int) &&& BitVec.ofInt 16 1).toNat = a % 2 := by
    rw [BitVec.toNat_and]
    have : (BitVec.ofInt 16 (a : Int)).toNat = a := by simp; omega
    rw [this]
    show a &&& 1 = _
    exact Nat.and_one_is_mod a
  rw [e]
  exact nw (by show (0 : Int) ≤ _; omega) (by show _ ≤ (65535 : Int); omega)
theorem bit_eq (a n : Nat) : (((a / 2 ^ n % 2 : Nat) : Int) == 0) = !a.testBit n := by
  rw [Nat.testBit_eq_decide_div_mod_eq]
  rcases Nat.mod_two_eq_zero_or_one (a / 2 ^ n) with h | h <;> rw [h] <;> rfl
theorem rem2 (a : Nat) : Value.int .u16 (((a : Nat) : Int).tmod 2) = .int .u16 ((a % 2 : Nat) : Int) := by
  congr 1
theorem row_high (a : Nat) (n : Nat) : (((a / 2 ^ n : Nat) : Int) != 0) = !decide (a < 2 ^ n) := by
  have hp : 0 < 2 ^ n := Nat.two_pow_pos n
  by_cases h : a < 2 ^ n
  · rw [Nat.div_eq_of_lt h, decide_eq_true h]; rfl
  · have : 0 < a / 2 ^ n := Nat.div_pos (by omega) hp
    rw [decide_eq_false h]
    exact bne_iff_ne.mpr (show ((a / 2 ^ n : Nat) : Int) ≠ 0 by omega)

/-- The spot on a side of another one. -/
def nextSpot (s : Spot) (side : Int) : Spot :=
  if side = 0 then ⟨s.x, IntKind.i8.wrap (s.y - 1)⟩ else if side = 1 then ⟨IntKind.i8.wrap (s.x + 1), s.y⟩
  else if side = 2 then ⟨s.x, IntKind.i8.wrap (s.y + 1)⟩ else if side = 3 then ⟨IntKind.i8.wrap (s.x - 1), s.y⟩ else s
def sideAt (a b : Spot) (j : Nat) : Prop := nextSpot a j = b
/-- The cells ahead of the cell (x, y), row by row. -/
def rowCells (y x : Nat) : List Spot := (List.range x).map fun (i : Nat) => ⟨i, y⟩
theorem rowCells_succ (y x : Nat) : rowCells y (x + 1) = rowCells y x ++ [⟨x, y⟩] := by simp [rowCells, List.range_succ]
def cellsTo (w : Nat) : Nat → Nat → List Spot
  | 0, x => rowCells 0 x
  | y + 1, x => cellsTo w y w ++ rowCells (y + 1) x
theorem cellsTo_succ (w y x : Nat) : cellsTo w y (x + 1) = cellsTo w y x ++ [⟨x, y⟩] := by
  cases y with
  | zero => exact rowCells_succ 0 x
  | succ y => show _ ++ rowCells _ _ = (_ ++ rowCells _ _) ++ _; rw [rowCells_succ, List.append_assoc]
theorem cellsTo_row (w y : Nat) : cellsTo w (y + 1) 0 = cellsTo w y w := by
  show _ ++ rowCells _ 0 = _; rw [show rowCells (y + 1) 0 = [] from rfl, List.append_nil]
def allCells (r : Room) : List Spot := cellsTo r.w.toNat r.h.toNat 0
theorem cellsTo_len (w y x : Nat) : (cellsTo w y x).length = w * y + x := by
  induction y generalizing x with
  | zero => simp [cellsTo, rowCells]
  | succ y ih => simp [cellsTo, rowCells, ih, Nat.mul_succ]
theorem mem_cellsTo {w y x : Nat} {s : Spot} (h : s ∈ cellsTo w y x) : ∃ a b : Nat, s = ⟨a, b⟩ ∧ b ≤ y ∧ ((b = y ∧ a < x) ∨ (b < y ∧ a < w)) := by
  induction y generalizing x with
  | zero =>
    obtain ⟨i, hi, rfl⟩ := List.mem_map.mp h
    exact ⟨i, 0, rfl, Nat.le_refl _, .inl ⟨rfl, List.mem_range.mp hi⟩⟩
  | succ y ih =>
    rcases List.mem_append.mp h with h | h
    · obtain ⟨a, b, e, h1, h2⟩ := ih h
      refine ⟨a, b, e, by omega, .inr ?_⟩
      rcases h2 with ⟨rfl, h2⟩ | ⟨h2, h3⟩
      · exact ⟨by omega, h2⟩
      · exact ⟨by omega, h3⟩
    · obtain ⟨i, hi, rfl⟩ := List.mem_map.mp h
      exact ⟨i, y + 1, rfl, Nat.le_refl _, .inl ⟨rfl, List.mem_range.mp hi⟩⟩
end Go.AW

/- Arguments that are plain structs and arrays: what comes in is an aggregate of plain cells. -/
namespace Go.AW
open Go Go.ChangeShapes

theorem wf_u16 {n : Int} (h : (Lit.int .u16 n).wf = true) : 0 ≤ n ∧ n < 65536 := by
  simp [Lit.wf, IntKind.min, IntKind.max, IntKind.signed, IntKind.bits] at h
  omega

/-- Ten numbers. -/
theorem dec_walls {P : Program} {t e : TypeId} (ht : P.underlying t = some (.array 10 e)) (he : P.underlying e = some (.int .u16)) (ce : P.cellsOf e = 1) (ct : P.cellsOf t = 10) : Dec P t 10 wallsC rowsOk where
  len _ := rfl
  cells := ct
  plain f := wallsC_plain f
  get {H enc w base sp held fuel cs x} h := by
    obtain ⟨xs, m, _, _, hl, hn, hall⟩ := DataW.trod_array ht h
    rw [ct] at hl
    have key : ∀ i, i < 10 → ∃ n : Nat, n < 65536 ∧ cs[i]? = some (.int .u16 (n : Int)) := by
      intro i hi
      have q := hall i hi
      rw [ce, Nat.mul_one] at q
      obtain ⟨y, hy⟩ : ∃ y, xs[i]? = some y := get_lt (by omega)
      rw [hy] at q
      obtain ⟨n, hc, hw⟩ := (dec_int (P := P) he ce).get q
      have hw' := wf_u16 hw
      refine ⟨n.toNat, by omega, ?_⟩
      have : ((cs.drop i).take 1)[0]? = some (Value.int .u16 n) := by rw [hc]; rfl
      rw [List.getElem?_take, if_pos (by omega), List.getElem?_drop, Nat.add_zero] at this
      rw [this, Int.toNat_of_nonneg hw'.1]
    have key2 : ∃ f : Nat → Nat, rowsOk f ∧ ∀ i, i < 10 → cs[i]? = some (.int .u16 (f i : Int)) := by
      refine ⟨fun i => if h : i < 10 then (key i h).choose else 0, fun y => ?_, fun i hi => ?_⟩
      · show (if h : y < 10 then (key y h).choose else 0) < 65536
        split
        · rename_i hy; exact (key y hy).choose_spec.1
        · decide
      · show cs[i]? = some (.int .u16 ((if h : i < 10 then (key i h).choose else 0 : Nat) : Int))
        rw [dif_pos hi]; exact (key i hi).choose_spec.2
    obtain ⟨f, hf, hc⟩ := key2
    refine ⟨f, ?_, hf⟩
    apply List.ext_getElem?
    intro i
    rcases Nat.lt_or_ge i 10 with hi | hi
    · rw [hc i hi, wallsC_at f i hi]
    · rw [List.getElem?_eq_none (by omega), List.getElem?_eq_none (by show 10 ≤ i; exact hi)]

theorem dec_room {P : Program} {t : TypeId} {f0 f1 f2 : Field} (ht : P.underlying t = some (.struct #[f0, f1, f2])) (D0 : Dec P f0.type 1 i8 (fun n => (Lit.int .i8 n).wf = true)) (D1 : Dec P f1.type 1 i8 (fun n => (Lit.int .i8 n).wf = true)) (D2 : Dec P f2.type 10 wallsC rowsOk)
    (hc : P.cellsOf t = 12) (h0 : f0.offset = 0) (h1 : f1.offset = 1) (h2 : f2.offset = 2) : Dec P t 12 roomC wfRoom where
  len _ := rfl
  cells := hc
  plain r := roomC_plain r
  get {H enc w base sp held fuel cs x} h := by
    obtain ⟨xs, n, _, _, hl, hlen, hf⟩ := DataW.trod_struct ht h
    obtain ⟨y0, y1, y2, rfl⟩ : ∃ y0 y1 y2, xs = [y0, y1, y2] := by
      match xs, hlen with
      | [y0, y1, y2], _ => exact ⟨y0, y1, y2, rfl⟩
    have q0 := hf 0 f0 rfl
    have q1 := hf 1 f1 rfl
    have q2 := hf 2 f2 rfl
    simp only [List.getElem?_cons_zero, List.getElem?_cons_succ] at q0 q1 q2
    rw [h0, D0.cells, List.drop_zero] at q0
    rw [h1, D1.cells] at q1
    rw [h2, D2.cells] at q2
    obtain ⟨a, ha, oa⟩ := D0.get q0
    obtain ⟨b, hb, ob⟩ := D1.get q1
    obtain ⟨f, hf, of⟩ := D2.get q2
    rw [hc] at hl
    refine ⟨⟨a, b, f⟩, ?_, wf_i8' oa, wf_i8' ob, of⟩
    have e : cs = cs.take 1 ++ ((cs.drop 1).take 1 ++ (cs.drop 2).take 10) := by
      rw [List.take_of_length_le (l := cs.drop 2) (by rw [List.length_drop]; omega)]
      have : (cs.drop 1).take 1 ++ cs.drop 2 = cs.drop 1 := by
        rw [show cs.drop 2 = (cs.drop 1).drop 1 by rw [List.drop_drop], List.take_append_drop]
      rw [this, List.take_append_drop]
    rw [e, ha, hb, hf]
    rfl
where
  wf_i8' {n : Int} (h : (Lit.int .i8 n).wf = true) : -128 ≤ n ∧ n ≤ 127 := by
    simp [Lit.wf, IntKind.min, IntKind.max, IntKind.signed, IntKind.bits] at h
    omega

theorem argPlain {Hd : Type} {enc : TypeId × Value → Hd} {α : Type} {P : Program} {t : TypeId} {fs : Array Field} {n : Nat} {e : α → List Value} {ok : α → Prop} (D : Dec P t n e ok) (ht : P.underlying t = some (.struct fs)) {W : World} {base : Nat} {v : Value}
    {d : DataW Hd} {p : List MemPlace} (hv : Value.okWide P W .any base t v) (h : DataW.Trod enc P W 0 (fun _ => true) true t v d p) : ∃ a, v = .agg (e a).toArray ∧ ok a := by
  unfold Value.okWide at hv
  rw [ht] at hv
  obtain ⟨cs, rfl, _⟩ := hv
  obtain ⟨fuel, hf⟩ := h
  obtain ⟨a, ha, oa⟩ := D.get hf
  have e0 : (Value.agg cs).cells.toList = cs.toList := rfl
  rw [e0] at ha
  exact ⟨a, by rw [← ha], oa⟩
theorem vr_plain (β : Bt) {v : Value} (h : plainV v = true) : VR β v v := VR.plain β h
end Go.AW

/- Strings out of slices of bytes. -/
namespace Go.AW
open Go
set_option linter.unusedVariables false

def u8 (n : Int) : List Value := [.int .u8 n]
theorem u8_len (x : Int) : (u8 x).length = 1 := rfl
theorem u8_plain (x : Int) : (u8 x).all plain1 = true := rfl
def strOf (ns : List Int) : ByteArray := ns.foldl (fun r n => r.push (UInt8.ofNat n.toNat)) ByteArray.empty
theorem strOf_snoc (ns : List Int) (n : Int) : strOf (ns ++ [n]) = (strOf ns).push (UInt8.ofNat n.toNat) := by
  unfold strOf; rw [List.foldl_append]; rfl
theorem strOf_size (ns : List Int) : (strOf ns).size = ns.length := by
  have : ∀ (l : List Int) (s : ByteArray), (l.foldl (fun r n => r.push (UInt8.ofNat n.toNat)) s).size = s.size + l.length := by
    intro l
    induction l with
    | nil => intro s; rfl
    | cons a l ih => intro s; rw [List.foldl_cons, ih, ByteArray.size_push, List.length_cons]; omega
  have := this ns ByteArray.empty
  unfold strOf
  simpa using this

section
variable {P : Program} {ρ : Operand → Value} {H : AHeap} {d : Option Tmp} {ty : TypeId} {pos : String} {aft : Array Edge} {g : Option (Nat × Bool)}
theorem vrl_bytes {β : Bt} : ∀ (ns : List Int) (N : List Value), VRL β (fl u8 ns) N → N = ns.map (Value.int .u8) := by
  intro ns
  induction ns with
  | nil => intro N h; cases N with | nil => rfl | cons a N => have := h.1; simp [fl] at this
  | cons n ns ih =>
    intro N h
    cases N with
    | nil => have := h.1; simp [fl, u8] at this
    | cons a N =>
      have h1 : VR β (.int .u8 n) a := VRL.head h
      rw [List.map_cons, ← ih N (VRL.tail h), h1.int_inv]
theorem ao_b2s {src dst e : TypeId} {x : Operand} {v : Value} {ns : List Int} (hs : P.underlying src = some (.slice e)) (he : P.underlying e = some (.int .u8)) (hd : P.underlying dst = some .string)
    (hx : ρ x = v) (h : Sl H u8 1 v ns) : AOd P ⟨d, .convert src dst x, ty, pos, aft, g⟩ ρ H (.string (strOf ns)) H :=
  AO.pure fun β ρ' w hv hh => by
    have q1 := hv x (by simp [Op.operands]); rw [hx] at q1
    obtain ⟨hl, ao, c', N, hN, hvl, hrun⟩ := (h.src u8_len (by decide)).cells (P := P) hh q1
    have hNs := vrl_bytes ns N hvl
    subst hNs
    refine ⟨.string (strOf ns), ?_, .string _⟩
    have key : (convert src dst (ρ' x)).run P w = .ok (.string (strOf ns)) w := by
      rw [hN, run_convert_bytes_string w src dst e ao ns.length c' hs he hd]
      cases ao with
      | none =>
        have h0 : ns = [] := by
          rw [hN] at q1
          rcases h with ⟨_, h⟩ | ⟨b, o, c, rfl, _⟩
          · exact h
          · obtain ⟨_, _, e, _⟩ := q1.slice_inv
            cases e
        subst h0
        simp [Conv.bytesToString, Sem.run_pure, strOf]
      | some a =>
        refine run_bytesToString w a _ c' ns ?_
        have e1 : (Builtin.firstCells 1 ns.length (.slice (some a) ns.length c')).run P w = .ok ((ns.map (Value.int .u8)).toArray) w := by rw [← hN]; exact hrun
        simpa [Builtin.firstCells] using e1
    simp [execOp, go_sem, key]
end
end Go.AW

/- Rooms in blocks: reading and writing their rows. -/
namespace Go.AW
open Go
set_option linter.unusedVariables false

section
variable {P : Program} {ρ : Operand → Value} {H : AHeap} {d : Option Tmp} {ty : TypeId} {pos : String} {aft : Array Edge} {g : Option (Nat × Bool)}
theorem ao_loadp {t : TypeId} {x : Operand} {b o n : Nat} {k : ABlk} {cs ds : List Value} (ht : ∀ w, (isAgg t).run P w = .ok true w) (hn : ∀ w, (sizeOf t).run P w = .ok n w)
    (hx : ρ x = .pointer (some ⟨b, o, none⟩)) (hk : H.blk b = some k) (hr : k.rd = some cs) (hl : o + n ≤ cs.length) (hd : (cs.drop o).take n = ds) :
    AOd P ⟨d, .load t x, ty, pos, aft, g⟩ ρ H (.agg ds.toArray) H := by
  subst hd; exact ao_loads ht hn hx hk hr hl
end

theorem roomL (r : Room) (y : Nat) (hy : y < 10) : (roomC r)[0 + 2 + ((y : Nat) : Int).toNat * 1]? = some (.int .u16 (r.f y : Nat)) := by
  rw [Int.toNat_natCast, Nat.mul_one, Nat.zero_add]; exact roomC_at r y hy
theorem roomLI (r : Room) (y : Int) (hy : y.toNat < 10) : (roomC r)[0 + 2 + y.toNat * 1]? = some (.int .u16 (r.f y.toNat : Nat)) := by
  rw [Nat.mul_one, Nat.zero_add]; exact roomC_at r _ hy
theorem wallsL (f : Nat → Nat) (y : Nat) (hy : y < 10) : (wallsC f)[0 + ((y : Nat) : Int).toNat * 1]? = some (.int .u16 (f y : Nat)) := by
  rw [Int.toNat_natCast, Nat.mul_one, Nat.zero_add]; exact wallsC_at f y hy
theorem wallsA (f : Nat → Nat) (y : Nat) (hy : y < 10) : (wallsC f).toArray[y]? = some (.int .u16 (f y : Nat)) := by
  rw [List.getElem?_toArray]; exact wallsC_at f y hy
/-- The first i rows. -/
def upto (f : Nat → Nat) (i : Nat) : Nat → Nat := fun j => if j < i then f j else 0
theorem upto_put (f : Nat → Nat) (i : Nat) (hi : i < 10) : (wallsC (upto f i)).set (0 + ((i : Nat) : Int).toNat * 1) (.int .u16 (f i : Nat)) = wallsC (upto f (i + 1)) := by
  rw [Int.toNat_natCast, Nat.mul_one, Nat.zero_add, wallsC_put _ _ _ hi]
  refine wallsC_congr fun y _ => ?_
  unfold putF upto
  by_cases h : y = i
  · rw [if_pos h, if_pos (by omega), h]
  · rw [if_neg h]
    by_cases h2 : y < i
    · rw [if_pos h2, if_pos (by omega)]
    · rw [if_neg h2, if_neg (by omega)]
theorem upto_all (f : Nat → Nat) : wallsC (upto f 10) = wallsC f := wallsC_congr fun y hy => if_pos hy
def sameRoom (r s : Room) : Prop := roomC r = roomC s
instance (r s : Room) : Decidable (sameRoom r s) := by
  have : sameRoom r s ↔ r.w = s.w ∧ r.h = s.h ∧ ∀ y, y < 10 → r.f y = s.f y := ⟨roomC_ext, fun ⟨a, b, c⟩ => roomC_congr a b c⟩
  exact decidable_of_iff _ this.symm
theorem walls_step {f g : Nat → Nat} {i : Nat} (h : ∀ j, j < i → f j = g j) (e : f i = g i) : ∀ j, j < i + 1 → f j = g j := by
  intro j hj
  rcases Nat.lt_or_ge j i with h1 | h1
  · exact h j h1
  · rw [show j = i by omega]; exact e
theorem roomC_walls {r s : Room} (h1 : r.w = s.w) (h2 : r.h = s.h) (h3 : wallsC r.f = wallsC s.f) : roomC r = roomC s := by
  refine roomC_congr h1 h2 ?_
  unfold wallsC at h3
  simp only [List.cons.injEq, Value.int.injEq, true_and, and_true, Int.ofNat_inj] at h3
  obtain ⟨a0, a1, a2, a3, a4, a5, a6, a7, a8, a9⟩ := h3
  exact ten (p := fun y => r.f y = s.f y) a0 a1 a2 a3 a4 a5 a6 a7 a8 a9
/-- Rows that are compared: some answer. -/
theorem eqWallsB {P : Program} (d : Nat) {t e : TypeId} {i : TypeInfo} (hu : P.underlying t = some (.array 10 e)) (hi : P.info? e = some i) (he : P.underlying e = some (.int .u16)) (hc : P.cellsOf e = 1) (f g : Nat → Nat) :
    ∃ b, ∀ w, (Op.equalIn (d + 2) t (.agg (wallsC f).toArray) (.agg (wallsC g).toArray)).run P w = .ok b w := by
  have key : ∀ is : List Nat, (∀ j ∈ is, j < 10) → ∃ b, ∀ w, (Op.eqItems (d + 1) e 1 (wallsC f).toArray (wallsC g).toArray is).run P w = .ok b w := by
    intro is
    induction is with
    | nil => exact fun _ => ⟨true, fun w => by simp [Op.eqItems]⟩
    | cons j is ih =>
      intro hj
      obtain ⟨b, hb⟩ := ih fun k hk => hj k (List.mem_cons_of_mem _ hk)
      have h1 := wallsC_at f j (hj j List.mem_cons_self)
      have h2 := wallsC_at g j (hj j List.mem_cons_self)
      have px : ∀ (f : Nat → Nat) w, (wallsC f)[j]? = some (.int .u16 (f j : Nat)) → (part e (wallsC f).toArray (j * 1)).run P w = .ok (.int .u16 (f j : Nat)) w := by
        intro f w h
        simp [part, isAgg, run_underlying he, h]
      refine ⟨((f j : Int) == (g j : Int)) && b, fun w => ?_⟩
      simp only [Op.eqItems, Sem.run_bind, px f w h1, px g w h2, Result.andThen_ok, run_equalIn_int w d e .u16 .u16 _ _ he]
      cases hq : ((f j : Int) == (g j : Int))
      · simp_all
      · simp_all
  obtain ⟨b, hb⟩ := key (List.range 10) fun j hj => List.mem_range.mp hj
  exact ⟨b, fun w => by rw [run_equalIn_array w (d + 1) _ _ hu hi, hc]; exact hb w⟩

/-! Bits that are set and cleared. -/
theorem bitsNV (op : BinOp) (a b : Int) : Value.int .u16 (bitsOf op .u16 a b) = .int .u16 (((bitsOf op .u16 a b).toNat : Nat) : Int) := by
  have : 0 ≤ bitsOf op .u16 a b := by
    have h : ∀ n : Nat, 0 ≤ IntKind.u16.wrap (n : Int) := fun n => by show (0 : Int) ≤ (n : Int) % 65536; omega
    unfold bitsOf
    cases op <;> exact h _
  congr 1; omega
theorem bitsNLt (op : BinOp) (a b : Int) : (bitsOf op .u16 a b).toNat < 65536 := by
  have h : ∀ n : Nat, (IntKind.u16.wrap (n : Int)).toNat < 65536 := fun n => by show ((n : Int) % 65536).toNat < 65536; omega
  unfold bitsOf
  cases op <;> exact h _
theorem shl16 (n : Int) (h0 : 0 ≤ n) (h1 : n < 16) : Value.int .u16 (IntKind.u16.wrap ((1 : Int) * 2 ^ (min n.toNat IntKind.u16.bits))) = .int .u16 ((2 ^ n.toNat : Nat) : Int) := by
  have e : min n.toNat IntKind.u16.bits = n.toNat := by show min n.toNat 16 = _; omega
  have h2 : 2 ^ n.toNat < 65536 := by
    calc 2 ^ n.toNat < 2 ^ 16 := Nat.pow_lt_pow_right (by decide) (by omega)
      _ = 65536 := by decide
  rw [e, Int.one_mul]
  have e2 : ((2 : Int) ^ n.toNat) = ((2 ^ n.toNat : Nat) : Int) := by norm_cast
  rw [e2]
  congr 1
  exact nw (Int.natCast_nonneg _) (by show ((2 ^ n.toNat : Nat) : Int) ≤ (65535 : Int); omega)
def clr (a x : Nat) : Nat := (bitsOf .andNot .u16 (a : Int) ((2 ^ x : Nat) : Int)).toNat
def setb (a x : Nat) : Nat := (bitsOf .or .u16 (a : Int) ((2 ^ x : Nat) : Int)).toNat
def wallR (r : Room) (s : Spot) (on : Bool) : Room :=
  let r1 := r.put s.y.toNat (clr (r.f s.y.toNat) s.x.toNat)
  if on then r1.put s.y.toNat (setb (r1.f s.y.toNat) s.x.toNat) else r1
theorem roomC_putI (r : Room) (y : Int) (v : Nat) (hy : y.toNat < 10) : (roomC r).set (0 + 2 + y.toNat * 1) (.int .u16 (v : Int)) = roomC (r.put y.toNat v) := by
  rw [Nat.mul_one, Nat.zero_add]; exact roomC_put r _ v hy
theorem rows_put {r : Room} (h : rowsOk r.f) {y v : Nat} (hv : v < 65536) : rowsOk (r.put y v).f := by
  intro j
  show (if j = y then v else r.f j) < 65536
  split
  · exact hv
  · exact h j
theorem wallR_wf {r : Room} {s : Spot} {on : Bool} (h : wfRoom r) : wfRoom (wallR r s on) := by
  unfold wallR
  cases on
  · exact ⟨h.1, h.2.1, rows_put h.2.2 (bitsNLt _ _ _)⟩
  · exact ⟨h.1, h.2.1, rows_put (rows_put h.2.2 (bitsNLt _ _ _)) (bitsNLt _ _ _)⟩
theorem bit_or (a x j : Nat) (ha : a < 65536) (hx : x < 16) : (setb a x).testBit j = (a.testBit j || decide (j = x)) := by
  have h2 : 2 ^ x < 65536 := by
    calc 2 ^ x < 2 ^ 16 := Nat.pow_lt_pow_right (by decide) hx
      _ = 65536 := by decide
  have e : setb a x = a ||| 2 ^ x := by
    unfold setb bitsOf
    show (IntKind.u16.wrap ((BitVec.ofInt 16 (a : Int) ||| BitVec.ofInt 16 ((2 ^ x : Nat) : Int)).toNat : Int)).toNat = _
    have e1 : (BitVec.ofInt 16 (a : Int) ||| BitVec.ofInt 16 ((2 ^ x : Nat) : Int)).toNat = a ||| 2 ^ x := by
      rw [BitVec.toNat_or]
      have q1 : (BitVec.ofInt 16 (a : Int)).toNat = a := by simp; omega
      have q2 : (BitVec.ofInt 16 ((2 ^ x : Nat) : Int)).toNat = 2 ^ x := by rw [BitVec.ofInt_natCast, BitVec.toNat_ofNat, Nat.mod_eq_of_lt h2]
      rw [q1, q2]
    have hlt : a ||| 2 ^ x < 2 ^ 16 := Nat.or_lt_two_pow (by omega) (by omega)
    rw [e1, nw (by show (0 : Int) ≤ _; omega) (by show _ ≤ (65535 : Int); omega), Int.toNat_natCast]
  rw [e, Nat.testBit_or, Nat.testBit_two_pow]
  congr 1
  exact decide_eq_decide.mpr eq_comm
theorem bit_clr (a x j : Nat) (ha : a < 65536) (hx : x < 16) : (clr a x).testBit j = (a.testBit j && !decide (j = x)) := by
  have h2 : 2 ^ x < 65536 := by
    calc 2 ^ x < 2 ^ 16 := Nat.pow_lt_pow_right (by decide) hx
      _ = 65536 := by decide
  have q1 : (BitVec.ofInt 16 (a : Int)).toNat = a := by simp; omega
  have q2 : (BitVec.ofInt 16 ((2 ^ x : Nat) : Int)).toNat = 2 ^ x := by rw [BitVec.ofInt_natCast, BitVec.toNat_ofNat, Nat.mod_eq_of_lt h2]
  have e : clr a x = (BitVec.ofInt 16 (a : Int) &&& ~~~ (BitVec.ofInt 16 ((2 ^ x : Nat) : Int))).toNat := by
    unfold clr bitsOf
    show (IntKind.u16.wrap ((BitVec.ofInt 16 (a : Int) &&& ~~~ (BitVec.ofInt 16 ((2 ^ x : Nat) : Int))).toNat : Int)).toNat = _
    have := (BitVec.ofInt 16 (a : Int) &&& ~~~ (BitVec.ofInt 16 ((2 ^ x : Nat) : Int))).isLt
    rw [nw (by show (0 : Int) ≤ _; omega) (by show _ ≤ (65535 : Int); omega), Int.toNat_natCast]
  rw [e, BitVec.testBit_toNat, BitVec.getLsbD_and, BitVec.getLsbD_not]
  have g1 : (BitVec.ofInt 16 (a : Int)).getLsbD j = a.testBit j := by rw [← BitVec.testBit_toNat, q1]
  have g2 : (BitVec.ofInt 16 ((2 ^ x : Nat) : Int)).getLsbD j = decide (j = x) := by
    rw [← BitVec.testBit_toNat, q2, Nat.testBit_two_pow]
    exact decide_eq_decide.mpr eq_comm
  rw [g1, g2]
  by_cases hj : j < 16
  · simp [hj]
  · have : a.testBit j = false := Nat.testBit_lt_two_pow (Nat.lt_of_lt_of_le (show a < 2 ^ 16 by omega) (Nat.pow_le_pow_right (by decide) (by omega)))
    simp [this]

theorem minV (w : Int) : Value.int .i64 (if (10 : Int) < w then 10 else w) = .int .i64 (min w 10) := by
  congr 1
  rw [Int.min_def]
  split <;> split <;> omega
theorem ends0n {P : Program} {fn : Func} {R : Value → AHeap → Prop} {fr : AFr} {H : AHeap} (hr : fn.results = #[]) (hR : R (.tuple #[]) H) : Ends P fn R .normal fr H := by
  have := ends0 (P := P) (fr := fr) hr hR
  exact this
theorem ACd.val {P : Program} {f : FuncId} {args : List Value} {H H' : AHeap} {v v' : Value} (h : ACd P f args H v H') (e : v = v') : ACd P f args H v' H' := e ▸ h
theorem vrl_room (r : Room) (β : Bt) : VRL β (roomC r) (roomC r) := vrl_plain (z := .agg (roomC r).toArray) rfl
instance (r : Room) (s : Spot) : Decidable (isCell r s) := by unfold isCell; exact inferInstance
instance (r : Room) (s : Spot) : Decidable (isFree r s) := by unfold isFree; exact inferInstance
def freeB (r : Room) (s : Spot) : Bool := decide (isFree r s)
theorem freeB_iff (r : Room) (s : Spot) : freeB r s = true ↔ isFree r s := decide_eq_true_iff
def freeL (r : Room) : List Spot := (allCells r).filter (freeB r)
theorem filter_len (r : Room) (p : Spot → Bool) (h1 : r.w ≤ 10) (h2 : r.h ≤ 10) : ((allCells r).filter p).length ≤ 100 := by
  refine Nat.le_trans (List.length_filter_le _ _) ?_
  unfold allCells
  rw [cellsTo_len]
  have : r.w.toNat * r.h.toNat ≤ 10 * 10 := Nat.mul_le_mul (by omega) (by omega)
  omega
theorem filter_lenTo (w y x : Nat) (p : Spot → Bool) (h1 : w ≤ 10) (h2 : y ≤ 10) (h3 : x ≤ 10) : ((cellsTo w y x).filter p).length ≤ 110 := by
  refine Nat.le_trans (List.length_filter_le _ _) ?_
  rw [cellsTo_len]
  have : w * y ≤ 10 * 10 := Nat.mul_le_mul h1 h2
  omega
theorem filter_yes {w y x : Nat} {p : Spot → Bool} (h : p ⟨(x : Nat), (y : Nat)⟩ = true) : (cellsTo w y (x + 1)).filter p = (cellsTo w y x).filter p ++ [⟨(x : Nat), (y : Nat)⟩] := by
  rw [cellsTo_succ, List.filter_append, List.filter_cons_of_pos h]; rfl
theorem filter_no {w y x : Nat} {p : Spot → Bool} (h : p ⟨(x : Nat), (y : Nat)⟩ = false) : (cellsTo w y (x + 1)).filter p = (cellsTo w y x).filter p := by
  rw [cellsTo_succ, List.filter_append, List.filter_cons_of_neg (by rw [h]; simp), List.filter_nil, List.append_nil]

/-! Codes. -/
def firstNZ : List Int → Int
  | [] => 0
  | x :: t => if x = 0 then firstNZ t else x
theorem firstNZ_hit {l : List Int} {i : Nat} {x : Int} (h : firstNZ l = firstNZ (l.drop i)) (hx : l[i]? = some x) (h0 : x ≠ 0) : x = firstNZ l := by
  obtain ⟨hi, e⟩ := List.getElem?_eq_some_iff.mp hx
  rw [h, List.drop_eq_getElem_cons hi, e]
  show x = if x = 0 then _ else x
  rw [if_neg h0]
theorem firstNZ_step {l : List Int} {i : Nat} {x : Int} (h : firstNZ l = firstNZ (l.drop i)) (hx : l[i]? = some x) (h0 : x = 0) : firstNZ l = firstNZ (l.drop (i + 1)) := by
  obtain ⟨hi, e⟩ := List.getElem?_eq_some_iff.mp hx
  rw [h, List.drop_eq_getElem_cons hi, e]
  show (if x = 0 then _ else x) = _
  rw [if_pos h0]
theorem firstNZ_end {l : List Int} {i : Nat} (h : firstNZ l = firstNZ (l.drop i)) (hi : l.length ≤ i) : 0 = firstNZ l := by
  rw [h, List.drop_eq_nil_of_le hi]; rfl
/-- The code of a room and cells. -/
def cellC (r : Room) (l : List Spot) (c : Int) : Prop := (¬ okRoom r ∧ c = 1) ∨ (okRoom r ∧ (∃ j : Nat, j < l.length ∧ ∃ s, l[j]? = some s ∧ ¬ isCell r s) ∧ c = 2) ∨ (okRoom r ∧ (¬ ∃ j : Nat, j < l.length ∧ ∃ s, l[j]? = some s ∧ ¬ isCell r s) ∧ c = 0)
def stateC (r : Room) (l : List Spot) (c : Int) : Prop := ((∃ j : Nat, j < l.length ∧ ∃ s, l[j]? = some s ∧ ¬ isFree r s) ∧ c = 4) ∨ ((¬ ∃ j : Nat, j < l.length ∧ ∃ s, l[j]? = some s ∧ ¬ isFree r s) ∧ c = 0)
def askC (r : Room) (s : Spot) (fine : Bool) (c : Int) : Prop := (¬ okRoom r ∧ c = 1) ∨ (okRoom r ∧ ¬ (isCell r s ∧ fine = true) ∧ c = 2) ∨ (okRoom r ∧ isCell r s ∧ fine = true ∧ c = 0)
def stoodC (r : Room) (s : Spot) (fine : Bool) (c : Int) : Prop := (¬ okRoom r ∧ c = 1) ∨ (okRoom r ∧ ¬ (isCell r s ∧ fine = true) ∧ c = 2) ∨ (okRoom r ∧ isCell r s ∧ fine = true ∧ ¬ isFree r s ∧ c = 4) ∨ (okRoom r ∧ isCell r s ∧ fine = true ∧ isFree r s ∧ c = 0)
open Classical in
theorem exists_cellC (r : Room) (l : List Spot) : ∃ c, cellC r l c := by
  unfold cellC
  by_cases h : okRoom r
  · by_cases h2 : ∃ j : Nat, j < l.length ∧ ∃ s, l[j]? = some s ∧ ¬ isCell r s
    · exact ⟨2, .inr (.inl ⟨h, h2, rfl⟩)⟩
    · exact ⟨0, .inr (.inr ⟨h, h2, rfl⟩)⟩
  · exact ⟨1, .inl ⟨h, rfl⟩⟩
open Classical in
theorem exists_stateC (r : Room) (l : List Spot) : ∃ c, stateC r l c := by
  unfold stateC
  by_cases h2 : ∃ j : Nat, j < l.length ∧ ∃ s, l[j]? = some s ∧ ¬ isFree r s
  · exact ⟨4, .inl ⟨h2, rfl⟩⟩
  · exact ⟨0, .inr ⟨h2, rfl⟩⟩
open Classical in
theorem exists_askC (r : Room) (s : Spot) (fine : Bool) : ∃ c, askC r s fine c := by
  unfold askC
  by_cases h : okRoom r
  · by_cases h2 : isCell r s ∧ fine = true
    · exact ⟨0, .inr (.inr ⟨h, h2.1, h2.2, rfl⟩)⟩
    · exact ⟨2, .inr (.inl ⟨h, h2, rfl⟩)⟩
  · exact ⟨1, .inl ⟨h, rfl⟩⟩
open Classical in
theorem exists_stoodC (r : Room) (s : Spot) (fine : Bool) : ∃ c, stoodC r s fine c := by
  unfold stoodC
  by_cases h : okRoom r
  · by_cases h2 : isCell r s ∧ fine = true
    · by_cases h3 : isFree r s
      · exact ⟨0, .inr (.inr (.inr ⟨h, h2.1, h2.2, h3, rfl⟩))⟩
      · exact ⟨4, .inr (.inr (.inl ⟨h, h2.1, h2.2, h3, rfl⟩))⟩
    · exact ⟨2, .inr (.inl ⟨h, h2, rfl⟩)⟩
  · exact ⟨1, .inl ⟨h, rfl⟩⟩
theorem one_spot {s : Spot} {p : Spot → Prop} : (∃ j : Nat, j < [s].length ∧ ∃ x, [s][j]? = some x ∧ p x) ↔ p s := by
  constructor
  · rintro ⟨j, hj, x, hx, hp⟩
    obtain rfl : j = 0 := by simp at hj; omega
    simp at hx; subst hx; exact hp
  · exact fun h => ⟨0, by simp, s, rfl, h⟩
theorem ask_cell {r : Room} {s : Spot} {c : Int} (h : askC r s true c) : cellC r [s] c := by
  unfold cellC
  rw [one_spot (p := fun x => ¬ isCell r x)]
  rcases h with h | ⟨h1, h2, h3⟩ | ⟨h1, h2, _, h3⟩
  · exact .inl h
  · exact .inr (.inl ⟨h1, fun e => h2 ⟨e, rfl⟩, h3⟩)
  · exact .inr (.inr ⟨h1, fun e => e h2, h3⟩)
/-- What the program asks, one behind the other, is what the reference asks. -/
theorem stood_first {r : Room} {s : Spot} {fine : Bool} {c c1 c2 c3 : Int} (h : stoodC r s fine c) (h1 : cellC r [s] c1) (h2 : c2 = if fine = true then 0 else 2) (h3 : stateC r [s] c3) : firstNZ [c1, c2, c3] = c := by
  unfold cellC at h1
  unfold stateC at h3
  rw [one_spot (p := fun x => ¬ isCell r x)] at h1
  rw [one_spot (p := fun x => ¬ isFree r x)] at h3
  rcases h with ⟨a, e⟩ | ⟨a, b, e⟩ | ⟨a, b, f, g, e⟩ | ⟨a, b, f, g, e⟩ <;> subst e
  · rcases h1 with ⟨_, e⟩ | ⟨q, _⟩ | ⟨q, _⟩
    · subst e; rfl
    · exact absurd q a
    · exact absurd q a
  · rcases h1 with ⟨q, _⟩ | ⟨_, _, e⟩ | ⟨_, q, e⟩
    · exact absurd a q
    · subst e; rfl
    · subst e
      have : ¬ fine = true := fun hf => b ⟨Classical.not_not.mp q, hf⟩
      rw [if_neg this] at h2; subst h2; rfl
  · rcases h1 with ⟨q, _⟩ | ⟨_, q, e⟩ | ⟨_, q, e⟩
    · exact absurd a q
    · exact absurd b q
    · subst e
      rw [if_pos f] at h2; subst h2
      rcases h3 with ⟨_, e⟩ | ⟨q, _⟩
      · subst e; rfl
      · exact absurd g q
  · rcases h1 with ⟨q, _⟩ | ⟨_, q, e⟩ | ⟨_, q, e⟩
    · exact absurd a q
    · exact absurd b q
    · subst e
      rw [if_pos f] at h2; subst h2
      rcases h3 with ⟨q, _⟩ | ⟨_, e⟩
      · exact absurd g q
      · subst e; rfl
theorem stood_first2 {r : Room} {s : Spot} {c c1 c3 : Int} (h : stoodC r s true c) (h1 : cellC r [s] c1) (h3 : stateC r [s] c3) : firstNZ [c1, c3] = c := by
  have := stood_first h h1 (c2 := 0) rfl h3
  rw [← this]
  show (if c1 = 0 then (if c3 = 0 then 0 else c3) else c1) = (if c1 = 0 then (if (0 : Int) = 0 then (if c3 = 0 then 0 else c3) else 0) else c1)
  rw [if_pos (rfl : (0 : Int) = 0)]

def mkSpot (k : Int) (n : Nat) : List Spot := (List.range n).map fun (j : Nat) => ⟨IntKind.i8.wrap (k + 2 * j), IntKind.i8.wrap (k + 2 * j + 1)⟩
theorem mkSpot_at {k : Int} {n i : Nat} (h : i < n) : (mkSpot k n)[i]? = some ⟨IntKind.i8.wrap (k + 2 * i), IntKind.i8.wrap (k + 2 * i + 1)⟩ := by
  simp [mkSpot, List.getElem?_range h]
theorem mkSpot_get {k : Int} {n i : Nat} {x : Spot} (h : (mkSpot k n)[i]? = some x) : x = ⟨IntKind.i8.wrap (k + 2 * i), IntKind.i8.wrap (k + 2 * i + 1)⟩ := by
  have hi := (List.getElem?_eq_some_iff.mp h).1
  rw [mkSpot_at (by simpa [mkSpot] using hi)] at h
  cases h; rfl
theorem mkSpot_len (k : Int) (n : Nat) : (mkSpot k n).length = n := by simp [mkSpot]
theorem spot_set2 {z : List Spot} {i : Nat} {a b : Int} (h : i < z.length) :
    ((fl spot z).set (0 + ((i : Nat) : Int).toNat * 2 + 0) (.int .i8 a)).set (0 + ((i : Nat) : Int).toNat * 2 + 1) (.int .i8 b) = fl spot (z.set i ⟨a, b⟩) := by
  rw [fl_setz spot_len ⟨a, z[i].y⟩ (get_some h) (by decide) rfl, fl_setz spot_len ⟨a, b⟩ (x := ⟨a, z[i].y⟩) (by rw [List.getElem?_set_self h]) (by decide) rfl, List.set_set]
end Go.AW

/- Steps straight on, cells beside a cell. -/
namespace Go.AW
open Go
set_option linter.unusedVariables false

theorem wrap8 (n : Int) : -128 ≤ IntKind.i8.wrap n ∧ IntKind.i8.wrap n ≤ 127 := by
  exact wf_i8 (wf_wrap .i8 n)
theorem wf_next {s : Spot} (h : wfSpot s) (k : Int) : wfSpot (nextSpot s k) := by
  obtain ⟨h1, h2⟩ := h
  unfold nextSpot
  split
  · exact ⟨h1, wrap8 _⟩
  · split
    · exact ⟨wrap8 _, h2⟩
    · split
      · exact ⟨h1, wrap8 _⟩
      · split
        · exact ⟨wrap8 _, h2⟩
        · exact ⟨h1, h2⟩
/-- Where one stands behind j steps to a side. -/
def stepS (s : Spot) (k : Int) : Nat → Spot
  | 0 => s
  | j + 1 => nextSpot (stepS s k j) k
theorem wf_step {s : Spot} (h : wfSpot s) (k : Int) (j : Nat) : wfSpot (stepS s k j) := by
  induction j with
  | zero => exact h
  | succ j ih => exact wf_next ih k
def rayIs (r : Room) (s : Spot) (k : Int) (n : Nat) : Prop := (∀ j, j < n → isFree r (stepS s k (j + 1))) ∧ ¬ isFree r (stepS s k (n + 1))
/-- How far the wall is at most. -/
def toWall (k : Int) (s : Spot) : Int := if k = 0 then s.y else if k = 1 then 9 - s.x else if k = 2 then 9 - s.y else s.x
theorem toWall_free {r : Room} {s : Spot} {k : Int} (h : isFree r s) : 0 ≤ toWall k s ∧ toWall k s ≤ 9 := by
  obtain ⟨⟨h1, h2, h3, h4, h5, h6⟩, _⟩ := h
  unfold toWall
  split
  · omega
  · split
    · omega
    · split <;> omega
theorem nw8 {n : Int} (h1 : -128 ≤ n) (h2 : n ≤ 127) : IntKind.i8.wrap n = n := nw (by show (-128 : Int) ≤ n; omega) (by show n ≤ (127 : Int); omega)
theorem toWall_next {r : Room} {s : Spot} {k : Int} (h : isFree r s) (hk : 0 ≤ k ∧ k ≤ 3) : toWall k (nextSpot s k) = toWall k s - 1 := by
  obtain ⟨⟨h1, h2, h3, h4, h5, h6⟩, _⟩ := h
  have e : k = 0 ∨ k = 1 ∨ k = 2 ∨ k = 3 := by omega
  rcases e with rfl | rfl | rfl | rfl
  · show IntKind.i8.wrap (s.y - 1) = s.y - 1; exact nw8 (by omega) (by omega)
  · show 9 - IntKind.i8.wrap (s.x + 1) = 9 - s.x - 1; rw [nw8 (by omega) (by omega)]; omega
  · show 9 - IntKind.i8.wrap (s.y + 1) = 9 - s.y - 1; rw [nw8 (by omega) (by omega)]; omega
  · show IntKind.i8.wrap (s.x - 1) = s.x - 1; exact nw8 (by omega) (by omega)
theorem exists_ray (r : Room) (s : Spot) {k : Int} (hk : 0 ≤ k ∧ k ≤ 3) : ∃ n, n ≤ 11 ∧ rayIs r s k n := by
  obtain ⟨q, hq⟩ := exists_first (fun j => ¬ isFree r (stepS s k (j + 1))) 12
  rcases hq with ⟨_, hq⟩ | ⟨n, h1, _, h3, h4⟩
  · exfalso
    have hall : ∀ j, j < 12 → isFree r (stepS s k (j + 1)) := fun j hj => Classical.not_not.mp (hq j hj)
    have key : ∀ j : Nat, j < 12 → toWall k (stepS s k (j + 1)) = toWall k (stepS s k 1) - j := by
      intro j
      induction j with
      | zero => intro _; simp
      | succ j ih =>
        intro hj
        have e1 := ih (by omega)
        have e2 := toWall_next (hall j (by omega)) hk
        show toWall k (nextSpot (stepS s k (j + 1)) k) = _
        rw [e2, e1]; omega
    have a := key 11 (by omega)
    have b1 : 0 ≤ toWall k (stepS s k 1) ∧ toWall k (stepS s k 1) ≤ 9 := toWall_free (hall 0 (by omega))
    have b2 : 0 ≤ toWall k (stepS s k (11 + 1)) ∧ toWall k (stepS s k (11 + 1)) ≤ 9 := toWall_free (hall 11 (by omega))
    omega
  · exact ⟨n, by omega, fun j hj => Classical.not_not.mp (h4 j hj), h3⟩
/-- The free cells beside a cell, side by side. -/
def besideTo (r : Room) (s : Spot) : Nat → List Spot
  | 0 => []
  | i + 1 => besideTo r s i ++ (if freeB r (nextSpot s i) = true then [nextSpot s i] else [])
def beside (r : Room) (s : Spot) : List Spot := besideTo r s 4
theorem beside_yes {r : Room} {s : Spot} {i : Nat} (h : freeB r (nextSpot s i) = true) : besideTo r s (i + 1) = besideTo r s i ++ [nextSpot s i] := by
  show _ ++ (if _ then _ else _) = _; rw [if_pos h]
theorem beside_no {r : Room} {s : Spot} {i : Nat} (h : freeB r (nextSpot s i) = false) : besideTo r s (i + 1) = besideTo r s i := by
  show _ ++ (if _ then _ else _) = _; rw [if_neg (by rw [h]; simp), List.append_nil]
theorem beside_len (r : Room) (s : Spot) (i : Nat) : (besideTo r s i).length ≤ i := by
  induction i with
  | zero => exact Nat.le_refl _
  | succ i ih => show (besideTo r s i ++ (if _ then _ else _)).length ≤ _; rw [List.length_append]; split <;> simp <;> omega
/-- Four numbers. -/
def four (g : Nat → Int) : List Value := [.int .i64 (g 0), .int .i64 (g 1), .int .i64 (g 2), .int .i64 (g 3)]
def upto4 (g : Nat → Int) (i : Nat) : Nat → Int := fun j => if j < i then g j else 0
theorem four_at {p : Nat → Prop} (h0 : p 0) (h1 : p 1) (h2 : p 2) (h3 : p 3) (y : Nat) (hy : y < 4) : p y := by
  match y, hy with
  | 0, _ => exact h0
  | 1, _ => exact h1
  | 2, _ => exact h2
  | 3, _ => exact h3
theorem four_get (g : Nat → Int) (i : Nat) (hi : i < 4) : (four g)[0 + ((i : Nat) : Int).toNat * 1]? = some (.int .i64 (g i)) := by
  rw [Int.toNat_natCast, Nat.mul_one, Nat.zero_add]
  exact four_at (p := fun i => (four g)[i]? = some (.int .i64 (g i))) rfl rfl rfl rfl i hi
theorem four_congr {f g : Nat → Int} (h : ∀ i, i < 4 → f i = g i) : four f = four g := by
  unfold four; rw [h 0 (by omega), h 1 (by omega), h 2 (by omega), h 3 (by omega)]
theorem four_put (g : Nat → Int) (i : Nat) (hi : i < 4) : (four (upto4 g i)).set (0 + ((i : Nat) : Int).toNat * 1) (.int .i64 (g i)) = four (upto4 g (i + 1)) := by
  rw [Int.toNat_natCast, Nat.mul_one, Nat.zero_add]
  exact four_at (p := fun i => (four (upto4 g i)).set i (.int .i64 (g i)) = four (upto4 g (i + 1))) rfl rfl rfl rfl i hi
theorem four_all (g : Nat → Int) : four (upto4 g 4) = four g := four_congr fun i hi => if_pos hi
/-- The rays to all sides. -/
theorem exists_rays (r : Room) (s : Spot) : ∃ g : Nat → Nat, ∀ i : Nat, i < 4 → rayIs r s (i : Int) (g i) ∧ g i ≤ 11 := by
  refine ⟨fun i => if h : i < 4 then (exists_ray r s (k := (i : Int)) (by omega)).choose else 0, fun i hi => ?_⟩
  have := (exists_ray r s (k := (i : Int)) (by omega)).choose_spec
  show rayIs r s i (if h : i < 4 then _ else 0) ∧ (if h : i < 4 then _ else 0) ≤ 11
  rw [dif_pos hi]
  exact ⟨this.2, this.1⟩
theorem stood_ok {r : Room} {s : Spot} {fine : Bool} (h : stoodC r s fine 0) : okRoom r ∧ isCell r s ∧ fine = true ∧ isFree r s := by
  rcases h with ⟨_, e⟩ | ⟨_, _, e⟩ | ⟨_, _, _, _, e⟩ | ⟨a, b, c, d, _⟩
  · omega
  · omega
  · omega
  · exact ⟨a, b, c, d⟩
theorem ray_lt {r : Room} {s : Spot} {k : Int} {n i : Nat} (h : rayIs r s k n) (hi : i ≤ n) (hf : freeB r (nextSpot (stepS s k i) k) = true) : i < n := by
  rcases Nat.lt_or_ge i n with h9 | h9
  · exact h9
  · obtain rfl : i = n := by omega
    exact absurd ((freeB_iff _ _).mp hf) h.2
theorem ray_ge {r : Room} {s : Spot} {k : Int} {n i : Nat} (h : rayIs r s k n) (hf : freeB r (nextSpot (stepS s k i) k) = false) : ¬ i < n := by
  intro h9
  have e : freeB r (nextSpot (stepS s k i) k) = true := (freeB_iff _ _).mpr (h.1 i h9)
  rw [e] at hf; cases hf
end Go.AW

/- Rooms that are mirrored and turned: walls that are put one by one. -/
namespace Go.AW
open Go
set_option linter.unusedVariables false

/-- Two rooms in whose blocks the same stands. -/
theorem wallR_congr {r r' : Room} {s : Spot} {on : Bool} (h : roomC r = roomC r') (hy : s.y.toNat < 10) : roomC (wallR r s on) = roomC (wallR r' s on) := by
  obtain ⟨h1, h2, h3⟩ := roomC_ext h
  have e := h3 _ hy
  have step : ∀ (a b : Room) (v : Nat), (a.w = b.w ∧ a.h = b.h ∧ ∀ y, y < 10 → a.f y = b.f y) → ((a.put s.y.toNat v).w = (b.put s.y.toNat v).w ∧ (a.put s.y.toNat v).h = (b.put s.y.toNat v).h ∧ ∀ y, y < 10 → (a.put s.y.toNat v).f y = (b.put s.y.toNat v).f y) := by
    intro a b v ⟨k1, k2, k3⟩
    refine ⟨k1, k2, fun y hy => ?_⟩
    show (if y = _ then v else a.f y) = (if y = _ then v else b.f y)
    split
    · rfl
    · exact k3 y hy
  have s1 := step r r' (clr (r.f s.y.toNat) s.x.toNat) ⟨h1, h2, h3⟩
  unfold wallR
  rw [← e]
  cases on
  · exact roomC_congr s1.1 s1.2.1 s1.2.2
  · have s2 := step _ _ (setb ((r.put s.y.toNat (clr (r.f s.y.toNat) s.x.toNat)).f s.y.toNat) s.x.toNat) s1
    have e2 := s1.2.2 _ hy
    simp only [if_true]
    rw [← e2]
    exact roomC_congr s2.1 s2.2.1 s2.2.2
theorem wallR_dims (r : Room) (s : Spot) (on : Bool) : (wallR r s on).w = r.w ∧ (wallR r s on).h = r.h := by
  unfold wallR; cases on <;> exact ⟨rfl, rfl⟩
/-- A bit of a room's rows, once a wall is put or taken away. -/
theorem wallR_bit {r : Room} {s : Spot} {on : Bool} (hf : rowsOk r.f) (hx : 0 ≤ s.x ∧ s.x < 10) (y j : Nat) :
    ((wallR r s on).f y).testBit j = if y = s.y.toNat ∧ j = s.x.toNat then on else (r.f y).testBit j := by
  have hx16 : s.x.toNat < 16 := by omega
  have hp : ∀ (a : Room) (v y : Nat), (a.put s.y.toNat v).f y = if y = s.y.toNat then v else a.f y := fun a v y => rfl
  have hc : clr (r.f s.y.toNat) s.x.toNat < 65536 := bitsNLt _ _ _
  unfold wallR
  cases on
  · simp only [Bool.false_eq_true, if_false]
    rw [hp]
    by_cases h : y = s.y.toNat
    · rw [if_pos h, bit_clr _ _ _ (hf _) hx16]
      by_cases h2 : j = s.x.toNat
      · simp [h, h2]
      · simp [h, h2]
    · rw [if_neg h, if_neg (fun q => h q.1)]
  · simp only [if_true]
    rw [hp]
    by_cases h : y = s.y.toNat
    · rw [if_pos h, bit_or _ _ _ (by rw [hp, if_pos rfl]; exact hc) hx16, hp, if_pos rfl, bit_clr _ _ _ (hf _) hx16]
      by_cases h2 : j = s.x.toNat
      · simp [h, h2]
      · simp [h, h2]
    · rw [if_neg h, hp, if_neg h, if_neg (fun q => h q.1)]
theorem wallR_rows {r : Room} {s : Spot} {on : Bool} (hf : rowsOk r.f) : rowsOk (wallR r s on).f := by
  unfold wallR
  cases on
  · exact rows_put hf (bitsNLt _ _ _)
  · exact rows_put (rows_put hf (bitsNLt _ _ _)) (bitsNLt _ _ _)

/-- Walls put or taken at all places; and put only where there are some. -/
def putAll (g : Spot → Spot) (q : Spot → Bool) (r : Room) (l : List Spot) : Room := l.foldl (fun R s => wallR R (g s) (q s)) r
def putWalls (g : Spot → Spot) (r : Room) (l : List Spot) : Room := l.foldl (fun R s => wallR R (g s) true) r
theorem putAll_snoc (g : Spot → Spot) (q : Spot → Bool) (r : Room) (l : List Spot) (s : Spot) : putAll g q r (l ++ [s]) = wallR (putAll g q r l) (g s) (q s) := by
  unfold putAll; rw [List.foldl_append]; rfl
theorem putWalls_snoc (g : Spot → Spot) (r : Room) (l : List Spot) (s : Spot) : putWalls g r (l ++ [s]) = wallR (putWalls g r l) (g s) true := by
  unfold putWalls; rw [List.foldl_append]; rfl
theorem putAll_dims (g : Spot → Spot) (q : Spot → Bool) (r : Room) (l : List Spot) : (putAll g q r l).w = r.w ∧ (putAll g q r l).h = r.h := by
  unfold putAll
  induction l generalizing r with
  | nil => exact ⟨rfl, rfl⟩
  | cons s l ih => have := ih (wallR r (g s) (q s)); have := wallR_dims r (g s) (q s); rw [List.foldl_cons]; simp_all
theorem putWalls_dims (g : Spot → Spot) (r : Room) (l : List Spot) : (putWalls g r l).w = r.w ∧ (putWalls g r l).h = r.h := by
  unfold putWalls
  induction l generalizing r with
  | nil => exact ⟨rfl, rfl⟩
  | cons s l ih => have := ih (wallR r (g s) true); have := wallR_dims r (g s) true; rw [List.foldl_cons]; simp_all
theorem putAll_rows {g : Spot → Spot} {q : Spot → Bool} {r : Room} (h : rowsOk r.f) (l : List Spot) : rowsOk (putAll g q r l).f := by
  unfold putAll
  induction l generalizing r with
  | nil => exact h
  | cons s l ih => exact ih (wallR_rows h)
/-- Where nothing has been put nothing stands. -/
theorem putAll_zero {g : Spot → Spot} {q : Spot → Bool} {r : Room} (hz : ∀ y, r.f y = 0) : ∀ (n : Nat) (l : List Spot), l.length = n → (∀ s ∈ l, 0 ≤ (g s).x ∧ (g s).x < 10) → ∀ (y j : Nat), (∀ s ∈ l, ¬ (y = (g s).y.toNat ∧ j = (g s).x.toNat)) →
    ((putAll g q r l).f y).testBit j = false := by
  have hr : rowsOk r.f := fun y => by rw [hz]; decide
  intro n
  induction n with
  | zero =>
    intro l hl _ y j _
    obtain rfl := List.eq_nil_of_length_eq_zero hl
    show (r.f y).testBit j = false
    rw [hz]; exact Nat.zero_testBit j
  | succ n ih =>
    intro l hl hg y j hno
    rcases List.eq_nil_or_concat l with rfl | ⟨l', s, rfl⟩
    · cases hl
    · rw [List.concat_eq_append] at hno ⊢ hl hg
      rw [putAll_snoc, wallR_bit (putAll_rows hr l') (hg s (by simp)), if_neg (hno s (by simp))]
      exact ih l' (by simpa using hl) (fun t ht => hg t (by simp [ht])) y j fun t ht => hno t (by simp [ht])
/-- Putting only where there are walls comes to the same. -/
theorem put_same {g : Spot → Spot} {q : Spot → Bool} {r : Room} (hz : ∀ y, r.f y = 0) :
    ∀ (n : Nat) (l : List Spot), l.length = n → (∀ s ∈ l, (0 ≤ (g s).x ∧ (g s).x < 10) ∧ 0 ≤ (g s).y ∧ (g s).y < 10) → (∀ (l1 : List Spot) (s : Spot), (∃ l2, l = l1 ++ s :: l2) → ∀ t ∈ l1, g t ≠ g s) → roomC (putAll g q r l) = roomC (putWalls g r (l.filter q)) := by
  have hr : rowsOk r.f := fun y => by rw [hz]; decide
  intro n
  induction n with
  | zero => intro l hl _ _; obtain rfl := List.eq_nil_of_length_eq_zero hl; rfl
  | succ n ih =>
    intro l hl hg hd
    rcases List.eq_nil_or_concat l with rfl | ⟨l', s, rfl⟩
    · cases hl
    · rw [List.concat_eq_append] at hd ⊢ hl hg
      have hgl : ∀ t ∈ l', (0 ≤ (g t).x ∧ (g t).x < 10) ∧ 0 ≤ (g t).y ∧ (g t).y < 10 := fun t ht => hg t (by simp [ht])
      have hgs := hg s (by simp)
      have e := ih l' (by simpa using hl) hgl fun l1 t ⟨l2, h2⟩ => hd l1 t ⟨l2 ++ [s], by rw [h2]; simp⟩
      have hne := hd l' s ⟨[], rfl⟩
      rw [putAll_snoc, List.filter_append]
      cases hq : q s
      · rw [List.filter_cons_of_neg (by rw [hq]; simp), List.filter_nil, List.append_nil, ← e]
        have hdm := wallR_dims (putAll g q r l') (g s) false
        refine roomC_congr hdm.1 hdm.2 fun y _ => Nat.eq_of_testBit_eq fun j => ?_
        rw [wallR_bit (putAll_rows hr l') hgs.1]
        split
        · rename_i h
          refine (putAll_zero hz _ l' rfl (fun s hs => (hgl s hs).1) y j fun t ht hc => hne t ht ?_).symm
          have a := hgl t ht
          have b := hgs
          exact spot_ext (by omega) (by omega)
        · rfl
      · rw [List.filter_cons_of_pos hq, List.filter_nil, putWalls_snoc]
        exact wallR_congr e (by omega)

theorem rowCells_nodup (y x : Nat) : (rowCells y x).Nodup := by
  unfold rowCells
  refine List.Pairwise.map _ ?_ (List.nodup_range (n := x))
  intro a b h e
  simp only [Spot.mk.injEq, Int.ofNat_inj] at e
  exact h e.1
theorem cellsTo_nodup (w : Nat) : ∀ (y x : Nat), (cellsTo w y x).Nodup := by
  intro y
  induction y with
  | zero => exact fun x => rowCells_nodup 0 x
  | succ y ih =>
    intro x
    refine List.nodup_append.mpr ⟨ih w, rowCells_nodup _ _, fun a ha b hb e => ?_⟩
    subst e
    obtain ⟨c, d, e1, h1, _⟩ := mem_cellsTo ha
    obtain ⟨i, _, e2⟩ := List.mem_map.mp hb
    rw [e1] at e2
    simp only [Spot.mk.injEq, Int.ofNat_inj] at e2
    omega
theorem apart_of {g : Spot → Spot} {l : List Spot} (hn : l.Nodup) (hinj : ∀ s ∈ l, ∀ t ∈ l, g t = g s → t = s) (l1 : List Spot) (s : Spot) (h : ∃ l2, l = l1 ++ s :: l2) : ∀ t ∈ l1, g t ≠ g s := by
  obtain ⟨l2, rfl⟩ := h
  intro t ht e
  have := hinj s (by simp) t (by simp [ht]) e
  subst this
  rw [List.nodup_append] at hn
  exact hn.2.2 t ht t (by simp) rfl
/-- Mirrored, turned. -/
def gM (r : Room) (s : Spot) : Spot := ⟨r.w - 1 - s.x, s.y⟩
def qM (r : Room) (s : Spot) : Bool := !freeB r s
def zM (r : Room) : Room := ⟨r.w, r.h, fun _ => 0⟩
def qT (r : Room) (s : Spot) : Bool := !freeB r ⟨s.y, r.h - 1 - s.x⟩
def zT (r : Room) : Room := ⟨r.h, r.w, fun _ => 0⟩
def mirrorR (r : Room) : Room := putWalls (gM r) (zM r) ((allCells r).filter (qM r))
def turnR (r : Room) : Room := putWalls id (zT r) ((allCells (zT r)).filter (qT r))
theorem mem_all {r : Room} {s : Spot} (h : s ∈ allCells r) (h1 : 0 ≤ r.w) (h2 : 0 ≤ r.h) : 0 ≤ s.x ∧ s.x < r.w ∧ 0 ≤ s.y ∧ s.y < r.h := by
  obtain ⟨a, b, rfl, _, h3⟩ := mem_cellsTo h
  show 0 ≤ (a : Int) ∧ (a : Int) < r.w ∧ 0 ≤ (b : Int) ∧ (b : Int) < r.h
  omega
theorem mirror_all {r : Room} (hr : okRoom r) : roomC (putAll (gM r) (qM r) (zM r) (allCells r)) = roomC (mirrorR r) := by
  obtain ⟨r1, r2, r3, r4, _⟩ := hr
  refine put_same (fun _ => rfl) _ _ rfl (fun s hs => ?_) (apart_of (cellsTo_nodup _ _ _) fun s hs t ht e => ?_)
  · have := mem_all hs (by omega) (by omega)
    show (0 ≤ r.w - 1 - s.x ∧ r.w - 1 - s.x < 10) ∧ 0 ≤ s.y ∧ s.y < 10
    omega
  · unfold gM at e
    simp only [Spot.mk.injEq] at e
    exact spot_ext (by omega) e.2
theorem turn_all {r : Room} (hr : okRoom r) : roomC (putAll id (qT r) (zT r) (allCells (zT r))) = roomC (turnR r) := by
  obtain ⟨r1, r2, r3, r4, _⟩ := hr
  refine put_same (fun _ => rfl) _ _ rfl (fun s hs => ?_) (apart_of (cellsTo_nodup _ _ _) fun s hs t ht e => e)
  have := mem_all hs (show 0 ≤ r.h by omega) (show 0 ≤ r.w by omega)
  have h1 : (zT r).w = r.h := rfl
  have h2 : (zT r).h = r.w := rfl
  show (0 ≤ s.x ∧ s.x < 10) ∧ 0 ≤ s.y ∧ s.y < 10
  omega
theorem filter_at {r : Room} {q : Spot → Bool} {i : Nat} {s : Spot} (h : ((allCells r).filter q)[i]? = some s) (h1 : 0 ≤ r.w) (h2 : 0 ≤ r.h) : 0 ≤ s.x ∧ s.x < r.w ∧ 0 ≤ s.y ∧ s.y < r.h :=
  mem_all (List.mem_filter.mp (List.mem_of_getElem? h)).1 h1 h2
theorem putWalls_take {g : Spot → Spot} {r : Room} {l : List Spot} {i : Nat} {s : Spot} (h : l[i]? = some s) : wallR (putWalls g r (l.take i)) (g s) true = putWalls g r (l.take (i + 1)) := by
  rw [List.take_add_one, h]; exact (putWalls_snoc _ _ _ _).symm
end Go.AW

/- Texts of rooms, byte by byte. -/
namespace Go.AW
open Go
set_option linter.unusedVariables false

def textTo (sg : Spot → Int) (w : Nat) : Nat → Nat → List Int
  | 0, x => (rowCells 0 x).map sg
  | y + 1, x => (textTo sg w y w ++ [10]) ++ (rowCells (y + 1) x).map sg
theorem textTo_succ (sg : Spot → Int) (w y x : Nat) : textTo sg w y (x + 1) = textTo sg w y x ++ [sg ⟨x, y⟩] := by
  cases y with
  | zero => show (rowCells 0 (x + 1)).map sg = (rowCells 0 x).map sg ++ _; rw [rowCells_succ, List.map_append]; rfl
  | succ y => show _ ++ (rowCells _ _).map sg = (_ ++ (rowCells _ _).map sg) ++ _; rw [rowCells_succ, List.map_append, ← List.append_assoc]; rfl
theorem textTo_row (sg : Spot → Int) (w y : Nat) : textTo sg w (y + 1) 0 = textTo sg w y w ++ [10] := by
  show (textTo sg w y w ++ [10]) ++ [] = _
  rw [List.append_nil]
theorem textTo_len (sg : Spot → Int) (w y x : Nat) : (textTo sg w y x).length = (w + 1) * y + x := by
  induction y generalizing x with
  | zero => simp [textTo, rowCells]
  | succ y ih => simp [textTo, rowCells, ih, Nat.mul_succ]; omega
theorem textTo_bnd (sg : Spot → Int) {w y x : Nat} (h1 : w ≤ 10) (h2 : y ≤ 10) (h3 : x ≤ 10) : (textTo sg w y x).length ≤ 120 := by
  rw [textTo_len]
  have : (w + 1) * y ≤ 11 * 10 := Nat.mul_le_mul (by omega) h2
  omega
theorem strOf_app (l : List Int) (n : Int) : strOf l ++ ⟨#[UInt8.ofNat n.toNat]⟩ = strOf (l ++ [n]) := by
  rw [strOf_snoc]
  apply ByteArray.ext
  simp
def signB (r : Room) (s : Spot) : Int := if freeB r s = true then 46 else 35
def textR (r : Room) : ByteArray := strOf (textTo (signB r) r.w.toNat r.h.toNat 0)
end Go.AW

/- A call that the kit has proved, as a contract: a new block of plain cells. -/
namespace Go.AW
open Go Go.RowKit
set_option linter.unusedVariables false
theorem acd_new {P : Program} {f : FuncId} {args : List Value} {H : AHeap} {cs : List Value} {ty : TypeId} {k : Nat} (hi : ∀ v ∈ args, ∀ (β : Bt) v', VR β v v' → v' = v) (hl : ∀ β : Bt, VRL β cs cs) (hk : cs.length = k)
    (h : ∀ w, Calls P f args.toArray w fun e w' => e = .returned (.slice (some ⟨w.heap.size, 0, none⟩) k k) ∧ w' = w.alloc (.cells cs.toArray ty)) :
    ACd P f args H (.slice (some ⟨H.next, 0, none⟩) k (k + 1)) (H.push (.cells cs 1)) := by
  intro β args' w hsz hv hh
  have ha : args' = args.toArray := by
    apply Array.ext_getElem?
    intro i
    by_cases hj : i < args.length
    · have h1 : args[i]? = some args[i] := List.getElem?_eq_getElem hj
      have h2 : args'[i]? = some args'[i] := Array.getElem?_eq_getElem (by omega)
      rw [h2, List.getElem?_toArray, h1, hi _ (List.getElem_mem hj) β _ (hv i _ _ h1 h2)]
    · rw [Array.getElem?_eq_none (by omega), Array.getElem?_eq_none (by simp; omega)]
  rw [ha]
  refine (h w).mono ?_
  rintro e w' ⟨rfl, rfl⟩
  obtain ⟨k1, k2⟩ := hh.alloc (o := .cells cs.toArray ty) (S := cs.toArray.size) (es := 1) (BR.new (w := w) (e := ty) (es := 1) (C := cs.toArray) (hl β))
  exact ⟨_, rfl, _, _, _, ⟨rfl, rfl⟩, .slice ⟨rfl, rfl, Nat.le_refl _, fun e => by omega, _, Bt.set_same _ _ _, fun B o S es own h => by cases h; exact ⟨rfl, .inr ⟨rfl, fun _ => by simp; omega⟩, fun h => by omega⟩⟩, k1, k2, by show H.next ≤ H.next + 1; omega⟩
theorem id_string (s : ByteArray) : ∀ (β : Bt) v', VR β (.string s) v' → v' = .string s := fun β v' h => h.string_inv
theorem id_int (k : IntKind) (n : Int) : ∀ (β : Bt) v', VR β (.int k n) v' → v' = .int k n := fun β v' h => h.int_inv
end Go.AW
namespace Go.AW
open Go Go.RowKit
set_option linter.unusedVariables false
section
variable {P : Program} {H : AHeap} {ρ : Operand → Value} {g : Option (Nat × Bool)} {d : Option Tmp} {ty : TypeId} {pos : String} {aft : Array Edge}
/-- s[l:h], s[l:], s[:h] of a string. -/
theorem ao_sliceStr2 {t : TypeId} {x lo hi : Operand} {s : ByteArray} {l h : Nat} {k1 k2 : IntKind} {i j : Int} (hu : P.underlying t = some .string) (hx : ρ x = .string s) (hlo : ρ lo = .int k1 i) (hhi : ρ hi = .int k2 j) (hi' : i = (l : Int)) (hj' : j = (h : Int)) (h1 : l ≤ h) (h2 : h ≤ s.size) :
    AOd P ⟨d, .slice t x (some lo) (some hi) none, ty, pos, aft, g⟩ ρ H (.string (s.extract l h)) H :=
  AO.pure fun β ρ' w hv hh => by
    have q1 := hv x (by simp [Op.operands]); rw [hx] at q1
    have q2 := hv lo (by simp [Op.operands]); rw [hlo] at q2
    have q3 := hv hi (by simp [Op.operands]); rw [hhi] at q3
    refine ⟨_, ?_, .string _⟩
    subst hi'; subst hj'
    have := run_slice_string (P := P) (w := w) t s k1 k2 (l : Int) (h : Int) hu (by omega) (by omega) (by omega)
    simp [execOp, q1.string_inv, q2.int_inv, q3.int_inv, go_sem, Instr.sliceAt, underlying, hu, this]
theorem ao_sliceStrHi {t : TypeId} {x hi : Operand} {s : ByteArray} {h : Nat} {k1 : IntKind} {j : Int} (hu : P.underlying t = some .string) (hx : ρ x = .string s) (hhi : ρ hi = .int k1 j) (hj' : j = (h : Int)) (h1 : h ≤ s.size) :
    AOd P ⟨d, .slice t x none (some hi) none, ty, pos, aft, g⟩ ρ H (.string (s.extract 0 h)) H :=
  AO.pure fun β ρ' w hv hh => by
    have q1 := hv x (by simp [Op.operands]); rw [hx] at q1
    have q2 := hv hi (by simp [Op.operands]); rw [hhi] at q2
    refine ⟨_, ?_, .string _⟩
    subst hj'
    have := run_slice_string_h (P := P) (w := w) (t := t) (s := s) hu k1 (h : Int) (by omega) (by omega)
    simp [execOp, q1.string_inv, q2.int_inv, go_sem, Instr.sliceAt, underlying, hu, this]
theorem ao_sliceStrLo {t : TypeId} {x lo : Operand} {s : ByteArray} {l : Nat} {k1 : IntKind} {i : Int} (hu : P.underlying t = some .string) (hx : ρ x = .string s) (hlo : ρ lo = .int k1 i) (hi' : i = (l : Int)) (h1 : l ≤ s.size) :
    AOd P ⟨d, .slice t x (some lo) none none, ty, pos, aft, g⟩ ρ H (.string (s.extract l s.size)) H :=
  AO.pure fun β ρ' w hv hh => by
    have q1 := hv x (by simp [Op.operands]); rw [hx] at q1
    have q2 := hv lo (by simp [Op.operands]); rw [hlo] at q2
    refine ⟨_, ?_, .string _⟩
    subst hi'
    have := run_slice_string_l (P := P) (w := w) (t := t) (s := s) hu k1 (l : Int) (by omega) (by omega)
    simp [execOp, q1.string_inv, q2.int_inv, go_sem, Instr.sliceAt, underlying, hu, this]
end
end Go.AW
namespace Go.AW
open Go Go.RowKit
set_option linter.unusedVariables false
/-- A new block that nobody looks at. -/
theorem HRel.lost {β : Bt} {H : AHeap} {w : World} (h : HRel β H w) (o : Obj) :
    HRel (β.set H.next .stale) ((H.push (.cells [] 1)).kill H.next) (w.alloc o) ∧ Step H.next β w (β.set H.next .stale) (w.alloc o) := by
  have hext := ext_set (t := .stale) h.dom
  have hold : ∀ B, B < w.heap.size → (w.alloc o).heap[B]? = w.heap[B]? := fun B hB => Go.RowKit.Below.heap_alloc _ _ _ hB
  have hgl : Glob (β.set H.next .stale) (w.alloc o) := h.glob.of (fun g hg _ => hold g hg.lt) fun b g o' S' es' hb => by
    by_cases hn : b = H.next
    · subst hn; rw [Bt.set_same] at hb; cases hb
    · rw [Bt.set_ne _ _ hn] at hb; exact .inl ⟨_, _, _, _, hb⟩
  refine ⟨⟨?_, ?_, ?_, ?_, hgl⟩, ⟨hext, ?_, ?_, ?_, rfl, rfl, rfl, by simp, fun B hB _ => hold B hB⟩⟩
  · intro b B o' S' es' own hb
    by_cases hn : b = H.next
    · subst hn; rw [Bt.set_same] at hb; cases hb
    · rw [Bt.set_ne _ _ hn] at hb
      obtain ⟨k', hk', hr⟩ := h.rel b B o' S' es' own hb
      exact ⟨k', (blk_kill_ne hn).trans (blk_push_old hk'), hr.mono hext (hold B (h.lt hb))⟩
  · intro b hb
    by_cases hn : b = H.next
    · subst hn; exact blk_kill_same _ _
    · rw [Bt.set_ne _ _ hn] at hb
      rw [blk_kill_ne hn, blk_push_ne hn]; exact h.stale b hb
  · intro b1 b2 B o1 S1 es1 own1 o2 S2 es2 own2 h1 h2 ho
    by_cases e1 : b1 = H.next
    · subst e1; rw [Bt.set_same] at h1; cases h1
    · by_cases e2 : b2 = H.next
      · subst e2; rw [Bt.set_same] at h2; cases h2
      · rw [Bt.set_ne _ _ e1] at h1; rw [Bt.set_ne _ _ e2] at h2
        exact h.inj b1 b2 B o1 S1 es1 own1 o2 S2 es2 own2 h1 h2 ho
  · intro b hb
    have : H.next + 1 ≤ b := hb
    rw [Bt.set_ne _ _ (by omega)]; exact h.dom b (by omega)
  · intro b hb hn
    rw [Bt.set_ne _ _ (by omega)]; exact hn
  · intro b B o' S' es' hb
    by_cases hn : b = H.next
    · subst hn; rw [Bt.set_same] at hb; cases hb
    · rw [Bt.set_ne _ _ hn] at hb; exact .inl ⟨_, _, _, _, hb⟩
  · intro b B o' S' es' hb
    by_cases hn : b = H.next
    · subst hn; rw [Bt.set_same] at hb; cases hb
    · rw [Bt.set_ne _ _ hn] at hb; exact hb
end Go.AW
namespace Go.AW
open Go Go.RowKit
set_option linter.unusedVariables false
/-- []byte(s): only its length is known. -/
theorem ao_s2b {P : Program} {H : AHeap} {ρ : Operand → Value} {g : Option (Nat × Bool)} {d : Option Tmp} {ty : TypeId} {pos : String} {aft : Array Edge} {src dst e : TypeId} {x : Operand} {s : ByteArray} (hs : P.underlying src = some .string) (hd : P.underlying dst = some (.slice e)) (he : P.underlying e = some (.int .u8)) (hx : ρ x = .string s) :
    AOd P ⟨d, .convert src dst x, ty, pos, aft, g⟩ ρ H (.slice (some ⟨H.next, 0, none⟩) s.size (s.size + 1)) ((H.push (.cells [] 1)).kill H.next) := by
  intro β ρ' w h hh
  have q1 := h x (by simp [Op.operands]); rw [hx] at q1
  have hr := run_bytes_of_string (P := P) w src dst e s hs hd he
  obtain ⟨k1, k2⟩ := hh.drew.lost (.cells (bytesRow s (grownCap w s.size 0 e)) e ((bytesRow s (grownCap w s.size 0 e)).size, (bytesRow s (grownCap w s.size 0 e)).size + 1))
  refine gives_value (v := .slice (some ⟨w.heap.size, 0, none⟩) s.size (grownCap w s.size 0 e)) ?_ ⟨_, _, _, ⟨rfl, rfl⟩, .slice ⟨rfl, rfl, grownCap_ge _ _ _ _, fun e => by omega, _, Bt.set_same _ _ _, fun B o S es own h => by cases h⟩, k1, (Step.drew _ _ _).trans k2 (Nat.le_refl _), by show H.next ≤ H.next + 1; omega⟩
  simp [execOp, q1.string_inv, go_sem, hr]
end Go.AW

/- Texts that are cut at a byte. -/
namespace Go.AW
open Go
set_option linter.unusedVariables false

def str1 (s : ByteArray) : List Value := [.string s]
theorem str1_len (x : ByteArray) : (str1 x).length = 1 := rfl
theorem str1_plain (x : ByteArray) : (str1 x).all plain1 = true := rfl
theorem fl_str1 (l : List ByteArray) : fl str1 l = l.map Value.string := by
  induction l with
  | nil => rfl
  | cons a l ih => rw [fl_cons, ih]; rfl
theorem u8_eq {b c : UInt8} : ((b.toNat : Int) = (c.toNat : Int)) ↔ b = c := ⟨fun h => UInt8.toNat_inj.mp (by omega), fun h => by rw [h]⟩
theorem u8_is {b k : UInt8} {n : Int} (h : (b.toNat : Int) = n) (e : n = (k.toNat : Int)) : b = k := u8_eq.mp (h.trans e)
theorem toL_inj {p q : ByteArray} (h : p.toList = q.toList) : p = q := by
  rw [Go.ByteArray.toList_eq, Go.ByteArray.toList_eq] at h
  exact ByteArray.ext (Array.toList_inj.mp h)
theorem empty_size {p : ByteArray} (h : p.toList = (⟨#[]⟩ : ByteArray).toList) : p.size = 0 := by rw [toL_inj h]; rfl
theorem subN {n h : Nat} (e : n = h + 1) (hb : n < 4611686018427387904) : Value.int .i64 (IntKind.i64.wrap ((n : Int) - 1)) = .int .i64 ((h : Nat) : Int) := by
  subst e; exact sub1 h (by omega)
theorem minN {a b : Nat} {z : Int} (e : z = (b : Int)) : ∃ m : Nat, Value.int .i64 (if z < (a : Int) then z else (a : Int)) = .int .i64 (m : Int) ∧ m ≤ a ∧ m ≤ b ∧ (m = a ∨ m = b) := by
  subst e
  by_cases h : (b : Int) < (a : Int)
  · exact ⟨b, by rw [if_pos h], by omega, Nat.le_refl _, .inr rfl⟩
  · exact ⟨a, by rw [if_neg h], Nat.le_refl _, by omega, .inl rfl⟩
def cutL (c : UInt8) : List UInt8 → List (List UInt8)
  | [] => [[]]
  | b :: l => if b = c then [] :: cutL c l else (b :: (cutL c l).headD []) :: (cutL c l).tail
theorem cutL_miss {c : UInt8} : ∀ {p : List UInt8}, c ∉ p → cutL c p = [p]
  | [], _ => rfl
  | b :: p, h => by
    have h1 : b ≠ c := fun e => h (e ▸ List.mem_cons_self)
    have h2 := cutL_miss (p := p) (fun e => h (List.mem_cons_of_mem _ e))
    rw [cutL, if_neg h1, h2]; rfl
theorem cutL_hit {c : UInt8} : ∀ {p l : List UInt8}, c ∉ p → cutL c (p ++ c :: l) = p :: cutL c l
  | [], l, _ => by rw [List.nil_append, cutL, if_pos rfl]
  | b :: p, l, h => by
    have h1 : b ≠ c := fun e => h (e ▸ List.mem_cons_self)
    have h2 := cutL_hit (p := p) (l := l) (fun e => h (List.mem_cons_of_mem _ e))
    rw [List.cons_append, cutL, if_neg h1, h2]; rfl
theorem cutL_join (c : UInt8) : ∀ l : List UInt8, ∃ ps p, cutL c l = ps ++ [p] ∧ l = ps.flatMap (fun q => q ++ [c]) ++ p ∧ (∀ q ∈ ps, c ∉ q) ∧ c ∉ p
  | [] => ⟨[], [], rfl, rfl, by simp, by simp⟩
  | b :: l => by
    obtain ⟨ps, p, h1, h2, h3, h4⟩ := cutL_join c l
    by_cases h : b = c
    · subst h
      refine ⟨[] :: ps, p, by rw [cutL, if_pos rfl, h1]; rfl, ?_, ?_, h4⟩
      · rw [List.flatMap_cons, List.nil_append, List.append_assoc, ← h2]; rfl
      · intro q hq
        rcases List.mem_cons.mp hq with rfl | hq
        · simp
        · exact h3 q hq
    · rw [cutL, if_neg h, h1]
      have hbc : ∀ q : List UInt8, c ∉ q → c ∉ b :: q := fun q hq e => by
        rcases List.mem_cons.mp e with e | e
        · exact h e.symm
        · exact hq e
      cases ps with
      | nil => exact ⟨[], b :: p, rfl, by rw [h2]; rfl, by simp, hbc p h4⟩
      | cons q ps =>
        refine ⟨(b :: q) :: ps, p, rfl, by rw [h2]; simp, ?_, h4⟩
        intro x hx
        rcases List.mem_cons.mp hx with rfl | hx
        · exact hbc q (h3 q (by simp))
        · exact h3 x (by simp [hx])
theorem cutL_rows {α : Type} {c : UInt8} {L : α → List UInt8} {last : List UInt8} (hl : c ∉ last) : ∀ ks : List α, (∀ k ∈ ks, c ∉ L k) → cutL c (ks.flatMap (fun k => L k ++ [c]) ++ last) = ks.map L ++ [last]
  | [], _ => cutL_miss hl
  | k :: ks, h => by
    rw [List.flatMap_cons, List.append_assoc, List.append_assoc]
    show cutL c (L k ++ c :: (_ ++ last)) = _
    rw [cutL_hit (h k (by simp)), cutL_rows hl ks fun x hx => h x (by simp [hx])]; rfl
theorem indexByte_miss {c : UInt8} : ∀ {l : List UInt8}, c ∉ l → Lib.indexByte l c = -1
  | [], _ => rfl
  | b :: l, h => by
    have h1 : b ≠ c := fun e => h (e ▸ List.mem_cons_self)
    have h2 := indexByte_miss (l := l) (fun e => h (List.mem_cons_of_mem _ e))
    rw [Lib.indexByte, if_neg (by simpa using h1), h2]; rfl
theorem indexByte_hit {c : UInt8} : ∀ {p l : List UInt8}, c ∉ p → Lib.indexByte (p ++ c :: l) c = (p.length : Int)
  | [], l, _ => by rw [List.nil_append, Lib.indexByte, if_pos (by simp)]; rfl
  | b :: p, l, h => by
    have h1 : b ≠ c := fun e => h (e ▸ List.mem_cons_self)
    have h2 := indexByte_hit (p := p) (l := l) (fun e => h (List.mem_cons_of_mem _ e))
    rw [List.cons_append, Lib.indexByte, if_neg (by simpa using h1), h2, if_neg (by rw [beq_iff_eq]; omega), List.length_cons]; omega
theorem splitK_cut {c : UInt8} : ∀ (n : Nat) (l : List UInt8), l.length ≤ n → Lib.splitK [c] 0 (Lib.count l [c]) l = cutL c l := by
  intro n
  induction n with
  | zero =>
    intro l hl
    obtain rfl := List.eq_nil_of_length_eq_zero (by omega : l.length = 0)
    rfl
  | succ n ih =>
    intro l hl
    by_cases h : c ∈ l
    · obtain ⟨p, r, rfl, hp⟩ := List.eq_append_cons_of_mem h
      have hi : Lib.index (p ++ c :: r) [c] = (p.length : Int) := by rw [Lib.index_one]; exact indexByte_hit hp
      have hd : (p ++ c :: r).drop (p.length + [c].length) = r := by
        rw [show p ++ c :: r = (p ++ [c]) ++ r by simp]; exact List.drop_left' (by simp)
      rw [Lib.count_hit (by simp) hi, hd, Nat.add_comm, Lib.splitK, if_neg (by rw [hi, beq_iff_eq]; omega), hi, Int.toNat_natCast, hd, cutL_hit hp]
      rw [ih r (by simp at hl; omega)]
      congr 1
      rw [Nat.add_zero]; exact List.take_left' rfl
    · have hi : Lib.index l [c] = -1 := by rw [Lib.index_one]; exact indexByte_miss h
      rw [Lib.count_miss hi, cutL_miss h]; rfl
/-- A text's pieces. -/
def ofL (l : List UInt8) : ByteArray := ⟨l.toArray⟩
theorem ofL_data (l : List UInt8) : (ofL l).data.toList = l := rfl
theorem ofL_of (t : ByteArray) : ofL t.data.toList = t := by cases t; rfl
theorem ofL_inj {l m : List UInt8} (h : ofL l = ofL m) : l = m := by rw [← ofL_data l, h]; rfl
def pcs (c : UInt8) (t : ByteArray) : List ByteArray := (cutL c t.data.toList).map ofL
theorem splitB_pcs (c : UInt8) (t : ByteArray) : Lib.splitB ⟨#[c]⟩ 0 (Lib.countB t ⟨#[c]⟩) t = pcs c t := by
  have h := Lib.splitB_data ⟨#[c]⟩ 0 (Lib.countB t ⟨#[c]⟩) t
  have h2 := splitK_cut (c := c) _ t.data.toList (Nat.le_refl _)
  have h3 : (Lib.splitB ⟨#[c]⟩ 0 (Lib.countB t ⟨#[c]⟩) t).map (·.data.toList) = cutL c t.data.toList := h.trans h2
  unfold pcs
  rw [← h3, List.map_map]
  exact (List.map_id'' (fun x => ofL_of x) _).symm
theorem countB_pcs (c : UInt8) (t : ByteArray) : Lib.countB t ⟨#[c]⟩ + 1 = (pcs c t).length := by
  rw [← splitB_pcs, Lib.splitB_all ⟨#[c]⟩ (Nat.le_refl 1) 0 _ t rfl]
theorem cutL_pos (c : UInt8) (l : List UInt8) : 0 < (cutL c l).length := by
  obtain ⟨ps, p, h, _⟩ := cutL_join c l; rw [h]; simp
theorem pcs_pos (c : UInt8) (t : ByteArray) : 0 < (pcs c t).length := by unfold pcs; rw [List.length_map]; exact cutL_pos _ _
theorem pcs_size (c : UInt8) (t : ByteArray) : ∀ {i : Nat} {p : ByteArray}, (pcs c t)[i]? = some p → p.size ≤ t.size := by
  intro i p h
  obtain ⟨ps, q, h1, h2, _⟩ := cutL_join c t.data.toList
  have hm : p.data.toList ∈ cutL c t.data.toList := by
    unfold pcs at h
    rw [List.getElem?_map] at h
    cases hx : (cutL c t.data.toList)[i]? with
    | none => rw [hx] at h; cases h
    | some x => rw [hx] at h; cases h; exact List.mem_of_getElem? hx
  have hsz : ∀ (s : ByteArray), s.size = s.data.toList.length := fun s => by cases s; simp [ByteArray.size]
  rw [hsz, hsz]
  have key : ∀ (ps : List (List UInt8)) (x : List UInt8), x ∈ ps → x.length ≤ (ps.flatMap (fun q => q ++ [c])).length := by
    intro ps
    induction ps with
    | nil => intro x hx; cases hx
    | cons a ps ih =>
      intro x hx
      rw [List.flatMap_cons, List.length_append, List.length_append]
      rcases List.mem_cons.mp hx with rfl | hx
      · omega
      · have := ih x hx; omega
  rw [h1] at hm
  have hlen : t.data.toList.length = (ps.flatMap (fun q => q ++ [c])).length + q.length := by rw [← List.length_append, ← h2]
  rcases List.mem_append.mp hm with hm | hm
  · have := key ps _ hm; omega
  · rw [List.mem_singleton.mp hm]; omega
theorem cutL_le (c : UInt8) (l : List UInt8) : (cutL c l).length ≤ l.length + 1 := by
  induction l with
  | nil => exact Nat.le_refl _
  | cons b l ih =>
    have := cutL_pos c l
    rw [cutL]
    split
    · simp; omega
    · simp; omega
theorem ba_size (s : ByteArray) : s.size = s.data.toList.length := by cases s; simp [ByteArray.size]
theorem pcs_len (c : UInt8) (t : ByteArray) : (pcs c t).length ≤ t.size + 1 := by unfold pcs; rw [List.length_map, ba_size]; exact cutL_le _ _
theorem ba_get (t : ByteArray) (i : Nat) : t[i]? = t.data.toList[i]? := by
  by_cases h : i < t.size
  · rw [getElem?_pos t i h, List.getElem?_eq_getElem (by rw [← ba_size]; exact h)]; rfl
  · rw [getElem?_neg t i h, List.getElem?_eq_none (by rw [← ba_size]; omega)]
theorem strAt {t : ByteArray} {i : Nat} (h : i < t.size) : ∃ b, t[i]? = some b := ⟨t[i], by rw [getElem?_pos t i h]⟩
theorem ba_none {t : ByteArray} {i : Nat} (h : t.size ≤ i) : t[i]? = none := getElem?_neg t i (by omega)
theorem extract_toL (t : ByteArray) (a b : Nat) : (t.extract a b).data.toList = (t.data.toList.take b).drop a := by
  rw [ByteArray.data_extract, Array.toList_extract, List.extract_eq_take_drop, List.drop_take]

/-- What a walk that cuts a text byte by byte knows: the pieces so far, and where the next one begins. -/
def cutTo (c : UInt8) (t : ByteArray) (out : List ByteArray) (b i : Nat) : Prop :=
  b ≤ i ∧ i ≤ t.size ∧ out ++ (cutL c (t.data.toList.drop b)).map ofL = pcs c t ∧ c ∉ (t.data.toList.take i).drop b
theorem cutTo_init (c : UInt8) (t : ByteArray) : cutTo c t [] 0 0 := ⟨Nat.le_refl _, Nat.zero_le _, rfl, by simp⟩
theorem cutTo_hit {c : UInt8} {t : ByteArray} {out : List ByteArray} {b i : Nat} (h : cutTo c t out b i) (hi : t[i]? = some c) : cutTo c t (out ++ [t.extract b i]) (i + 1) (i + 1) := by
  obtain ⟨h1, h2, h3, h4⟩ := h
  rw [ba_get] at hi
  have hlt := (List.getElem?_eq_some_iff.mp hi).1
  refine ⟨Nat.le_refl _, by rw [ba_size]; omega, ?_, by simp⟩
  have e : t.data.toList.drop b = (t.data.toList.take i).drop b ++ c :: t.data.toList.drop (i + 1) := by
    have e1 : t.data.toList.drop i = c :: t.data.toList.drop (i + 1) := by
      obtain ⟨hl, he⟩ := List.getElem?_eq_some_iff.mp hi
      rw [List.drop_eq_getElem_cons hl, he]
    have e2 : t.data.toList = t.data.toList.take i ++ t.data.toList.drop i := (List.take_append_drop i _).symm
    conv => lhs; rw [e2]
    rw [List.drop_append_of_le_length (by rw [List.length_take]; omega), e1]
  rw [e, cutL_hit h4] at h3
  rw [List.append_assoc, ← h3, List.map_cons]
  congr 1
  show _ :: _ = _ :: _
  congr 1
  rw [← ofL_of (t.extract b i), extract_toL]
theorem cutTo_miss {c d : UInt8} {t : ByteArray} {out : List ByteArray} {b i : Nat} (h : cutTo c t out b i) (hi : t[i]? = some d) (hd : d ≠ c) : cutTo c t out b (i + 1) := by
  obtain ⟨h1, h2, h3, h4⟩ := h
  rw [ba_get] at hi
  have hlt := (List.getElem?_eq_some_iff.mp hi).1
  refine ⟨by omega, by rw [ba_size]; omega, h3, ?_⟩
  rw [List.take_add_one, hi, List.drop_append_of_le_length (by rw [List.length_take]; omega)]
  intro e
  rcases List.mem_append.mp e with e | e
  · exact h4 e
  · simp at e; exact hd e.symm
theorem cutTo_end {c : UInt8} {t : ByteArray} {out : List ByteArray} {b : Nat} (h : cutTo c t out b t.size) : out ++ [t.extract b t.size] = pcs c t := by
  obtain ⟨h1, _, h3, h4⟩ := h
  rw [ba_size, List.take_length] at h4
  rw [cutL_miss h4] at h3
  rw [← h3, List.map_singleton]
  congr 2
  rw [← ofL_of (t.extract b t.size), extract_toL, ba_size, List.take_length]
theorem cutTo_len {c : UInt8} {t : ByteArray} {out : List ByteArray} {b i : Nat} (h : cutTo c t out b i) : out.length ≤ t.size := by
  have h1 := congrArg List.length h.2.2.1
  have h2 := pcs_len c t
  have h3 := cutL_pos c (t.data.toList.drop b)
  rw [List.length_append, List.length_map] at h1
  omega
end Go.AW

/- Rooms that are read from texts. -/
namespace Go.AW
open Go
set_option linter.unusedVariables false

def tb (n : Int) : UInt8 := UInt8.ofNat n.toNat
theorem strOf_data (ns : List Int) : (strOf ns).data.toList = ns.map tb := by
  have : ∀ (l : List Int) (s : ByteArray), (l.foldl (fun r n => r.push (UInt8.ofNat n.toNat)) s).data.toList = s.data.toList ++ l.map tb := by
    intro l
    induction l with
    | nil => intro s; simp
    | cons a l ih => intro s; rw [List.foldl_cons, ih, ByteArray.data_push, Array.toList_push, List.append_assoc]; rfl
  exact this ns ByteArray.empty
def lineR (r : Room) (y : Nat) : List UInt8 := (rowCells y r.w.toNat).map fun s => tb (signB r s)
theorem textTo_split (sg : Spot → Int) (w y x : Nat) : textTo sg w y x = textTo sg w y 0 ++ (rowCells y x).map sg := by
  cases y with
  | zero => rfl
  | succ y => show _ ++ _ = (_ ++ List.map sg (rowCells (y + 1) 0)) ++ _; rw [show rowCells (y + 1) 0 = [] from rfl, List.map_nil, List.append_nil]
theorem textTo_rows (r : Room) (y : Nat) : (textTo (signB r) r.w.toNat y 0).map tb = (List.range y).flatMap fun k => lineR r k ++ [10] := by
  induction y with
  | zero => rfl
  | succ y ih =>
    rw [textTo_row, textTo_split, List.map_append, List.map_append, ih, List.range_succ, List.flatMap_append, List.flatMap_singleton, List.append_assoc, List.map_map]
    rfl
theorem textR_data (r : Room) : (textR r).data.toList = (List.range r.h.toNat).flatMap fun k => lineR r k ++ [10] := by
  unfold textR; rw [strOf_data, textTo_rows]
theorem sign_cases (r : Room) (s : Spot) : (freeB r s = true ∧ tb (signB r s) = 46) ∨ (freeB r s = false ∧ tb (signB r s) = 35) := by
  unfold signB
  cases h : freeB r s
  · exact .inr ⟨rfl, rfl⟩
  · exact .inl ⟨rfl, rfl⟩
theorem line_no (r : Room) (y : Nat) : (10 : UInt8) ∉ lineR r y := by
  intro h
  obtain ⟨s, _, e⟩ := List.mem_map.mp h
  rcases sign_cases r s with ⟨_, q⟩ | ⟨_, q⟩ <;> rw [q] at e <;> exact absurd e (by decide)
theorem line_len (r : Room) (y : Nat) : (lineR r y).length = r.w.toNat := by simp [lineR, rowCells]
theorem line_at (r : Room) (y : Nat) {x : Nat} (hx : x < r.w.toNat) : (lineR r y)[x]? = some (tb (signB r ⟨(x : Int), (y : Int)⟩)) := by
  unfold lineR rowCells
  rw [List.map_map, List.getElem?_map, List.getElem?_range hx]; rfl
/-- The pieces of a room's text. -/
def linesR (r : Room) : List ByteArray := (List.range r.h.toNat).map (fun k => ofL (lineR r k)) ++ [ofL []]
theorem pcs_text (r : Room) : pcs 10 (textR r) = linesR r := by
  unfold pcs linesR
  have h := cutL_rows (c := 10) (L := lineR r) (last := []) (by simp) (List.range r.h.toNat) fun k _ => line_no r k
  rw [List.append_nil] at h
  rw [textR_data, h, List.map_append, List.map_map]; rfl
theorem lines_len (r : Room) : (linesR r).length = r.h.toNat + 1 := by simp [linesR]
theorem lines_at (r : Room) {y : Nat} (hy : y < r.h.toNat) : (linesR r)[y]? = some (ofL (lineR r y)) := by
  unfold linesR
  rw [List.getElem?_append_left (by rw [List.length_map, List.length_range]; exact hy), List.getElem?_map, List.getElem?_range hy]; rfl
theorem lines_last (r : Room) : (linesR r)[r.h.toNat]? = some (ofL []) := by
  unfold linesR
  rw [List.getElem?_append_right (by simp)]; simp
theorem ofL_size (l : List UInt8) : (ofL l).size = l.length := by rw [ba_size, ofL_data]

/-- The byte of a piece. -/
def byteP (P : List ByteArray) (x y : Nat) : Option UInt8 := P[y]?.bind fun p => p[x]?
theorem byteP_of {P : List ByteArray} {x y : Nat} {p : ByteArray} (hp : P[y]? = some p) : byteP P x y = p[x]? := by unfold byteP; rw [hp]; rfl
def sharpB (P : List ByteArray) (x y : Nat) : Bool := byteP P x y == some 35
theorem byteP_lines (r : Room) {x y : Nat} (hx : x < r.w.toNat) (hy : y < r.h.toNat) : byteP (linesR r) x y = some (tb (signB r ⟨(x : Int), (y : Int)⟩)) := by
  rw [byteP_of (lines_at r hy), ba_get, ofL_data, line_at r y hx]
/-- The walls that are put by the pieces' bytes ahead of (x, y). -/
def bitsTo (P : List ByteArray) (w y x : Nat) (R : Room) : Prop :=
  rowsOk R.f ∧ ∀ y' j, (R.f y').testBit j = (decide (j < w ∧ (y' < y ∨ (y' = y ∧ j < x))) && sharpB P j y')
theorem bitsTo_init (P : List ByteArray) (w : Nat) (a b : Int) : bitsTo P w 0 0 ⟨a, b, fun _ => 0⟩ :=
  ⟨fun _ => (by decide : (0 : Nat) < 65536), fun y' j => by
    show (0 : Nat).testBit j = _
    rw [Nat.zero_testBit, decide_eq_false (by omega)]; rfl⟩
theorem bitsTo_yes {P : List ByteArray} {w y x : Nat} {R : Room} (h : bitsTo P w y x R) (hb : byteP P x y = some 35) (hx : x < w) (hw : w ≤ 10) : bitsTo P w y (x + 1) (wallR R ⟨(x : Int), (y : Int)⟩ true) := by
  refine ⟨wallR_rows h.1, fun y' j => ?_⟩
  rw [wallR_bit h.1 (by show 0 ≤ (x : Int) ∧ (x : Int) < 10; omega)]
  show (if y' = ((y : Nat) : Int).toNat ∧ j = ((x : Nat) : Int).toNat then true else _) = _
  rw [Int.toNat_natCast, Int.toNat_natCast]
  by_cases e : y' = y ∧ j = x
  · obtain ⟨rfl, rfl⟩ := e
    rw [if_pos ⟨rfl, rfl⟩, decide_eq_true (by omega)]
    unfold sharpB; rw [hb]; rfl
  · rw [if_neg e, h.2]
    congr 1
    exact decide_eq_decide.mpr (by omega)
theorem bitsTo_no {P : List ByteArray} {w y x : Nat} {R : Room} (h : bitsTo P w y x R) (hb : byteP P x y ≠ some 35) : bitsTo P w y (x + 1) R := by
  refine ⟨h.1, fun y' j => ?_⟩
  rw [h.2]
  by_cases e : y' = y ∧ j = x
  · obtain ⟨rfl, rfl⟩ := e
    have : sharpB P j y' = false := by unfold sharpB; exact beq_eq_false_iff_ne.mpr hb
    rw [this, Bool.and_false, Bool.and_false]
  · congr 1
    exact decide_eq_decide.mpr (by omega)
theorem bitsTo_row {P : List ByteArray} {w y x : Nat} {R : Room} (h : bitsTo P w y x R) (hx : ∀ j, x ≤ j → j < w → byteP P j y ≠ some 35) : bitsTo P w (y + 1) 0 R := by
  refine ⟨h.1, fun y' j => ?_⟩
  rw [h.2]
  by_cases e : y' = y ∧ x ≤ j ∧ j < w
  · obtain ⟨rfl, e1, e2⟩ := e
    have : sharpB P j y' = false := by unfold sharpB; exact beq_eq_false_iff_ne.mpr (hx j e1 e2)
    rw [this, Bool.and_false, Bool.and_false]
  · congr 1
    exact decide_eq_decide.mpr (by omega)
theorem bitsTo_ok {P : List ByteArray} {w h : Nat} {R : Room} (hb : bitsTo P w h 0 R) (e1 : R.w = w) (e2 : R.h = h) (h1 : 1 ≤ w) (h2 : w ≤ 10) (h3 : 1 ≤ h) (h4 : h ≤ 10) : okRoom R := by
  refine ⟨by omega, by omega, by omega, by omega, fun y _ => ⟨?_, fun hy => ?_⟩⟩
  · rw [e1, Int.toNat_natCast]
    refine Nat.lt_pow_two_of_testBit _ fun i hi => ?_
    rw [hb.2, decide_eq_false (by omega)]; rfl
  · refine Nat.eq_of_testBit_eq fun j => ?_
    rw [hb.2, decide_eq_false (by omega), Nat.zero_testBit]; rfl
theorem bitsTo_wf {P : List ByteArray} {w h y x : Nat} {R : Room} (hb : bitsTo P w y x R) (e1 : R.w = w) (e2 : R.h = h) (h2 : w ≤ 10) (h4 : h ≤ 10) : wfRoom R := ⟨⟨by omega, by omega⟩, ⟨by omega, by omega⟩, hb.1⟩
theorem free_bit {r : Room} (hr : okRoom r) {x y : Nat} (hx : x < r.w.toNat) (hy : y < r.h.toNat) : freeB r ⟨(x : Int), (y : Int)⟩ = !((r.f y).testBit x) := by
  obtain ⟨r1, r2, r3, r4, _⟩ := hr
  have hc : isCell r ⟨(x : Int), (y : Int)⟩ := by
    show 0 ≤ (x : Int) ∧ (x : Int) < r.w ∧ (x : Int) < 10 ∧ 0 ≤ (y : Int) ∧ (y : Int) < r.h ∧ (y : Int) < 10
    omega
  have hb : bitAt r.f ⟨(x : Int), (y : Int)⟩ = (r.f y).testBit x := by
    show (r.f ((y : Nat) : Int).toNat).testBit ((x : Nat) : Int).toNat = _
    rw [Int.toNat_natCast, Int.toNat_natCast]
  cases hq : (r.f y).testBit x
  · exact (freeB_iff _ _).mpr ⟨hc, by rw [hb, hq]⟩
  · cases hf : freeB r ⟨(x : Int), (y : Int)⟩
    · rfl
    · have := ((freeB_iff _ _).mp hf).2
      rw [hb, hq] at this; cases this
/-- What is read from a room's text is the room. -/
theorem bitsTo_back {r R : Room} (hr : okRoom r) (hb : bitsTo (linesR r) r.w.toNat r.h.toNat 0 R) (e1 : R.w = r.w) (e2 : R.h = r.h) : roomC R = roomC r := by
  refine roomC_congr e1 e2 fun y hy => Nat.eq_of_testBit_eq fun j => ?_
  rw [hb.2]
  have hrow := hr.2.2.2.2 y hy
  by_cases h : j < r.w.toNat ∧ y < r.h.toNat
  · rw [decide_eq_true (by omega), Bool.true_and]
    have hf := free_bit hr h.1 h.2
    unfold sharpB
    rw [byteP_lines r h.1 h.2]
    rcases sign_cases r ⟨(j : Int), (y : Int)⟩ with ⟨q1, q2⟩ | ⟨q1, q2⟩
    · rw [q2]; rw [q1] at hf
      cases hk : (r.f y).testBit j
      · rfl
      · rw [hk] at hf; cases hf
    · rw [q2]; rw [q1] at hf
      cases hk : (r.f y).testBit j
      · rw [hk] at hf; cases hf
      · rfl
  · rw [decide_eq_false (by omega), Bool.false_and]
    by_cases h2 : y < r.h.toNat
    · exact (Nat.testBit_lt_two_pow (Nat.lt_of_lt_of_le hrow.1 (Nat.pow_le_pow_right (by decide) (by omega)))).symm
    · rw [hrow.2 (by have := hr.2.2.1; omega), Nat.zero_testBit]
/-- Pieces that are fine ahead of (x, y). -/
def fineTo (P : List ByteArray) (w y x : Nat) : Prop :=
  (∀ y', y' < y → ∃ p, P[y']? = some p ∧ p.size = w) ∧ ∀ y' j, (y' < y ∧ j < w) ∨ (y' = y ∧ j < x) → byteP P j y' = some 46 ∨ byteP P j y' = some 35
theorem fineTo_init (P : List ByteArray) (w : Nat) : fineTo P w 0 0 := ⟨fun y' h => by omega, fun y' j h => by omega⟩
theorem fineTo_step {P : List ByteArray} {w y x : Nat} (h : fineTo P w y x) (hb : byteP P x y = some 46 ∨ byteP P x y = some 35) : fineTo P w y (x + 1) := by
  refine ⟨h.1, fun y' j hj => ?_⟩
  by_cases e : y' = y ∧ j = x
  · obtain ⟨rfl, rfl⟩ := e; exact hb
  · exact h.2 y' j (by omega)
theorem fineTo_row {P : List ByteArray} {w y : Nat} {p : ByteArray} (h : fineTo P w y w) (hp : P[y]? = some p) (hs : p.size = w) : fineTo P w (y + 1) 0 := by
  refine ⟨fun y' hy => ?_, fun y' j hj => h.2 y' j (by omega)⟩
  by_cases e : y' = y
  · subst e; exact ⟨p, hp, hs⟩
  · exact h.1 y' (by omega)
/-- A text whose pieces are fine is the text of the room that is read from it. -/
theorem fine_text {t : ByteArray} {w h : Nat} {R : Room} {last : ByteArray} (hb : bitsTo (pcs 10 t) w h 0 R) (hf : fineTo (pcs 10 t) w h 0) (e1 : R.w = w) (e2 : R.h = h) (h1 : 1 ≤ w) (h2 : w ≤ 10) (h3 : 1 ≤ h) (h4 : h ≤ 10)
    (hl : (pcs 10 t).length = h + 1) (hz : (pcs 10 t)[h]? = some last) (h0 : last.size = 0) : textR R = t := by
  have hr := bitsTo_ok hb e1 e2 h1 h2 h3 h4
  have ew : R.w.toNat = w := by omega
  have eh : R.h.toNat = h := by omega
  have key : pcs 10 t = linesR R := by
    refine List.ext_getElem? fun y => ?_
    rcases Nat.lt_trichotomy y h with hy | rfl | hy
    · obtain ⟨p, hp, hs⟩ := hf.1 y hy
      rw [hp, lines_at R (by omega)]
      congr 1
      rw [← ofL_of p]
      congr 1
      refine List.ext_getElem? fun j => ?_
      by_cases hj : j < w
      · have hq := hf.2 y j (.inl ⟨hy, hj⟩)
        have hsg : ∀ b, byteP (pcs 10 t) j y = some b → p.data.toList[j]? = some b := fun b hb => by rw [← ba_get, ← byteP_of hp]; exact hb
        rw [line_at R y (by omega)]
        have hbit := hb.2 y j
        rw [decide_eq_true (by omega), Bool.true_and] at hbit
        have hfr := free_bit hr (x := j) (y := y) (by omega) (by omega)
        rcases hq with hq | hq
        · rw [hsg _ hq]
          have : sharpB (pcs 10 t) j y = false := by unfold sharpB; rw [hq]; rfl
          rw [hbit, this] at hfr
          rcases sign_cases R ⟨(j : Int), (y : Int)⟩ with ⟨_, q2⟩ | ⟨q1, _⟩
          · rw [q2]
          · rw [q1] at hfr; cases hfr
        · rw [hsg _ hq]
          have : sharpB (pcs 10 t) j y = true := by unfold sharpB; rw [hq]; rfl
          rw [hbit, this] at hfr
          rcases sign_cases R ⟨(j : Int), (y : Int)⟩ with ⟨q1, _⟩ | ⟨_, q2⟩
          · rw [q1] at hfr; cases hfr
          · rw [q2]
      · rw [List.getElem?_eq_none (by rw [← ba_size]; omega), List.getElem?_eq_none (by rw [line_len]; omega)]
    · rw [hz, ← eh, lines_last]
      congr 1
      rw [← ofL_of last]
      congr 1
      exact List.eq_nil_of_length_eq_zero (by rw [← ba_size]; exact h0)
    · rw [List.getElem?_eq_none (by omega), List.getElem?_eq_none (by rw [lines_len]; omega)]
  obtain ⟨ps, p, k1, k2, _⟩ := cutL_join 10 t.data.toList
  have hcut : cutL 10 t.data.toList = (List.range R.h.toNat).map (lineR R) ++ [[]] := by
    have : (cutL 10 t.data.toList).map ofL = ((List.range R.h.toNat).map (lineR R) ++ [[]]).map ofL := by
      rw [List.map_append, List.map_map]; exact key
    have := congrArg (List.map fun b : ByteArray => b.data.toList) this
    rw [List.map_map, List.map_map] at this
    have hid : ∀ z : List (List UInt8), z.map ((fun b : ByteArray => b.data.toList) ∘ ofL) = z := fun z => List.map_id'' (f := (fun b : ByteArray => b.data.toList) ∘ ofL) (fun x => rfl) z
    rw [hid, hid] at this
    exact this
  rw [hcut] at k1
  obtain ⟨k3, k4⟩ := List.append_inj' k1 rfl
  simp only [List.cons.injEq, and_true] at k4
  subst k4
  rw [← ofL_of t, ← ofL_of (textR R), textR_data, k2, ← k3, List.append_nil, List.flatMap_map]
def hasR (t : ByteArray) : Prop := ∃ r, okRoom r ∧ wfRoom r ∧ textR r = t
end Go.AW
