/- Slices read as lists. -/
import Derived.Test.YtlcfmbaeaieomaaDoorKit
set_option linter.unusedVariables false
set_option linter.unusedSimpArgs false
namespace Go.AW
open Go

/-- A value that is a slice of the elements l, each of them the cells e x. -/
def Sl {α : Type} (H : AHeap) (e : α → List Value) (es : Nat) (v : Value) (l : List α) : Prop :=
  (v = .slice none 0 0 ∧ l = []) ∨ ∃ b o c, v = .slice (some ⟨b, o, none⟩) l.length c ∧
    (l = [] ∨ ∃ k cs, H.blk b = some k ∧ k.rd = some cs ∧ ∀ (i : Nat) x, l[i]? = some x → (cs.drop (o + i * es)).take es = e x ∧ (e x).length = es)

def vb : Value → Nat
  | .slice (some a) _ _ => a.block
  | _ => 0
def vo : Value → Nat
  | .slice (some a) _ _ => a.off
  | _ => 0

theorem Sl.nil {α : Type} {H : AHeap} {e : α → List Value} {es : Nat} : Sl H e es (.slice none 0 0) ([] : List α) := .inl ⟨rfl, rfl⟩
theorem Sl.zero {α : Type} {H : AHeap} {e : α → List Value} {es b o c : Nat} : Sl H e es (.slice (some ⟨b, o, none⟩) 0 c) ([] : List α) := .inr ⟨b, o, c, rfl, .inl rfl⟩

theorem Sl.mono {α : Type} {H H' : AHeap} {e : α → List Value} {es : Nat} {v : Value} {l : List α} (h : Sl H e es v l) (hs : Same H.next H H') : Sl H' e es v l := by
  rcases h with h | ⟨b, o, c, hv, h⟩
  · exact .inl h
  · refine .inr ⟨b, o, c, hv, ?_⟩
    rcases h with h | ⟨k, cs, hk, h⟩
    · exact .inl h
    · exact .inr ⟨k, cs, by rw [hs b (AHeap.lt hk)]; exact hk, h⟩

theorem get_lt {α : Type} {l : List α} {i : Nat} (h : i < l.length) : ∃ x, l[i]? = some x := ⟨_, List.getElem?_eq_getElem h⟩

/-- The cells of elements. -/
def fl {α : Type} (e : α → List Value) (l : List α) : List Value := l.flatMap e

theorem fl_nil {α : Type} (e : α → List Value) : fl e [] = [] := rfl
theorem fl_cons {α : Type} (e : α → List Value) (x : α) (l : List α) : fl e (x :: l) = e x ++ fl e l := rfl
theorem fl_app {α : Type} (e : α → List Value) (l m : List α) : fl e (l ++ m) = fl e l ++ fl e m := List.flatMap_append
theorem fl_snoc {α : Type} (e : α → List Value) (l : List α) (x : α) : fl e (l ++ [x]) = fl e l ++ e x := by
  rw [fl_app, fl_cons, fl_nil, List.append_nil]
theorem fl_len {α : Type} {e : α → List Value} {es : Nat} (he : ∀ x, (e x).length = es) (l : List α) : (fl e l).length = l.length * es := by
  induction l with
  | nil => simp [fl]
  | cons x l ih => rw [fl_cons, List.length_append, he, ih, List.length_cons, Nat.add_mul]; omega
theorem fl_drop {α : Type} {e : α → List Value} {es : Nat} (he : ∀ x, (e x).length = es) (l : List α) (i : Nat) : (fl e l).drop (i * es) = fl e (l.drop i) := by
  induction l generalizing i with
  | nil => simp [fl]
  | cons x l ih =>
    cases i with
    | zero => simp
    | succ i =>
      rw [fl_cons, List.drop_succ_cons, ← ih i, Nat.succ_mul, Nat.add_comm, ← List.drop_drop, List.drop_left' (he x)]
theorem fl_take {α : Type} {e : α → List Value} {es : Nat} (he : ∀ x, (e x).length = es) (l : List α) (i : Nat) : (fl e l).take (i * es) = fl e (l.take i) := by
  induction l generalizing i with
  | nil => simp [fl]
  | cons x l ih =>
    cases i with
    | zero => simp [fl]
    | succ i =>
      rw [List.take_succ_cons, fl_cons, fl_cons, ← ih i, Nat.succ_mul, Nat.add_comm, ← he x, List.take_length_add_append]
theorem fl_at {α : Type} {e : α → List Value} {es : Nat} (he : ∀ x, (e x).length = es) {l : List α} {i : Nat} {x : α} (h : l[i]? = some x) : ((fl e l).drop (i * es)).take es = e x := by
  rw [fl_drop he]
  have : l.drop i = x :: l.drop (i + 1) := by
    obtain ⟨hi, rfl⟩ := List.getElem?_eq_some_iff.mp h
    exact List.drop_eq_getElem_cons hi
  rw [this, fl_cons, List.take_left' (he x)]
theorem fl_get {α : Type} {e : α → List Value} {es : Nat} (he : ∀ x, (e x).length = es) {l : List α} {i j : Nat} {x : α} {u : Value} (h : l[i]? = some x) (hu : (e x)[j]? = some u) : (fl e l)[i * es + j]? = some u := by
  have h1 := fl_at he h
  have hj : j < es := by have := (List.getElem?_eq_some_iff.mp hu).1; rw [he] at this; exact this
  rw [← h1, List.getElem?_take, if_pos hj, List.getElem?_drop] at hu
  exact hu
theorem fl_set {α : Type} {e : α → List Value} {es : Nat} (he : ∀ x, (e x).length = es) {l : List α} {i j : Nat} {x y : α} {u : Value} (h : l[i]? = some x) (hj : j < es) (hy : e y = (e x).set j u) : (fl e l).set (i * es + j) u = fl e (l.set i y) := by
  induction l generalizing i with
  | nil => simp at h
  | cons z l ih =>
    cases i with
    | zero =>
      simp at h; subst h
      rw [List.set_cons_zero, fl_cons, fl_cons, hy, Nat.zero_mul, Nat.zero_add, List.set_append_left _ _ (by rw [he]; exact hj)]
    | succ i =>
      simp at h
      rw [List.set_cons_succ, fl_cons, fl_cons, ← ih h, List.set_append_right _ _ (by rw [he, Nat.succ_mul]; omega), he]
      congr 2
      rw [Nat.succ_mul]; omega
theorem fl_setL {α : Type} {e : α → List Value} {es : Nat} (he : ∀ x, (e x).length = es) {l : List α} {i : Nat} {y : α} (h : i < l.length) :
    (fl e l).take (i * es) ++ e y ++ (fl e l).drop (i * es + es) = fl e (l.set i y) := by
  rw [show i * es + es = (i + 1) * es by rw [Nat.succ_mul], fl_drop he, fl_take he, List.set_eq_take_append_cons_drop, if_pos h, fl_app, fl_cons, List.append_assoc]

/-- A slice of the whole of a block. -/
theorem Sl.full {α : Type} {H : AHeap} {e : α → List Value} {es : Nat} (he : ∀ x, (e x).length = es) {l : List α} {b n c : Nat} {k : ABlk} {cs : List Value} (hk : H.blk b = some k) (hr : k.rd = some cs) (hc : cs = fl e l) (hn : n = l.length) :
    Sl H e es (.slice (some ⟨b, 0, none⟩) n c) l :=
  .inr ⟨b, 0, c, by rw [hn], .inr ⟨k, cs, hk, hr, fun i x hx => ⟨by rw [hc, Nat.zero_add]; exact fl_at he hx, he x⟩⟩⟩

/-- A slice of a part of a block. -/
theorem Sl.part {α : Type} {H : AHeap} {e : α → List Value} {es : Nat} (he : ∀ x, (e x).length = es) {l m : List α} {b o n c i : Nat} {k : ABlk} {cs : List Value} (hk : H.blk b = some k) (hr : k.rd = some cs) (hc : cs = fl e l) (ho : o = i * es) (hm : (l.drop i).take n = m) (hn : n = m.length) :
    Sl H e es (.slice (some ⟨b, o, none⟩) n c) m := by
  refine .inr ⟨b, o, c, by rw [← hn], .inr ⟨k, cs, hk, hr, fun j x hx => ⟨?_, he x⟩⟩⟩
  subst hm ho hc
  have h1 : l[i + j]? = some x := by
    rw [List.getElem?_take] at hx
    split at hx
    · rwa [List.getElem?_drop] at hx
    · cases hx
  rw [← Nat.add_mul]
  exact fl_at he h1

section
variable {α : Type} {P : Program} {d : Option Nat} {ty : TypeId} {pos : String} {aft : Array Edge} {g : Option (Nat × Bool)} {ρ : Operand → Value} {H : AHeap} {e : α → List Value} {es : Nat} {v : Value} {l : List α}

theorem Sl.len0 (h : Sl H e es v l) : (v = .slice none 0 0 ∧ l = []) ∨ ∃ b o c, v = .slice (some ⟨b, o, none⟩) l.length c := by
  rcases h with h | ⟨b, o, c, hv, _⟩
  · exact .inl h
  · exact .inr ⟨b, o, c, hv⟩

theorem ao_lenV {t e' : TypeId} {x : Operand} (hu : P.underlying t = some (.slice e')) (hx : ρ x = v) (h : Sl H e es v l) :
    AOd P ⟨d, .call ⟨.builtin .len, #[x], #[t]⟩, ty, pos, aft, g⟩ ρ H (.int .i64 l.length) H := by
  rcases h.len0 with ⟨rfl, rfl⟩ | ⟨b, o, c, rfl⟩
  · exact ao_lenN hu hx
  · exact ao_lenS hu hx

theorem ao_indexV {t e' : TypeId} {x y : Operand} {k : IntKind} {i : Int} (hu : P.underlying t = some (.slice e')) (hn : ∀ w, (sizeOf e').run P w = .ok es w)
    (hx : ρ x = v) (hy : ρ y = .int k i) (h : Sl H e es v l) (h0 : 0 ≤ i) (h1 : i < l.length) :
    AOd P ⟨d, .indexAddr t x y, ty, pos, aft, g⟩ ρ H (.pointer (some ⟨vb v, vo v + i.toNat * es, none⟩)) H := by
  rcases h.len0 with ⟨rfl, rfl⟩ | ⟨b, o, c, rfl⟩
  · simp at h1; omega
  · exact ao_indexAddrS hu hn hx hy h0 h1

theorem ao_loadV {t : TypeId} {x : Operand} {i j a : Nat} {z : α} {u : Value} (ht : ∀ w, (isAgg t).run P w = .ok false w) (h : Sl H e es v l)
    (hx : ρ x = .pointer (some ⟨vb v, a, none⟩)) (ha : a = vo v + i * es + j) (hl : l[i]? = some z) (hj : (e z)[j]? = some u) :
    AOd P ⟨d, .load t x, ty, pos, aft, g⟩ ρ H u H := by
  rcases h with ⟨rfl, rfl⟩ | ⟨b, o, c, rfl, h⟩
  · simp at hl
  · rcases h with rfl | ⟨k, cs, hk, hr, h⟩
    · simp at hl
    · obtain ⟨h1, h2⟩ := h i z hl
      refine ao_load ht hx hk hr ?_
      have hj' : j < es := by rw [← h2]; exact (List.getElem?_eq_some_iff.mp hj).1
      rw [← h1, List.getElem?_take, if_pos hj', List.getElem?_drop] at hj
      rw [ha]; exact hj

theorem ao_loadsV {t : TypeId} {x : Operand} {i : Nat} {z : α} {A : Array Value} (ht : ∀ w, (isAgg t).run P w = .ok true w) (hn : ∀ w, (sizeOf t).run P w = .ok es w) (h : Sl H e es v l)
    (hx : ρ x = .pointer (some ⟨vb v, vo v + i * es, none⟩)) (hl : l[i]? = some z) (hA : (e z).toArray = A) (h0 : 0 < es) :
    AOd P ⟨d, .load t x, ty, pos, aft, g⟩ ρ H (.agg A) H := by
  rcases h with ⟨rfl, rfl⟩ | ⟨b, o, c, rfl, h⟩
  · simp at hl
  · rcases h with rfl | ⟨k, cs, hk, hr, h⟩
    · simp at hl
    · obtain ⟨h1, h2⟩ := h i z hl
      have := ao_loads (d := d) (ty := ty) (pos := pos) (aft := aft) (g := g) ht hn hx hk hr (by
        have h3 : ((cs.drop (o + i * es)).take es).length = es := by rw [h1, h2]
        rw [List.length_take, List.length_drop] at h3
        show o + i * es + es ≤ _; omega)
      rw [← hA, ← h1]; exact this

theorem Sl.src (h : Sl H e es v l) (he : ∀ x, (e x).length = es) (hp : 0 < es) : Src H es v l.length (fl e l) := by
  rcases h with ⟨rfl, rfl⟩ | ⟨b, o, c, rfl, h⟩
  · exact .inl ⟨rfl, rfl, rfl⟩
  · rcases h with rfl | ⟨k, cs, hk, hr, h⟩
    · exact src_none
    · by_cases h0 : l.length * es = 0
      · have : fl e l = [] := List.eq_nil_of_length_eq_zero (by rw [fl_len he]; exact h0)
        rw [this]
        exact .inr ⟨b, o, c, k, [], rfl, .inl ⟨(Nat.mul_eq_zero.mp h0).resolve_right (by omega), rfl⟩⟩
      · have hl : o + l.length * es ≤ cs.length := by
          obtain ⟨x, hx⟩ : ∃ x, l[l.length - 1]? = some x := get_lt (by have : l.length ≠ 0 := fun q => h0 (by rw [q, Nat.zero_mul]); omega)
          obtain ⟨h1, h2⟩ := h _ x hx
          have h3 : ((cs.drop (o + (l.length - 1) * es)).take es).length = es := by rw [h1, h2]
          rw [List.length_take, List.length_drop] at h3
          have h4 : l.length * es = (l.length - 1) * es + es := by
            have : l.length = (l.length - 1) + 1 := by have : l.length ≠ 0 := fun q => h0 (by rw [q, Nat.zero_mul]); omega
            rw [← Nat.succ_mul]; exact congrArg (· * es) this
          have h5 : es ≠ 0 := fun q => h0 (by rw [q, Nat.mul_zero])
          omega
        have hc : (cs.drop o).take (l.length * es) = fl e l := by
          have key : ∀ (m : List α) (o : Nat), o + m.length * es ≤ cs.length → (∀ (i : Nat) x, m[i]? = some x → (cs.drop (o + i * es)).take es = e x) → (cs.drop o).take (m.length * es) = fl e m := by
            intro m
            induction m with
            | nil => intro o _ _; simp [fl]
            | cons y m ih =>
              intro o ho hm
              have q0 := hm 0 y rfl
              have q1 := ih (o + es) (by rw [List.length_cons, Nat.succ_mul] at ho; omega) (fun i x hx => by
                have := hm (i + 1) x (by simpa using hx)
                rw [Nat.succ_mul] at this
                rw [← this]; congr 2; omega)
              rw [Nat.zero_mul, Nat.add_zero] at q0
              rw [fl_cons, ← q0, ← q1, List.length_cons, Nat.succ_mul, Nat.add_comm (m.length * es), List.take_add, List.drop_drop]
          exact key l o hl fun i x hx => (h i x hx).1
        rw [← hc]
        exact .inr ⟨b, o, c, k, cs, rfl, .inr ⟨hk, hr, hl, rfl⟩⟩
end

/-- Lists that agree. -/
theorem take_step {α : Type} {l m : List α} {i : Nat} {x : α} (h : l.take i = m.take i) (hx : l[i]? = some x) (hy : m[i]? = some x) : l.take (i + 1) = m.take (i + 1) := by
  rw [List.take_add_one, List.take_add_one, h, hx, hy]
theorem take_all {α : Type} {l m : List α} {i : Nat} (h : l.take i = m.take i) (hi : l.length ≤ i) (hl : l.length = m.length) : l = m := by
  rwa [List.take_of_length_le hi, List.take_of_length_le (by omega)] at h
theorem ne_at {α : Type} {l m : List α} {i : Nat} {x y : α} (hx : l[i]? = some x) (hy : m[i]? = some y) (h : x ≠ y) : l ≠ m := by
  rintro rfl; rw [hx] at hy; exact h (Option.some.inj hy)

end Go.AW
