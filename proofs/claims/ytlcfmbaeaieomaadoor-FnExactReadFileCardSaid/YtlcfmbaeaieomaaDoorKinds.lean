/- The elements of this program's slices. -/
import Derived.Test.YtlcfmbaeaieomaaDoorTop
set_option linter.unusedVariables false
namespace Go.AW
open Go

/-! the elements of this program's slices, and their cells -/
def i64 (n : Int) : List Value := [.int .i64 n]
def i16 (n : Int) : List Value := [.int .i16 n]
def i8 (n : Int) : List Value := [.int .i8 n]
structure Hold where
  who : Int
  knot : Int
  deriving DecidableEq
def hold (h : Hold) : List Value := [.int .i16 h.who, .int .i8 h.knot]
structure Said where
  number : Int
  check : Int
  deriving DecidableEq
def said (s : Said) : List Value := [.int .i64 s.number, .int .i64 s.check]
structure Spot where
  x : Int
  y : Int
  deriving DecidableEq
def spot (s : Spot) : List Value := [.int .i8 s.x, .int .i8 s.y]

theorem i64_len (x : Int) : (i64 x).length = 1 := rfl
theorem i16_len (x : Int) : (i16 x).length = 1 := rfl
theorem i8_len (x : Int) : (i8 x).length = 1 := rfl
theorem hold_len (x : Hold) : (hold x).length = 2 := rfl
theorem said_len (x : Said) : (said x).length = 2 := rfl
theorem spot_len (x : Spot) : (spot x).length = 2 := rfl
theorem hold_ext {x y : Hold} (h : x.who = y.who) (k : x.knot = y.knot) : x = y := by cases x; cases y; simp_all
theorem said_ext {x y : Said} (h : x.number = y.number) (k : x.check = y.check) : x = y := by cases x; cases y; simp_all
theorem spot_ext {x y : Spot} (h : x.x = y.x) (k : x.y = y.y) : x = y := by cases x; cases y; simp_all

theorem fl_setz {α : Type} {e : α → List Value} {es : Nat} (he : ∀ x, (e x).length = es) {l : List α} {i j : Nat} {x : α} (y : α) {u : Value} (h : l[i]? = some x) (hj : j < es) (hy : e y = (e x).set j u) :
    (fl e l).set (0 + ((i : Nat) : Int).toNat * es + j) u = fl e (l.set i y) := by
  rw [Nat.zero_add, Int.toNat_natCast]; exact fl_set he h hj hy

theorem get_some {α : Type} {l : List α} {i : Nat} (h : i < l.length) : l[i]? = some l[i] := List.getElem?_eq_getElem h
theorem fl_setzL {α : Type} {e : α → List Value} {es : Nat} (he : ∀ x, (e x).length = es) {l : List α} {i : Nat} {y : α} (h : i < l.length) :
    (fl e l).take (0 + ((i : Nat) : Int).toNat * es) ++ e y ++ (fl e l).drop (0 + ((i : Nat) : Int).toNat * es + es) = fl e (l.set i y) := by
  rw [Nat.zero_add, Int.toNat_natCast]; exact fl_setL he h

/-- What an element type is: its zero, its cells, its bytes. -/
def ElemZ (P : Program) (e : TypeId) (size bytes : Nat) (z : Value) : Prop :=
  ∃ i, P.info? e = some i ∧ i.zero = some z ∧ i.size = size ∧ i.bytes = bytes ∧ z.cells.size = size ∧ plainV z = true

theorem elemZ_of {P : Program} {e : TypeId} {size bytes : Nat} {z : Value} (h : (P.info? e).map (fun i => (i.zero, i.size, i.bytes)) = some (some z, size, bytes)) (hc : z.cells.size = size) (hp : plainV z = true) : ElemZ P e size bytes z := by
  rw [Option.map_eq_some_iff] at h
  obtain ⟨i, hi, he⟩ := h
  simp only [Prod.mk.injEq] at he
  exact ⟨i, hi, he.1, he.2.1, he.2.2, hc, hp⟩

theorem ElemZ.elem {P : Program} {e : TypeId} {size bytes : Nat} {z : Value} (h : ElemZ P e size bytes z) : Elem P e size bytes := by
  obtain ⟨i, h1, h2, h3, h4, h5, _⟩ := h
  exact ⟨i, z, h1, h2, h3, h4, h5⟩

theorem made_fl {α : Type} {el : α → List Value} {z0 : α} {zs : Array Value} {es : Nat} (hz : zs.size = es) (he : el z0 = zs.toList) (n : Nat) : (madeCells zs (n * es)).toList = fl el (List.replicate n z0) := by
  apply List.ext_getElem?
  intro j
  have hl : ∀ x, x ∈ List.replicate n z0 → (el x).length = es := by intro x hx; rw [List.eq_of_mem_replicate hx, he, Array.length_toList, hz]
  have hlen : (fl el (List.replicate n z0)).length = n * es := by
    clear hl
    induction n with
    | zero => simp [fl]
    | succ n ih => rw [List.replicate_succ, fl_cons, List.length_append, ih, he, Array.length_toList, hz, Nat.succ_mul]; omega
  by_cases hj : j < n * es
  · have h0 : 0 < es := by rcases Nat.eq_zero_or_pos es with h | h
                           · rw [h] at hj; omega
                           · exact h
    have hfl : (fl el (List.replicate n z0))[j]? = zs[j % es]? := by
      clear hlen hl
      induction n generalizing j with
      | zero => omega
      | succ n ih =>
        rw [List.replicate_succ, fl_cons, List.getElem?_append, he, Array.length_toList, hz]
        split
        · rename_i h; rw [Nat.mod_eq_of_lt h, Array.getElem?_toList]
        · rename_i h
          rw [ih (j - es) (by rw [Nat.succ_mul] at hj; omega), Nat.mod_eq_sub_mod (a := j) (by omega)]
    rw [hfl]
    have : j % es < zs.size := by rw [hz]; exact Nat.mod_lt _ h0
    simp only [madeCells, Array.toList_map, Array.toList_range, List.getElem?_map, List.getElem?_range hj, Option.map_some, hz]
    rw [Array.getElem?_eq_getElem this]; congr 1; exact getElem!_pos zs _ this
  · rw [List.getElem?_eq_none (l := fl el _) (by omega), List.getElem?_eq_none (by simp [madeCells]; omega)]

section
variable {α : Type} {P : Program} {d : Option Tmp} {ty : TypeId} {pos : String} {aft : Array Edge} {g : Option (Nat × Bool)} {ρ : Operand → Value} {H : AHeap}
theorem ao_makeF {t e : TypeId} {x y : Operand} {k1 k2 : IntKind} {l : Int} {ln size bytes : Nat} {z : Value} (el : α → List Value) (z0 : α) (ht : P.underlying t = some (.slice e)) (hE : ElemZ P e size bytes z) (he : el z0 = z.cells.toList) (hs : 0 < size)
    (hx : ρ x = .int k1 l) (hy : ρ y = .int k2 l) (hl : l = (ln : Int)) (hb : (bytes : Int) * l ≤ 281474976710656) (h63 : l ≤ 9223372036854775807) :
    AOd P ⟨d, .makeSlice t x y, ty, pos, aft, g⟩ ρ H (.slice (some ⟨H.next, 0, none⟩) ln ln) (H.push (.cells (fl el (List.replicate ln z0)) size)) := by
  obtain ⟨i, h1, h2, h3, h4, h5, h6⟩ := hE
  have := ao_makeSlice (H := H) (d := d) (ty := ty) (pos := pos) (aft := aft) (g := g) ht h1 h2 h3 h4 h6 h5 hs hx hy hl (Int.le_refl _) hb h63
  rw [if_pos rfl, made_fl h5 he] at this
  exact this
end

theorem vr_sl {ρ : Bt} {b b' n c c' o : Nat} (h : ρ b = some (ren b')) (hc : n ≤ c') (he : c = n → c' = n) (hd : n + 1 < c → c ≤ c' := by omega) : VR ρ (.slice (some ⟨b, o, none⟩) n c) (.slice (some ⟨b', o, none⟩) n c') :=
  .slice ⟨rfl, rfl, hc, he, _, h, fun B o1 S es own e => by cases e; exact ⟨rfl, .inr ⟨by simp, fun e => (nomatch e)⟩, fun k => ⟨fun e => (nomatch e), fun _ => hd k⟩⟩⟩
theorem vr_agg2 {ρ : Bt} {a a' b b' : Value} (h : VR ρ a a') (k : VR ρ b b') : VR ρ (.agg #[a, b]) (.agg #[a', b']) :=
  .agg rfl fun i u u' hu hu' => by
    match i with
    | 0 => simp at hu hu'; subst hu hu'; exact h
    | 1 => simp at hu hu'; subst hu hu'; exact k
    | i + 2 => simp at hu
theorem vr_tup2 {ρ : Bt} {a a' b b' : Value} (h : VR ρ a a') (k : VR ρ b b') : VR ρ (.tuple #[a, b]) (.tuple #[a', b']) :=
  .tuple rfl fun i u u' hu hu' => by
    match i with
    | 0 => simp at hu hu'; subst hu hu'; exact h
    | 1 => simp at hu hu'; subst hu hu'; exact k
    | i + 2 => simp at hu
theorem vr_tup3 {ρ : Bt} {a a' b b' c c' : Value} (h : VR ρ a a') (k : VR ρ b b') (m : VR ρ c c') : VR ρ (.tuple #[a, b, c]) (.tuple #[a', b', c']) :=
  .tuple rfl fun i u u' hu hu' => by
    match i with
    | 0 => simp at hu hu'; subst hu hu'; exact h
    | 1 => simp at hu hu'; subst hu hu'; exact k
    | 2 => simp at hu hu'; subst hu hu'; exact m
    | i + 3 => simp at hu

/-- Cells that name no block. -/
theorem vrl_fl {α : Type} {e : α → List Value} (he : ∀ x, (e x).all plain1 = true) (l : List α) (β : Bt) : VRL β (fl e l) (fl e l) := by
  refine ⟨rfl, fun i x y hx hy => ?_⟩
  rw [hx] at hy; cases hy
  obtain ⟨z, _, hz⟩ := List.mem_flatMap.mp (List.mem_of_getElem? hx)
  exact VR.plain1 _ (List.all_eq_true.mp (he z) x hz)
theorem i64_plain (x : Int) : (i64 x).all plain1 = true := rfl
theorem i16_plain (x : Int) : (i16 x).all plain1 = true := rfl
theorem i8_plain (x : Int) : (i8 x).all plain1 = true := rfl
theorem hold_plain (x : Hold) : (hold x).all plain1 = true := rfl
theorem said_plain (x : Said) : (said x).all plain1 = true := rfl
theorem spot_plain (x : Spot) : (spot x).all plain1 = true := rfl

/-- What stands in a slice's cells behind the marks. -/
def mk16 (k : Int) (n : Nat) : List Int := (List.range n).map fun (j : Nat) => IntKind.i16.wrap (k + j)
def mk64 (k : Int) (n : Nat) : List Int := (List.range n).map fun (j : Nat) => k + j
def mkHold (k : Int) (n : Nat) : List Hold := (List.range n).map fun (j : Nat) => ⟨IntKind.i16.wrap (k + 2 * j), IntKind.i8.wrap (k + 2 * j + 1)⟩
def mkSaid (k : Int) (n : Nat) : List Said := (List.range n).map fun (j : Nat) => ⟨k + 2 * j, k + 2 * j + 1⟩
theorem mk16_get {k : Int} {n i : Nat} {x : Int} (h : (mk16 k n)[i]? = some x) : x = IntKind.i16.wrap (k + i) := by
  simp only [mk16, List.getElem?_map, Option.map_eq_some_iff] at h
  obtain ⟨j, hj, rfl⟩ := h
  rw [List.getElem?_range (by have := (List.getElem?_eq_some_iff.mp hj).1; simpa using this)] at hj
  cases hj; rfl
theorem mk64_get {k : Int} {n i : Nat} {x : Int} (h : (mk64 k n)[i]? = some x) : x = k + i := by
  simp only [mk64, List.getElem?_map, Option.map_eq_some_iff] at h
  obtain ⟨j, hj, rfl⟩ := h
  rw [List.getElem?_range (by have := (List.getElem?_eq_some_iff.mp hj).1; simpa using this)] at hj
  cases hj; rfl
theorem mkHold_get {k : Int} {n i : Nat} {x : Hold} (h : (mkHold k n)[i]? = some x) : x = ⟨IntKind.i16.wrap (k + 2 * i), IntKind.i8.wrap (k + 2 * i + 1)⟩ := by
  simp only [mkHold, List.getElem?_map, Option.map_eq_some_iff] at h
  obtain ⟨j, hj, rfl⟩ := h
  rw [List.getElem?_range (by have := (List.getElem?_eq_some_iff.mp hj).1; simpa using this)] at hj
  cases hj; rfl
theorem mkSaid_get {k : Int} {n i : Nat} {x : Said} (h : (mkSaid k n)[i]? = some x) : x = ⟨k + 2 * i, k + 2 * i + 1⟩ := by
  simp only [mkSaid, List.getElem?_map, Option.map_eq_some_iff] at h
  obtain ⟨j, hj, rfl⟩ := h
  rw [List.getElem?_range (by have := (List.getElem?_eq_some_iff.mp hj).1; simpa using this)] at hj
  cases hj; rfl
theorem mk16_len (k : Int) (n : Nat) : (mk16 k n).length = n := by simp [mk16]
theorem mk64_len (k : Int) (n : Nat) : (mk64 k n).length = n := by simp [mk64]
theorem mkHold_len (k : Int) (n : Nat) : (mkHold k n).length = n := by simp [mkHold]
theorem mkSaid_len (k : Int) (n : Nat) : (mkSaid k n).length = n := by simp [mkSaid]

theorem take_setz {α : Type} {z l : List α} {i : Nat} {x : α} (h : z.take i = l.take i) (hx : l[i]? = some x) (hi : i < z.length) : (z.set i x).take (i + 1) = l.take (i + 1) := by
  refine take_step (x := x) ?_ (by rw [List.getElem?_set_self hi]) hx
  rw [List.take_set_of_le (Nat.le_refl _)]; exact h

end Go.AW
