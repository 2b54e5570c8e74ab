/- Rooms: their cells, bits of their rows, what is free. -/
import Derived.Test.YtlcfmbaeaieomaaDoorPure2
namespace Go.AW
open Go
set_option linter.unusedVariables false

/-- A room: its sides, and its rows as numbers. -/
structure Room where
  w : Int
  h : Int
  f : Nat → Nat
def roomC (r : Room) : List Value := [.int .i8 r.w, .int .i8 r.h, .int .u16 (r.f 0 : Nat), .int .u16 (r.f 1 : Nat), .int .u16 (r.f 2 : Nat), .int .u16 (r.f 3 : Nat), .int .u16 (r.f 4 : Nat), .int .u16 (r.f 5 : Nat), .int .u16 (r.f 6 : Nat), .int .u16 (r.f 7 : Nat), .int .u16 (r.f 8 : Nat), .int .u16 (r.f 9 : Nat)]
def wallsC (f : Nat → Nat) : List Value := [.int .u16 (f 0 : Nat), .int .u16 (f 1 : Nat), .int .u16 (f 2 : Nat), .int .u16 (f 3 : Nat), .int .u16 (f 4 : Nat), .int .u16 (f 5 : Nat), .int .u16 (f 6 : Nat), .int .u16 (f 7 : Nat), .int .u16 (f 8 : Nat), .int .u16 (f 9 : Nat)]
def putF (f : Nat → Nat) (y v : Nat) : Nat → Nat := fun j => if j = y then v else f j
def Room.put (r : Room) (y v : Nat) : Room := ⟨r.w, r.h, putF r.f y v⟩
theorem ten {p : Nat → Prop} (h0 : p 0) (h1 : p 1) (h2 : p 2) (h3 : p 3) (h4 : p 4) (h5 : p 5) (h6 : p 6) (h7 : p 7) (h8 : p 8) (h9 : p 9) (y : Nat) (hy : y < 10) : p y := by
  match y, hy with
  | 0, _ => exact h0
  | 1, _ => exact h1
  | 2, _ => exact h2
  | 3, _ => exact h3
  | 4, _ => exact h4
  | 5, _ => exact h5
  | 6, _ => exact h6
  | 7, _ => exact h7
  | 8, _ => exact h8
  | 9, _ => exact h9
theorem roomC_at (r : Room) (y : Nat) (hy : y < 10) : (roomC r)[2 + y]? = some (.int .u16 (r.f y : Nat)) :=
  ten (p := fun y => (roomC r)[2 + y]? = some (.int .u16 (r.f y : Nat))) rfl rfl rfl rfl rfl rfl rfl rfl rfl rfl y hy
theorem wallsC_at (f : Nat → Nat) (y : Nat) (hy : y < 10) : (wallsC f)[y]? = some (.int .u16 (f y : Nat)) :=
  ten (p := fun y => (wallsC f)[y]? = some (.int .u16 (f y : Nat))) rfl rfl rfl rfl rfl rfl rfl rfl rfl rfl y hy
theorem roomC_put (r : Room) (y v : Nat) (hy : y < 10) : (roomC r).set (2 + y) (.int .u16 (v : Nat)) = roomC (r.put y v) :=
  ten (p := fun y => (roomC r).set (2 + y) (.int .u16 (v : Nat)) = roomC (r.put y v)) rfl rfl rfl rfl rfl rfl rfl rfl rfl rfl y hy
theorem wallsC_put (f : Nat → Nat) (y v : Nat) (hy : y < 10) : (wallsC f).set y (.int .u16 (v : Nat)) = wallsC (putF f y v) :=
  ten (p := fun y => (wallsC f).set y (.int .u16 (v : Nat)) = wallsC (putF f y v)) rfl rfl rfl rfl rfl rfl rfl rfl rfl rfl y hy
theorem wallsC_plain (f : Nat → Nat) : (wallsC f).all plain1 = true := rfl
theorem roomC_plain (r : Room) : (roomC r).all plain1 = true := rfl
theorem roomC_ext {r s : Room} (h : roomC r = roomC s) : r.w = s.w ∧ r.h = s.h ∧ ∀ y, y < 10 → r.f y = s.f y := by
  unfold roomC at h
  simp only [List.cons.injEq, Value.int.injEq, true_and, and_true, Int.ofNat_inj] at h
  obtain ⟨h0, h1, a0, a1, a2, a3, a4, a5, a6, a7, a8, a9⟩ := h
  exact ⟨h0, h1, ten (p := fun y => r.f y = s.f y) a0 a1 a2 a3 a4 a5 a6 a7 a8 a9⟩
theorem roomC_congr {r s : Room} (hw : r.w = s.w) (hh : r.h = s.h) (hf : ∀ y, y < 10 → r.f y = s.f y) : roomC r = roomC s := by
  unfold roomC
  rw [hw, hh, hf 0 (by omega), hf 1 (by omega), hf 2 (by omega), hf 3 (by omega), hf 4 (by omega), hf 5 (by omega), hf 6 (by omega), hf 7 (by omega), hf 8 (by omega), hf 9 (by omega)]
theorem wallsC_congr {f g : Nat → Nat} (hf : ∀ y, y < 10 → f y = g y) : wallsC f = wallsC g := by
  unfold wallsC
  rw [hf 0 (by omega), hf 1 (by omega), hf 2 (by omega), hf 3 (by omega), hf 4 (by omega), hf 5 (by omega), hf 6 (by omega), hf 7 (by omega), hf 8 (by omega), hf 9 (by omega)]

def rowsOk (f : Nat → Nat) : Prop := ∀ y, f y < 65536
def wfRoom (r : Room) : Prop := (-128 ≤ r.w ∧ r.w ≤ 127) ∧ (-128 ≤ r.h ∧ r.h ≤ 127) ∧ rowsOk r.f
def rowOk (r : Room) (y : Nat) : Prop := r.f y < 2 ^ r.w.toNat ∧ (r.h ≤ (y : Int) → r.f y = 0)
def okRoom (r : Room) : Prop := 1 ≤ r.w ∧ r.w ≤ 10 ∧ 1 ≤ r.h ∧ r.h ≤ 10 ∧ ∀ y, y < 10 → rowOk r y
def isCell (r : Room) (s : Spot) : Prop := 0 ≤ s.x ∧ s.x < r.w ∧ s.x < 10 ∧ 0 ≤ s.y ∧ s.y < r.h ∧ s.y < 10
def bitAt (f : Nat → Nat) (s : Spot) : Bool := (f s.y.toNat).testBit s.x.toNat
def isFree (r : Room) (s : Spot) : Prop := isCell r s ∧ bitAt r.f s = false
def wfSpot (s : Spot) : Prop := (-128 ≤ s.x ∧ s.x ≤ 127) ∧ (-128 ≤ s.y ∧ s.y ≤ 127)

theorem shr16 (a : Nat) (n : Int) (h0 : 0 ≤ n) (h1 : n ≤ 16) : Value.int .u16 (((a : Nat) : Int).fdiv (2 ^ (min n.toNat IntKind.u16.bits))) = .int .u16 ((a / 2 ^ n.toNat : Nat) : Int) := by
  have : min n.toNat IntKind.u16.bits = n.toNat := by show min n.toNat 16 = _; omega
  rw [this]
  congr 1
  rw [Int.fdiv_eq_ediv_of_nonneg _ (by exact Int.pow_nonneg (by decide))]
  norm_cast
theorem and16 (a : Nat) (h : a < 65536) : Value.int .u16 (bitsOf .and .u16 (a : Int) 1) = .int .u16 ((a % 2 : Nat) : Int) := by
  congr 1
  unfold bitsOf
  show IntKind.u16.wrap ((BitVec.ofInt 16 (a : Int) &&& BitVec.ofInt 16 1).toNat : Int) = _
  have e : (BitVec.ofInt 16 (a : Int) &&& BitVec.ofInt 16 1).toNat = a % 2 := by
    rw [BitVec.toNat_and]
    have : (BitVec.ofInt 16 (a : Int)).toNat = a := by simp; omega
    rw [this]
    show a &&& 1 = _
    exact Nat.and_one_is_mod a
  rw [e]
  exact nw (by show (0 : Int) ≤ _; omega) (by show _ ≤ (65535 : Int); omega)
theorem bit_eq (a n : Nat) : (((a / 2 ^ n % 2 : Nat) : Int) == 0) = !a.testBit n := by
  rw [Nat.testBit_eq_decide_div_mod_eq]
  rcases Nat.mod_two_eq_zero_or_one (a / 2 ^ n) with h | h <;> rw [h] <;> rfl
theorem rem2 (a : Nat) : Value.int .u16 (((a : Nat) : Int).tmod 2) = .int .u16 ((a % 2 : Nat) : Int) := by
  congr 1
theorem row_high (a : Nat) (n : Nat) : (((a / 2 ^ n : Nat) : Int) != 0) = !decide (a < 2 ^ n) := by
  have hp : 0 < 2 ^ n := Nat.two_pow_pos n
  by_cases h : a < 2 ^ n
  · rw [Nat.div_eq_of_lt h, decide_eq_true h]; rfl
  · have : 0 < a / 2 ^ n := Nat.div_pos (by omega) hp
    rw [decide_eq_false h]
    exact bne_iff_ne.mpr (show ((a / 2 ^ n : Nat) : Int) ≠ 0 by omega)

/-- The spot on a side of another one. -/
def nextSpot (s : Spot) (side : Int) : Spot :=
  if side = 0 then ⟨s.x, IntKind.i8.wrap (s.y - 1)⟩ else if side = 1 then ⟨IntKind.i8.wrap (s.x + 1), s.y⟩
  else if side = 2 then ⟨s.x, IntKind.i8.wrap (s.y + 1)⟩ else if side = 3 then ⟨IntKind.i8.wrap (s.x - 1), s.y⟩ else s
def sideAt (a b : Spot) (j : Nat) : Prop := nextSpot a j = b
/-- The cells ahead of the cell (x, y), row by row. -/
def rowCells (y x : Nat) : List Spot := (List.range x).map fun (i : Nat) => ⟨i, y⟩
theorem rowCells_succ (y x : Nat) : rowCells y (x + 1) = rowCells y x ++ [⟨x, y⟩] := by simp [rowCells, List.range_succ]
def cellsTo (w : Nat) : Nat → Nat → List Spot
  | 0, x => rowCells 0 x
  | y + 1, x => cellsTo w y w ++ rowCells (y + 1) x
theorem cellsTo_succ (w y x : Nat) : cellsTo w y (x + 1) = cellsTo w y x ++ [⟨x, y⟩] := by
  cases y with
  | zero => exact rowCells_succ 0 x
  | succ y => show _ ++ rowCells _ _ = (_ ++ rowCells _ _) ++ _; rw [rowCells_succ, List.append_assoc]
theorem cellsTo_row (w y : Nat) : cellsTo w (y + 1) 0 = cellsTo w y w := by
  show _ ++ rowCells _ 0 = _; rw [show rowCells (y + 1) 0 = [] from rfl, List.append_nil]
def allCells (r : Room) : List Spot := cellsTo r.w.toNat r.h.toNat 0
theorem cellsTo_len (w y x : Nat) : (cellsTo w y x).length = w * y + x := by
  induction y generalizing x with
  | zero => simp [cellsTo, rowCells]
  | succ y ih => simp [cellsTo, rowCells, ih, Nat.mul_succ]
theorem mem_cellsTo {w y x : Nat} {s : Spot} (h : s ∈ cellsTo w y x) : ∃ a b : Nat, s = ⟨a, b⟩ ∧ b ≤ y ∧ ((b = y ∧ a < x) ∨ (b < y ∧ a < w)) := by
  induction y generalizing x with
  | zero =>
    obtain ⟨i, hi, rfl⟩ := List.mem_map.mp h
    exact ⟨i, 0, rfl, Nat.le_refl _, .inl ⟨rfl, List.mem_range.mp hi⟩⟩
  | succ y ih =>
    rcases List.mem_append.mp h with h | h
    · obtain ⟨a, b, e, h1, h2⟩ := ih h
      refine ⟨a, b, e, by omega, .inr ?_⟩
      rcases h2 with ⟨rfl, h2⟩ | ⟨h2, h3⟩
      · exact ⟨by omega, h2⟩
      · exact ⟨by omega, h3⟩
    · obtain ⟨i, hi, rfl⟩ := List.mem_map.mp h
      exact ⟨i, y + 1, rfl, Nat.le_refl _, .inl ⟨rfl, List.mem_range.mp hi⟩⟩
end Go.AW
