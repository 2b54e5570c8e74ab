/- Files: people in single file, and their moves. -/
import Derived.Test.YtmmmjdbknepjgaaDoorGb
namespace Go.AW
open Go
set_option linter.unusedVariables false

def stepOk (a b : Spot) : Prop := ∃ j : Nat, j < 4 ∧ sideAt a b j
theorem side_neg {a b : Spot} {r : Int} (h : firstAt (sideAt a b) 4 r) : r < 0 ↔ ¬ stepOk a b := by
  have := firstAt_ge h
  unfold stepOk
  rw [← this]; omega
def sideOf (a b : Spot) : Int := if nextSpot a 0 = b then 0 else if nextSpot a 1 = b then 1 else if nextSpot a 2 = b then 2 else if nextSpot a 3 = b then 3 else -1
theorem sideOf_first (a b : Spot) : firstAt (sideAt a b) 4 (sideOf a b) := by
  unfold sideOf
  have lt1 : ∀ {p : Nat → Prop}, p 0 → ∀ j, j < 1 → p j := fun h j hj => by rw [show j = 0 by omega]; exact h
  by_cases h0 : nextSpot a 0 = b
  · rw [if_pos h0]; exact .inr ⟨0, by omega, rfl, h0, fun j hj => by omega⟩
  · rw [if_neg h0]
    by_cases h1 : nextSpot a 1 = b
    · rw [if_pos h1]
      exact .inr ⟨1, by omega, rfl, h1, fun j hj => by rw [show j = 0 by omega]; exact h0⟩
    · rw [if_neg h1]
      by_cases h2 : nextSpot a 2 = b
      · rw [if_pos h2]
        refine .inr ⟨2, by omega, rfl, h2, fun j hj => ?_⟩
        match j, hj with
        | 0, _ => exact h0
        | 1, _ => exact h1
      · rw [if_neg h2]
        by_cases h3 : nextSpot a 3 = b
        · rw [if_pos h3]
          refine .inr ⟨3, by omega, rfl, h3, fun j hj => ?_⟩
          match j, hj with
          | 0, _ => exact h0
          | 1, _ => exact h1
          | 2, _ => exact h2
        · rw [if_neg h3]
          refine .inl ⟨rfl, fun j hj => ?_⟩
          match j, hj with
          | 0, _ => exact h0
          | 1, _ => exact h1
          | 2, _ => exact h2
          | 3, _ => exact h3
theorem sideOf_bnd (a b : Spot) : -1 ≤ sideOf a b ∧ sideOf a b ≤ 3 := by
  rcases sideOf_first a b with ⟨h, _⟩ | ⟨k, h1, h2, _⟩ <;> omega
theorem sideOf_ok (a b : Spot) : 0 ≤ sideOf a b ↔ stepOk a b := firstAt_ge (sideOf_first a b)

def lineAt (l : List Spot) (i : Nat) : Prop := ∀ x, l[i]? = some x → (∀ (j : Nat) y, i = j + 1 → l[j]? = some y → stepOk y x) ∧ (∀ (j : Nat) y, j < i → l[j]? = some y → y ≠ x)
def chain (l : List Spot) : Prop := (∀ i, i < l.length → lineAt l i) ∧ 1 ≤ l.length ∧ l.length ≤ 12
def allFree (r : Room) (l : List Spot) : Prop := ∀ (i : Nat) x, l[i]? = some x → isFree r x
def fileOk (r : Room) (l : List Spot) : Prop := chain l ∧ allFree r l
def okFile (r : Room) (l : List Spot) : Prop := okRoom r ∧ fileOk r l
def wfSpots (l : List Spot) : Prop := ∀ (i : Nat) x, l[i]? = some x → wfSpot x

theorem next_ne {s : Spot} {k : Int} (h : wfSpot s) (hk : 0 ≤ k ∧ k ≤ 3) : nextSpot s k ≠ s := by
  obtain ⟨⟨a1, a2⟩, ⟨b1, b2⟩⟩ := h
  have w1 : ∀ n : Int, -128 ≤ n → n ≤ 127 → IntKind.i8.wrap (n + 1) ≠ n := by
    intro n h1 h2 e
    by_cases h : n = 127
    · subst h; exact absurd e (by decide)
    · rw [nw8 (by omega) (by omega)] at e; omega
  have w2 : ∀ n : Int, -128 ≤ n → n ≤ 127 → IntKind.i8.wrap (n - 1) ≠ n := by
    intro n h1 h2 e
    by_cases h : n = -128
    · subst h; exact absurd e (by decide)
    · rw [nw8 (by omega) (by omega)] at e; omega
  have e : k = 0 ∨ k = 1 ∨ k = 2 ∨ k = 3 := by omega
  intro hh
  rcases e with rfl | rfl | rfl | rfl
  · exact w2 s.y b1 b2 (congrArg Spot.y hh)
  · exact w1 s.x a1 a2 (congrArg Spot.x hh)
  · exact w1 s.y b1 b2 (congrArg Spot.y hh)
  · exact w2 s.x a1 a2 (congrArg Spot.x hh)

/-- A move can be made. -/
def hd (l : List Spot) : Spot := l.getD 0 ⟨0, 0⟩
def canM (r : Room) (l : List Spot) (k : Int) : Prop := 4 ≤ k ∨ (isFree r (nextSpot (hd l) k) ∧ (∀ (j : Nat) y, j + 1 < l.length → l[j]? = some y → y ≠ nextSpot (hd l) k) ∧ (l.length = 2 → ∀ y, l[l.length - 1]? = some y → y ≠ nextSpot (hd l) k))
theorem hd_at {l : List Spot} {x : Spot} (h : l[0]? = some x) : hd l = x := by
  unfold hd; rw [List.getD_eq_getElem?_getD, h]; rfl

/-- How often a file bends. -/
def at_ (l : List Spot) (i : Nat) : Spot := l.getD i ⟨0, 0⟩
theorem at_get {l : List Spot} {i : Nat} {x : Spot} (h : l[i]? = some x) : at_ l i = x := by
  unfold at_; rw [List.getD_eq_getElem?_getD, h]; rfl
def turnsTo (l : List Spot) : Nat → Nat
  | 0 => 0
  | n + 1 => turnsTo l n + (if sideOf (at_ l n) (at_ l (n + 1)) = sideOf (at_ l (n + 1)) (at_ l (n + 2)) then 0 else 1)
theorem turnsTo_le (l : List Spot) (n : Nat) : turnsTo l n ≤ n := by
  induction n with
  | zero => exact Nat.le_refl _
  | succ n ih => show turnsTo l n + (if _ then 0 else 1) ≤ _; split <;> omega
theorem turns_same {l : List Spot} {n : Nat} {x y z : Spot} (hx : l[n]? = some x) (hy : l[n + 1]? = some y) (hz : l[n + 2]? = some z) (h : sideOf x y = sideOf y z) : turnsTo l (n + 1) = turnsTo l n := by
  show turnsTo l n + (if _ then 0 else 1) = _
  rw [at_get hx, at_get hy, at_get hz, if_pos h]; rfl
theorem turns_more {l : List Spot} {n : Nat} {x y z : Spot} (hx : l[n]? = some x) (hy : l[n + 1]? = some y) (hz : l[n + 2]? = some z) (h : ¬ sideOf x y = sideOf y z) : turnsTo l (n + 1) = turnsTo l n + 1 := by
  show turnsTo l n + (if _ then 0 else 1) = _
  rw [at_get hx, at_get hy, at_get hz, if_neg h]

open Classical in
/-- A file's moves to the sides. -/
noncomputable def movesTo (r : Room) (l : List Spot) : Nat → List Int
  | 0 => []
  | i + 1 => movesTo r l i ++ (if canM r l i then [(i : Int)] else [])
open Classical in
theorem moves_yes {r : Room} {l : List Spot} {i : Nat} (h : canM r l i) : movesTo r l (i + 1) = movesTo r l i ++ [(i : Int)] := by
  show _ ++ (if _ then _ else _) = _; rw [if_pos h]
open Classical in
theorem moves_no {r : Room} {l : List Spot} {i : Nat} (h : ¬ canM r l i) : movesTo r l (i + 1) = movesTo r l i := by
  show _ ++ (if _ then _ else _) = _; rw [if_neg h, List.append_nil]
open Classical in
theorem moves_len (r : Room) (l : List Spot) (i : Nat) : (movesTo r l i).length ≤ i := by
  induction i with
  | zero => exact Nat.le_refl _
  | succ i ih => show (movesTo r l i ++ (if _ then _ else _)).length ≤ _; rw [List.length_append]; split <;> simp <;> omega
theorem sub2 (k : Nat) (h : k < 4611686018427387904) : Value.int .i64 (IntKind.i64.wrap (((k + 2 : Nat) : Int) - 2)) = .int .i64 ((k : Nat) : Int) := by
  rw [nw (by show (-9223372036854775808 : Int) ≤ _; omega) (by show _ ≤ (9223372036854775807 : Int); omega)]
  congr 1; omega
theorem srcn' {H : AHeap} {es n m : Nat} {v : Value} {cs : List Value} (h : Src H es v n cs) (e : n = m) : Src H es v m cs := e ▸ h
end Go.AW
