/- Texts of rooms, byte by byte. -/
import Derived.Test.YtlcfmbaeaieomaaDoorRoom2
namespace Go.AW
open Go
set_option linter.unusedVariables false

def textTo (sg : Spot → Int) (w : Nat) : Nat → Nat → List Int
  | 0, x => (rowCells 0 x).map sg
  | y + 1, x => (textTo sg w y w ++ [10]) ++ (rowCells (y + 1) x).map sg
theorem textTo_succ (sg : Spot → Int) (w y x : Nat) : textTo sg w y (x + 1) = textTo sg w y x ++ [sg ⟨x, y⟩] := by
  cases y with
  | zero => show (rowCells 0 (x + 1)).map sg = (rowCells 0 x).map sg ++ _; rw [rowCells_succ, List.map_append]; rfl
  | succ y => show _ ++ (rowCells _ _).map sg = (_ ++ (rowCells _ _).map sg) ++ _; rw [rowCells_succ, List.map_append, ← List.append_assoc]; rfl
theorem textTo_row (sg : Spot → Int) (w y : Nat) : textTo sg w (y + 1) 0 = textTo sg w y w ++ [10] := by
  show (textTo sg w y w ++ [10]) ++ [] = _
  rw [List.append_nil]
theorem textTo_len (sg : Spot → Int) (w y x : Nat) : (textTo sg w y x).length = (w + 1) * y + x := by
  induction y generalizing x with
  | zero => simp [textTo, rowCells]
  | succ y ih => simp [textTo, rowCells, ih, Nat.mul_succ]; omega
theorem textTo_bnd (sg : Spot → Int) {w y x : Nat} (h1 : w ≤ 10) (h2 : y ≤ 10) (h3 : x ≤ 10) : (textTo sg w y x).length ≤ 120 := by
  rw [textTo_len]
  have : (w + 1) * y ≤ 11 * 10 := Nat.mul_le_mul (by omega) h2
  omega
theorem strOf_app (l : List Int) (n : Int) : strOf l ++ ⟨#[UInt8.ofNat n.toNat]⟩ = strOf (l ++ [n]) := by
  rw [strOf_snoc]
  apply ByteArray.ext
  simp
def signB (r : Room) (s : Spot) : Int := if freeB r s = true then 46 else 35
def textR (r : Room) : ByteArray := strOf (textTo (signB r) r.w.toNat r.h.toNat 0)
end Go.AW
