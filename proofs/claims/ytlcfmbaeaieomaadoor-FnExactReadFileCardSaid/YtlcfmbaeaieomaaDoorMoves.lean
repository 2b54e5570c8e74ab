/- Texts of moves. -/
import Derived.Test.YtlcfmbaeaieomaaDoorFile2
import Derived.Test.YtlcfmbaeaieomaaDoorStr
namespace Go.AW
open Go
set_option linter.unusedVariables false

def letM (k : Int) : Int := if k = 0 then 110 else if k = 1 then 101 else if k = 2 then 115 else if k = 3 then 119 else if k = 4 then 116 else 45
def toldM (l : List Int) : Prop := ∀ (i : Nat) k, l[i]? = some k → 0 ≤ k ∧ k ≤ 5
def mvText (l : List Int) : ByteArray := strOf (l.map letM)
theorem letter_at {k : Int} (h : 0 ≤ k ∧ k ≤ 5) : ∃ (n : Nat) (c : UInt8), k = (n : Int) ∧ (⟨#[110, 101, 115, 119, 116, 45]⟩ : ByteArray)[n]? = some c ∧ Value.int .u8 ((c.toNat : Nat) : Int) = Value.int .u8 (letM k) := by
  have e : k = 0 ∨ k = 1 ∨ k = 2 ∨ k = 3 ∨ k = 4 ∨ k = 5 := by omega
  rcases e with rfl | rfl | rfl | rfl | rfl | rfl
  · exact ⟨0, 110, rfl, rfl, rfl⟩
  · exact ⟨1, 101, rfl, rfl, rfl⟩
  · exact ⟨2, 115, rfl, rfl, rfl⟩
  · exact ⟨3, 119, rfl, rfl, rfl⟩
  · exact ⟨4, 116, rfl, rfl, rfl⟩
  · exact ⟨5, 45, rfl, rfl, rfl⟩
theorem notMv (k : Int) : (!(decide (0 ≤ k) && decide (k ≤ 5))) = true ↔ ¬ (0 ≤ k ∧ k ≤ 5) := by
  by_cases h1 : 0 ≤ k <;> by_cases h2 : k ≤ 5 <;> simp [h1, h2]
theorem isMv (k : Int) : (decide (0 ≤ k) && decide (k ≤ 5)) = true ↔ (0 ≤ k ∧ k ≤ 5) := by
  by_cases h1 : 0 ≤ k <;> by_cases h2 : k ≤ 5 <;> simp [h1, h2]
theorem strOf_app1 (l : List Int) (n : Int) : strOf l ++ strOf [n] = strOf (l ++ [n]) := by
  rw [strOf_snoc]
  apply ByteArray.ext
  show (strOf l ++ ByteArray.empty.push (UInt8.ofNat n.toNat)).data = _
  simp
theorem takeS {α : Type} {z : List α} {i : Nat} {y : α} (h : z[i]? = some y) : z.take i ++ [y] = z.take (i + 1) := by
  rw [List.take_add_one, h]; rfl
theorem map_at {l : List Int} {i : Nat} {x : Int} (h : l[i]? = some x) : (l.map letM)[i]? = some (letM x) := by
  rw [List.getElem?_map, h]; rfl
theorem told_not {l : List Int} : ¬ toldM l ↔ ∃ j, j < l.length ∧ ∃ s, l[j]? = some s ∧ ¬ (0 ≤ s ∧ s ≤ 5) := by
  constructor
  · intro h
    apply Classical.byContradiction
    intro hn
    exact h fun i k hk => Classical.byContradiction fun q => hn ⟨i, (List.getElem?_eq_some_iff.mp hk).1, k, hk, q⟩
  · rintro ⟨j, _, s, hs, q⟩ h
    exact q (h j s hs)
end Go.AW
