/- Files: more on moves. -/
import Derived.Test.YtlcfmbaeaieomaaDoorFile
namespace Go.AW
open Go
set_option linter.unusedVariables false

def inTake (l : List Spot) (x : Spot) : Prop := ∃ j, j < (l.take (l.length - 1)).length ∧ (l.take (l.length - 1))[j]? = some x
theorem can_iff {r : Room} {l : List Spot} {k : Int} {x y : Spot} {bc : Bool} (hx : l[0]? = some x) (hy : l[l.length - 1]? = some y) (hk : ¬ 4 ≤ k) (hbc : bc = true ↔ inTake l (nextSpot x k)) :
    canM r l k ↔ (freeB r (nextSpot x k) = true ∧ bc = false ∧ (l.length = 2 → y ≠ nextSpot x k)) := by
  unfold canM
  rw [hd_at hx]
  constructor
  · rintro (h | ⟨h1, h2, h3⟩)
    · exact absurd h hk
    · refine ⟨(freeB_iff _ _).mpr h1, ?_, fun e => h3 e y hy⟩
      cases hq : bc with
      | false => rfl
      | true =>
        obtain ⟨j, hj, e⟩ := hbc.mp hq
        rw [List.length_take] at hj
        rw [List.getElem?_take, if_pos (by omega)] at e
        exact absurd rfl (h2 j _ (by omega) e)
  · rintro ⟨h1, h2, h3⟩
    refine .inr ⟨(freeB_iff _ _).mp h1, fun j z hj hz e => ?_, fun e z hz => by rw [hy] at hz; cases hz; exact h3 e⟩
    have := hbc.mpr ⟨j, by rw [List.length_take]; omega, by rw [List.getElem?_take, if_pos (by omega), hz, e]⟩
    rw [h2] at this; cases this
theorem can_last {r : Room} {l : List Spot} {k : Int} {x y : Spot} {bc : Bool} (hx : l[0]? = some x) (hy : l[l.length - 1]? = some y) (hk : ¬ 4 ≤ k) (hbc : bc = true ↔ inTake l (nextSpot x k))
    (h0 : 0 ≤ k) (hs : wfSpot x) (h1 : freeB r (nextSpot x k) = true) (h2 : bc = false) (hl : ¬ 2 < l.length) : (!(decide (nextSpot x k = y))) = true ↔ canM r l k := by
  rw [can_iff hx hy hk hbc]
  simp only [Bool.not_eq_true', decide_eq_false_iff_not]
  constructor
  · intro h; exact ⟨h1, h2, fun _ e => h e.symm⟩
  · rintro ⟨_, _, h3⟩ e
    rcases Nat.eq_or_lt_of_le (Nat.le_of_not_lt hl) with h | h
    · exact h3 h e.symm
    · have h9 : l.length - 1 = 0 := by omega
      rw [h9, hx] at hy; cases hy
      exact next_ne hs ⟨h0, by omega⟩ e
theorem can_two {r : Room} {l : List Spot} {k : Int} {x y : Spot} {bc : Bool} (hx : l[0]? = some x) (hy : l[l.length - 1]? = some y) (hk : ¬ 4 ≤ k) (hbc : bc = true ↔ inTake l (nextSpot x k))
    (h1 : freeB r (nextSpot x k) = true) (h2 : bc = false) (hl : l.length = 2) : (!(decide (y = nextSpot x k))) = true ↔ canM r l k := by
  rw [can_iff hx hy hk hbc]
  simp only [Bool.not_eq_true', decide_eq_false_iff_not]
  exact ⟨fun h => ⟨h1, h2, fun _ => h⟩, fun h => h.2.2 hl⟩
/-- Two files have a cell in common. -/
def crossed (l m : List Spot) : Prop := ∃ j, j < l.length ∧ ∃ x, l[j]? = some x ∧ ∃ i, i < m.length ∧ m[i]? = some x
theorem codeC {k : Int} (h : 0 ≤ k ∧ k ≤ 5) : (if (decide (0 ≤ k) && decide (k ≤ 5)) = true then (0 : Int) else 2) = 0 := by
  rw [if_pos]; simp; omega
theorem codeD {k : Int} (h : ¬ (0 ≤ k ∧ k ≤ 5)) : (if (decide (0 ≤ k) && decide (k ≤ 5)) = true then (0 : Int) else 2) = 2 := by
  rw [if_neg]; simp; omega
end Go.AW
