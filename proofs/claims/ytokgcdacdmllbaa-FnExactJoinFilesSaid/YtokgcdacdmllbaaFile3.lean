/- Files: one person more. -/
import Derived.Test.YtokgcdacdmllbaaFile2
namespace Go.AW
open Go
set_option linter.unusedVariables false

theorem wfSpots_snoc {l : List Spot} {s : Spot} (h : wfSpots l) (hs : wfSpot s) : wfSpots (l ++ [s]) := by
  intro i x hx
  rcases Nat.lt_or_ge i l.length with h1 | h1
  · rw [List.getElem?_append_left h1] at hx; exact h i x hx
  · rw [List.getElem?_append_right h1] at hx
    rcases Nat.eq_or_lt_of_le h1 with h2 | h2
    · rw [← h2, Nat.sub_self] at hx; cases hx; exact hs
    · rw [List.getElem?_eq_none (by simp; omega)] at hx; cases hx
theorem wfSpots_app {l m : List Spot} (h : wfSpots l) (hm : wfSpots m) : wfSpots (l ++ m) := by
  intro i x hx
  rcases Nat.lt_or_ge i l.length with h1 | h1
  · rw [List.getElem?_append_left h1] at hx; exact h i x hx
  · rw [List.getElem?_append_right h1] at hx; exact hm _ x hx
end Go.AW
