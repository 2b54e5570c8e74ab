/- Sides and the spots on them. -/
import Derived.Test.YtmmmjdbknepjgaaDoorFile
namespace Go.AW
open Go
set_option linter.unusedVariables false
theorem wrapB8 (n : Int) : -128 ≤ IntKind.i8.wrap n ∧ IntKind.i8.wrap n ≤ 127 := by
  unfold IntKind.wrap
  simp [IntKind.bits, IntKind.signed]
  split <;> omega
theorem wf_next' {s : Spot} (h : wfSpot s) (k : Int) : wfSpot (nextSpot s k) := by
  unfold nextSpot
  split
  · exact ⟨h.1, wrapB8 _⟩
  · split
    · exact ⟨wrapB8 _, h.2⟩
    · split
      · exact ⟨h.1, wrapB8 _⟩
      · split
        · exact ⟨wrapB8 _, h.2⟩
        · exact h
theorem next_side {s : Spot} {k : Int} (h : wfSpot s) (h0 : 0 ≤ k) (h3 : k ≤ 3) : sideOf s (nextSpot s k) = k := by
  have inc : ∀ n : Int, -128 ≤ n → n ≤ 127 → IntKind.i8.wrap (n + 1) ≠ n ∧ IntKind.i8.wrap (n - 1) ≠ n ∧ IntKind.i8.wrap (n + 1) ≠ IntKind.i8.wrap (n - 1) := by
    intro n a b
    unfold IntKind.wrap
    simp [IntKind.bits, IntKind.signed]
    split <;> split <;> omega
  obtain ⟨x1, x2, x3⟩ := inc s.x h.1.1 h.1.2
  obtain ⟨y1, y2, y3⟩ := inc s.y h.2.1 h.2.2
  have e0 : nextSpot s 0 = ⟨s.x, IntKind.i8.wrap (s.y - 1)⟩ := rfl
  have e1 : nextSpot s 1 = ⟨IntKind.i8.wrap (s.x + 1), s.y⟩ := rfl
  have e2 : nextSpot s 2 = ⟨s.x, IntKind.i8.wrap (s.y + 1)⟩ := rfl
  have e3 : nextSpot s 3 = ⟨IntKind.i8.wrap (s.x - 1), s.y⟩ := rfl
  unfold sideOf
  obtain rfl | rfl | rfl | rfl : k = 0 ∨ k = 1 ∨ k = 2 ∨ k = 3 := by omega
  · rw [if_pos rfl]
  · rw [if_neg (by rw [e0, e1]; intro e; injection e with e _; exact x1 e.symm), if_pos rfl]
  · rw [if_neg (by rw [e0, e2]; intro e; injection e with _ e; exact y3 e.symm), if_neg (by rw [e1, e2]; intro e; injection e with e _; exact x1 e), if_pos rfl]
  · rw [if_neg (by rw [e0, e3]; intro e; injection e with e _; exact x2 e.symm), if_neg (by rw [e1, e3]; intro e; injection e with e _; exact x3 e), if_neg (by rw [e2, e3]; intro e; injection e with e _; exact x2 e.symm), if_pos rfl]
theorem side_first {s : Spot} {k : Int} (h : wfSpot s) (h0 : 0 ≤ k) (h3 : k ≤ 3) : firstAt (sideAt s (nextSpot s k)) 4 k := by
  have := sideOf_first s (nextSpot s k)
  rwa [next_side h h0 h3] at this
end Go.AW
