/- Two files that are joined. -/
import Derived.Test.YtokgcdacdmllbaaFile3
import Derived.Test.YtokgcdacdmllbaaAppM
namespace Go.AW
open Go
set_option linter.unusedVariables false
theorem spot_ones (l : List Spot) : (fl spot l).all isOne = true := by
  rw [List.all_eq_true]
  intro v hv
  obtain ⟨s, _, hs⟩ := List.mem_flatMap.mp hv
  simp [spot] at hs
  rcases hs with rfl | rfl <;> rfl
theorem summ (a b : Nat) : (0 + (a : Int) + (b : Int)) = ((a + b : Nat) : Int) := by omega
end Go.AW
