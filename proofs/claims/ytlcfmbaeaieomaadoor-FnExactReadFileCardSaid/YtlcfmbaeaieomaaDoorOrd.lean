/- Facts of the program's head, read once. -/
import Derived.JoinedOf
import Derived.KernelRfl
namespace Go.AW
open Go

/-! the words at the head of a program's order of start: read once, out of a long text -/
theorem strip_cut (r : List (List Char)) : stripLifts liftWords ("cut".toList :: r) = ([], "cut".toList :: r) := by
  simp [stripLifts, liftWords]

theorem words_of {P : Program} (h : ∃ L, P.initOrder = String.ofList L ∧ (behindMainWord (wordsSigns L)).head? = some "cut".toList) : ∃ r, behindMainWord (wordsSigns P.initOrder.toList) = "cut".toList :: r := by
  obtain ⟨L, h1, h2⟩ := h
  rw [h1, String.toList_ofList]
  cases hb : behindMainWord (wordsSigns L) with
  | nil => rw [hb] at h2; cases h2
  | cons a r => rw [hb] at h2; exact ⟨r, by rw [Option.some.inj h2]⟩

theorem make_of {P : Program} (h : ∃ r, behindMainWord (wordsSigns P.initOrder.toList) = "cut".toList :: r) : P.make = some .cut := by
  obtain ⟨r, h⟩ := h
  unfold Program.make
  rw [h]
  simp

theorem lifts_of {P : Program} (h : ∃ r, behindMainWord (wordsSigns P.initOrder.toList) = "cut".toList :: r) : P.liftsFinal = false := by
  obtain ⟨r, h⟩ := h
  unfold Program.liftsFinal Program.headLifts
  simp only [h, strip_cut]
  simp

theorem enter_of {P : Program} (h : ∃ r, behindMainWord (wordsSigns P.initOrder.toList) = "cut".toList :: r) (h1 : P.laysLater = false) (h2 : P.bearsReflect = false) (h3 : P.doorFits [] = true) : P.mayEnter = true := by
  obtain ⟨r, h⟩ := h
  unfold Program.mayEnter
  rw [h]
  simp only [strip_cut]
  simp [h1, h2, h3]

end Go.AW
