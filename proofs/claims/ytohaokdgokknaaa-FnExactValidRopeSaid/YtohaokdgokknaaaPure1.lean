/- What it means that a rope, and a list of holds, is valid. -/
import Derived.Test.YtohaokdgokknaaaEqS
namespace Go.AW
open Go

def okRope (L : Int) (ks : List Int) : Prop :=
  1 ≤ L ∧ L ≤ 400 ∧ 2 ≤ ks.length ∧ ks.length ≤ 40 ∧ (∀ x, ks[0]? = some x → x = 0) ∧ (∀ x, ks[ks.length - 1]? = some x → x = L) ∧
    ∀ (i : Nat) x y, ks[i]? = some x → ks[i + 1]? = some y → x < y

theorem sub1 (k : Nat) (h : k < 4611686018427387904) : Value.int .i64 (IntKind.i64.wrap (((k + 1 : Nat) : Int) - 1)) = .int .i64 ((k : Nat) : Int) := by
  rw [nw (by show (-9223372036854775808 : Int) ≤ _; omega) (by show _ ≤ (9223372036854775807 : Int); omega)]
  congr 1; omega
theorem subn (n : Nat) (h1 : 1 ≤ n) (h : n < 4611686018427387904) : Value.int .i64 (IntKind.i64.wrap ((n : Int) - 1)) = .int .i64 ((n - 1 : Nat) : Int) := by
  rw [nw (by show (-9223372036854775808 : Int) ≤ _; omega) (by show _ ≤ (9223372036854775807 : Int); omega)]
  congr 1; omega

theorem beqb {b : Bool} {p : Prop} {x y : Int} (hb : b = true ↔ p) (h : p ↔ x = y) : Value.bool (x == y) = Value.bool b := by
  by_cases e : x = y
  · rw [hb.mpr (h.mpr e), beq_iff_eq.mpr e]
  · rw [← bf hb (fun q => e (h.mp q)), beq_eq_false_iff_ne.mpr e]

end Go.AW
