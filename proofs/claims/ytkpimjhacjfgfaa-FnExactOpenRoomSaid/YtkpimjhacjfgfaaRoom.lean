/- Rooms in blocks: reading and writing their rows. -/
import Derived.Test.YtkpimjhacjfgfaaStr
namespace Go.AW
open Go
set_option linter.unusedVariables false

section
variable {P : Program} {ρ : Operand → Value} {H : AHeap} {d : Option Tmp} {ty : TypeId} {pos : String} {aft : Array Edge} {g : Option (Nat × Bool)}
theorem ao_loadp {t : TypeId} {x : Operand} {b o n : Nat} {k : ABlk} {cs ds : List Value} (ht : ∀ w, (isAgg t).run P w = .ok true w) (hn : ∀ w, (sizeOf t).run P w = .ok n w)
    (hx : ρ x = .pointer (some ⟨b, o, none⟩)) (hk : H.blk b = some k) (hr : k.rd = some cs) (hl : o + n ≤ cs.length) (hd : (cs.drop o).take n = ds) :
    AOd P ⟨d, .load t x, ty, pos, aft, g⟩ ρ H (.agg ds.toArray) H := by
  subst hd; exact ao_loads ht hn hx hk hr hl
end

theorem roomL (r : Room) (y : Nat) (hy : y < 10) : (roomC r)[0 + 2 + ((y : Nat) : Int).toNat * 1]? = some (.int .u16 (r.f y : Nat)) := by
  rw [Int.toNat_natCast, Nat.mul_one, Nat.zero_add]; exact roomC_at r y hy
theorem roomLI (r : Room) (y : Int) (hy : y.toNat < 10) : (roomC r)[0 + 2 + y.toNat * 1]? = some (.int .u16 (r.f y.toNat : Nat)) := by
  rw [Nat.mul_one, Nat.zero_add]; exact roomC_at r _ hy
theorem wallsL (f : Nat → Nat) (y : Nat) (hy : y < 10) : (wallsC f)[0 + ((y : Nat) : Int).toNat * 1]? = some (.int .u16 (f y : Nat)) := by
  rw [Int.toNat_natCast, Nat.mul_one, Nat.zero_add]; exact wallsC_at f y hy
theorem wallsA (f : Nat → Nat) (y : Nat) (hy : y < 10) : (wallsC f).toArray[y]? = some (.int .u16 (f y : Nat)) := by
  rw [List.getElem?_toArray]; exact wallsC_at f y hy
/-- The first i rows. -/
def upto (f : Nat → Nat) (i : Nat) : Nat → Nat := fun j => if j < i then f j else 0
theorem upto_put (f : Nat → Nat) (i : Nat) (hi : i < 10) : (wallsC (upto f i)).set (0 + ((i : Nat) : Int).toNat * 1) (.int .u16 (f i : Nat)) = wallsC (upto f (i + 1)) := by
  rw [Int.toNat_natCast, Nat.mul_one, Nat.zero_add, wallsC_put _ _ _ hi]
  refine wallsC_congr fun y _ => ?_
  unfold putF upto
  by_cases h : y = i
  · rw [if_pos h, if_pos (by omega), h]
  · rw [if_neg h]
    by_cases h2 : y < i
    · rw [if_pos h2, if_pos (by omega)]
    · rw [if_neg h2, if_neg (by omega)]
theorem upto_all (f : Nat → Nat) : wallsC (upto f 10) = wallsC f := wallsC_congr fun y hy => if_pos hy
def sameRoom (r s : Room) : Prop := roomC r = roomC s
instance (r s : Room) : Decidable (sameRoom r s) := by
  have : sameRoom r s ↔ r.w = s.w ∧ r.h = s.h ∧ ∀ y, y < 10 → r.f y = s.f y := ⟨roomC_ext, fun ⟨a, b, c⟩ => roomC_congr a b c⟩
  exact decidable_of_iff _ this.symm
theorem walls_step {f g : Nat → Nat} {i : Nat} (h : ∀ j, j < i → f j = g j) (e : f i = g i) : ∀ j, j < i + 1 → f j = g j := by
  intro j hj
  rcases Nat.lt_or_ge j i with h1 | h1
  · exact h j h1
  · rw [show j = i by omega]; exact e
theorem roomC_walls {r s : Room} (h1 : r.w = s.w) (h2 : r.h = s.h) (h3 : wallsC r.f = wallsC s.f) : roomC r = roomC s := by
  refine roomC_congr h1 h2 ?_
  unfold wallsC at h3
  simp only [List.cons.injEq, Value.int.injEq, true_and, and_true, Int.ofNat_inj] at h3
  obtain ⟨a0, a1, a2, a3, a4, a5, a6, a7, a8, a9⟩ := h3
  exact ten (p := fun y => r.f y = s.f y) a0 a1 a2 a3 a4 a5 a6 a7 a8 a9
end Go.AW
