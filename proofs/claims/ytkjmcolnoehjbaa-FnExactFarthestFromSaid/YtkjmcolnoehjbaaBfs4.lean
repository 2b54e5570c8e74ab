/- Two cells that are asked for. -/
import Derived.Test.YtkjmcolnoehjbaaBfs3
namespace Go.AW
open Go
set_option linter.unusedVariables false
set_option linter.unusedSectionVars false
set_option linter.unusedSimpArgs false
def twoC (r : Room) (a b : Spot) (c : Int) : Prop := (¬ okRoom r ∧ c = 1) ∨ (okRoom r ∧ ¬ (isCell r a ∧ isCell r b) ∧ c = 2) ∨ (okRoom r ∧ isCell r a ∧ isCell r b ∧ ¬ (isFree r a ∧ isFree r b) ∧ c = 4) ∨ (okRoom r ∧ isCell r a ∧ isCell r b ∧ isFree r a ∧ isFree r b ∧ c = 0)
open Classical in
theorem exists_twoC (r : Room) (a b : Spot) : ∃ c, twoC r a b c := by
  unfold twoC
  by_cases h : okRoom r
  · by_cases h1 : isCell r a ∧ isCell r b
    · by_cases h2 : isFree r a ∧ isFree r b
      · exact ⟨0, .inr (.inr (.inr ⟨h, h1.1, h1.2, h2.1, h2.2, rfl⟩))⟩
      · exact ⟨4, .inr (.inr (.inl ⟨h, h1.1, h1.2, h2, rfl⟩))⟩
    · exact ⟨2, .inr (.inl ⟨h, h1, rfl⟩)⟩
  · exact ⟨1, .inl ⟨h, rfl⟩⟩
theorem two_spot {p : Spot → Prop} {a b : Spot} : (∃ j : Nat, j < [a, b].length ∧ ∃ s, [a, b][j]? = some s ∧ p s) ↔ p a ∨ p b := by
  constructor
  · rintro ⟨j, hj, s, hs, hp⟩
    match j, hj with
    | 0, _ => simp at hs; subst hs; exact .inl hp
    | 1, _ => simp at hs; subst hs; exact .inr hp
  · rintro (h | h)
    · exact ⟨0, by simp, a, rfl, h⟩
    · exact ⟨1, by simp, b, rfl, h⟩
theorem two_first {r : Room} {a b : Spot} {c c1 c3 : Int} (h : twoC r a b c) (h1 : cellC r [a, b] c1) (h3 : stateC r [a, b] c3) : firstNZ [c1, c3] = c := by
  unfold cellC at h1
  unfold stateC at h3
  rw [two_spot (p := fun x => ¬ isCell r x)] at h1
  rw [two_spot (p := fun x => ¬ isFree r x)] at h3
  have hf : firstNZ [c1, c3] = if c1 = 0 then (if c3 = 0 then 0 else c3) else c1 := rfl
  rw [hf]
  rcases h with ⟨a1, e⟩ | ⟨a1, a2, e⟩ | ⟨a1, a2, a3, a4, e⟩ | ⟨a1, a2, a3, a4, a5, e⟩ <;> rcases h1 with ⟨b1, e1⟩ | ⟨b1, b2, e1⟩ | ⟨b1, b2, e1⟩ <;> rcases h3 with ⟨d1, e3⟩ | ⟨d1, e3⟩ <;> subst e e1 e3 <;> first | rfl | (exfalso; simp_all; (first | done | fail))
theorem two_ok {r : Room} {a b : Spot} (h : twoC r a b 0) : okRoom r ∧ isFree r a ∧ isFree r b := by
  rcases h with ⟨_, e⟩ | ⟨_, _, e⟩ | ⟨_, _, _, _, e⟩ | ⟨h1, _, _, h2, h3, _⟩
  · cases e
  · cases e
  · cases e
  · exact ⟨h1, h2, h3⟩
theorem two_len {r : Room} {a b : Spot} {p : Spot → Prop} (ha : p a) (hb : p b) : ∀ (i : Nat) s, [a, b][i]? = some s → p s := by
  intro i s h
  match i, h with
  | 0, h => simp at h; subst h; exact ha
  | 1, h => simp at h; subst h; exact hb
  | i + 2, h => simp at h
theorem found_pos {r : Room} {a b : Spot} {v : Int} (ha : isFree r a) (h : mget (found r a) b = some v) : 0 ≤ v ∧ v ≤ 100 := by
  have hg := bfs_good ha 100
  rw [← found_eq] at hg
  unfold mget at h
  simp only [Option.map_eq_some_iff] at h
  obtain ⟨p, hf, hv⟩ := h
  have := hg.pos p (List.mem_of_find?_eq_some hf)
  have := hg.len
  subst hv; omega
end Go.AW
