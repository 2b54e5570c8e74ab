/- Cells near a cell. -/
import Derived.Test.YtkjmcolnoehjbaaBfs4
namespace Go.AW
open Go
set_option linter.unusedVariables false
set_option linter.unusedSectionVars false
theorem mget_mem {α γ : Type} [DecidableEq α] {m : List (α × γ)} {k : α} {v : γ} (h : mget m k = some v) : (k, v) ∈ m := by
  unfold mget at h
  simp only [Option.map_eq_some_iff] at h
  obtain ⟨p, hf, hv⟩ := h
  have h1 := List.mem_of_find?_eq_some hf
  have h2 := List.find?_some hf
  simp at h2
  subst hv h2
  exact h1
theorem found_good {r : Room} {a : Spot} (ha : isFree r a) : Good r (found r a) := by rw [found_eq]; exact bfs_good ha 100
theorem found_free {r : Room} {a s : Spot} {v : Int} (ha : isFree r a) (h : mget (found r a) s = some v) : isFree r s := (found_good ha).free _ (mget_mem h)
def nearB (r : Room) (a : Spot) (k : Int) (s : Spot) : Bool := match mget (found r a) s with
  | some v => decide (v ≤ k)
  | none => false
def nearL (r : Room) (a : Spot) (k : Int) : List Spot := (allCells r).filter (nearB r a k)
theorem near_free {r : Room} {a s : Spot} {k : Int} (ha : isFree r a) (h : nearB r a k s = true) : freeB r s = true := by
  unfold nearB at h
  split at h
  · rename_i v hv; exact (freeB_iff r s).mpr (found_free ha hv)
  · cases h
theorem nearL_free {r : Room} {a : Spot} (k : Int) (ha : isFree r a) : (freeL r).filter (nearB r a k) = nearL r a k := by
  unfold freeL nearL
  rw [List.filter_filter]
  refine List.filter_congr fun s _ => ?_
  cases h : nearB r a k s with
  | false => rfl
  | true => rw [near_free ha h]; rfl
theorem near_far {r : Room} {a s : Spot} (k : Int) (ha : isFree r a) (hc : cell10 s) : (decide (0 ≤ farF (found r a) (ix s)) && decide (farF (found r a) (ix s) ≤ k)) = nearB r a k s := by
  rw [farF_ix _ hc]
  unfold farOf nearB
  cases h : mget (found r a) s with
  | none => rfl
  | some v =>
    have := (found_pos ha h).1
    show (decide (0 ≤ v) && decide (v ≤ k)) = decide (v ≤ k)
    rw [decide_eq_true this]; rfl
theorem near_val {r : Room} {a s : Spot} {k : Int} {v : Int} {ok : Bool} (h : (mget (found r a) s = none ∧ Value.int .i64 v = .int .i64 0 ∧ ok = false) ∨ ∃ v', mget (found r a) s = some v' ∧ Value.int .i64 v = ivV v' ∧ ok = true) :
    nearB r a k s = (ok && decide (v ≤ k)) := by
  unfold nearB
  rcases h with ⟨h, _, e⟩ | ⟨v', h, q, e⟩
  · rw [h, e]; rfl
  · cases q; rw [h, e]; rfl
theorem ftake_yes {α : Type} {l : List α} {p : α → Bool} {i : Nat} {x : α} (h : l[i]? = some x) (hp : p x = true) : (l.take (i + 1)).filter p = (l.take i).filter p ++ [x] := by
  rw [List.take_add_one, h, List.filter_append]; simp [hp]
theorem ftake_no {α : Type} {l : List α} {p : α → Bool} {i : Nat} {x : α} (h : l[i]? = some x) (hp : p x = false) : (l.take (i + 1)).filter p = (l.take i).filter p := by
  rw [List.take_add_one, h, List.filter_append]; simp [hp]
theorem ftake_len {α : Type} (l : List α) (p : α → Bool) (i : Nat) : ((l.take i).filter p).length ≤ l.length := Nat.le_trans (List.length_filter_le _ _) (by rw [List.length_take]; omega)
theorem free_at {r : Room} {i : Nat} {x : Spot} (h : (freeL r)[i]? = some x) : isFree r x := (freeB_iff r x).mp (List.mem_filter.mp (List.mem_of_getElem? h)).2
end Go.AW
