/- Steps from a cell to all cells, as a search finds them. -/
import Derived.Test.YtkjmcolnoehjbaaRoom2
import Derived.Test.YtkjmcolnoehjbaaMap
namespace Go.AW
open Go
set_option linter.unusedVariables false
set_option linter.unusedSectionVars false
set_option linter.unusedSimpArgs false

abbrev Met := List (Spot × Int)
def put1 (n : Int) (m : Met) (s : Spot) : Met := if (mget m s).isSome = true then m else m ++ [(s, n + 1)]
def visit (r : Room) (m : Met) (i : Nat) : Met := match m[i]? with
  | some p => (beside r p.1).foldl (put1 p.2) m
  | none => m
def bfs (r : Room) (a : Spot) : Nat → Met
  | 0 => [(a, 0)]
  | i + 1 => visit r (bfs r a i) i
theorem ins_met {n : Int} {m : Met} {s : Spot} {v : Int} (h : mget m s = some v) : put1 n m s = m := by unfold put1; rw [if_pos (by rw [h]; rfl)]
theorem ins_new {n : Int} {m : Met} {s : Spot} (h : mget m s = none) : put1 n m s = m ++ [(s, n + 1)] := by unfold put1; rw [if_neg (by rw [h]; simp)]
theorem foldl_take {α β : Type} {f : β → α → β} {b : β} {l : List α} {k : Nat} {x : α} (h : l[k]? = some x) : f ((l.take k).foldl f b) x = (l.take (k + 1)).foldl f b := by
  rw [List.take_add_one, h, List.foldl_append]; rfl

/-- All cells met are free, each stands once, their steps are not below 0. -/
structure Good (r : Room) (m : Met) : Prop where
  free : ∀ p ∈ m, isFree r p.1
  dist : m.Pairwise fun p q => p.1 ≠ q.1
  pos : ∀ p ∈ m, 0 ≤ p.2 ∧ p.2 ≤ (m.length : Int)
theorem good_put1 {r : Room} {m : Met} (h : Good r m) {n : Int} {s : Spot} (hn : 0 ≤ n ∧ n ≤ m.length) (hs : isFree r s) : Good r (put1 n m s) := by
  cases hg : mget m s with
  | some v => rw [ins_met hg]; exact h
  | none =>
    rw [ins_new hg]
    have hno := mget_none hg
    refine ⟨fun p hp => ?_, ?_, fun p hp => ?_⟩
    · rcases List.mem_append.mp hp with hp | hp
      · exact h.free p hp
      · rw [List.mem_singleton.mp hp]; exact hs
    · refine List.pairwise_append.mpr ⟨h.dist, List.pairwise_singleton _ _, fun p hp q hq => ?_⟩
      rw [List.mem_singleton.mp hq]; exact hno p hp
    · rw [List.length_append]
      rcases List.mem_append.mp hp with hp | hp
      · have := h.pos p hp; simp only [List.length_cons, List.length_nil]; omega
      · rw [List.mem_singleton.mp hp]; simp only [List.length_cons, List.length_nil]; omega
theorem ins_len (n : Int) (m : Met) (s : Spot) : m.length ≤ (put1 n m s).length := by
  unfold put1; split <;> simp
theorem Good.insAll {r : Room} : ∀ (l : List Spot) {m : Met} {n : Int}, Good r m → (0 ≤ n ∧ n ≤ m.length) → (∀ s ∈ l, isFree r s) → Good r (l.foldl (put1 n) m) ∧ m.length ≤ (l.foldl (put1 n) m).length := by
  intro l
  induction l with
  | nil => exact fun h _ _ => ⟨h, Nat.le_refl _⟩
  | cons s l ih =>
    intro m n h hn hl
    have h1 := good_put1 h hn (hl s (by simp))
    have h2 := ins_len n m s
    obtain ⟨g1, g2⟩ := ih (n := n) h1 (by omega) fun t ht => hl t (by simp [ht])
    exact ⟨g1, Nat.le_trans h2 g2⟩
theorem beside_free {r : Room} {s : Spot} : ∀ (i : Nat), ∀ t ∈ besideTo r s i, isFree r t := by
  intro i
  induction i with
  | zero => intro t ht; cases ht
  | succ i ih =>
    intro t ht
    rcases List.mem_append.mp ht with ht | ht
    · exact ih t ht
    · split at ht
      · rename_i h; rw [List.mem_singleton.mp ht]; exact (freeB_iff _ _).mp h
      · cases ht
theorem bfs_good {r : Room} {a : Spot} (ha : isFree r a) (i : Nat) : Good r (bfs r a i) := by
  induction i with
  | zero => exact ⟨fun p hp => by rw [List.mem_singleton.mp hp]; exact ha, List.pairwise_singleton _ _, fun p hp => by rw [List.mem_singleton.mp hp]; simp [bfs]⟩
  | succ i ih =>
    show Good r (visit r (bfs r a i) i)
    unfold visit
    split
    · rename_i p hp
      exact (Good.insAll _ ih (ih.pos p (List.mem_of_getElem? hp)) (beside_free 4)).1
    · exact ih

theorem nodup_drop {l : List Nat} (hn : l.Nodup) (a : Nat) : l.length ≤ (l.filter fun x => decide (x ≠ a)).length + 1 := by
  induction l with
  | nil => simp
  | cons x l ih =>
    rw [List.nodup_cons] at hn
    by_cases h : x = a
    · subst h
      rw [List.filter_cons_of_neg (by simp)]
      have : (l.filter fun y => decide (y ≠ x)) = l := List.filter_eq_self.mpr fun y hy => by
        have : y ≠ x := fun e => hn.1 (e ▸ hy)
        simpa using this
      rw [this]; simp
    · rw [List.filter_cons_of_pos (by simpa using h)]
      have := ih hn.2
      simp only [List.length_cons]; omega
theorem nodup_bound : ∀ (n : Nat) (l : List Nat), l.Nodup → (∀ x ∈ l, x < n) → l.length ≤ n := by
  intro n
  induction n with
  | zero => intro l _ h; cases l with | nil => exact Nat.le_refl _ | cons x l => exact absurd (h x (by simp)) (by omega)
  | succ n ih =>
    intro l hn h
    have h1 := nodup_drop hn n
    have h2 := ih (l.filter fun x => decide (x ≠ n)) (hn.filter _) fun x hx => by
      obtain ⟨hx1, hx2⟩ := List.mem_filter.mp hx
      have := h x hx1
      have : x ≠ n := by simpa using hx2
      omega
    omega
/-- There are at most 100 cells. -/
theorem Good.len {r : Room} {m : Met} (h : Good r m) : m.length ≤ 100 := by
  have := nodup_bound 100 (m.map fun p => p.1.y.toNat * 10 + p.1.x.toNat) ?_ ?_
  · simpa using this
  · refine List.Pairwise.map _ (R := fun p q => p ∈ m ∧ q ∈ m ∧ p.1 ≠ q.1) ?_ ?_
    · rintro p q ⟨hp, hq, hne⟩ e
      obtain ⟨⟨a1, a2, a3, a4, a5, a6⟩, _⟩ := h.free p hp
      obtain ⟨⟨b1, b2, b3, b4, b5, b6⟩, _⟩ := h.free q hq
      exact hne (spot_ext (by omega) (by omega))
    · exact List.Pairwise.imp_of_mem (fun hp hq hne => ⟨hp, hq, hne⟩) h.dist
  · intro x hx
    obtain ⟨p, hp, rfl⟩ := List.mem_map.mp hx
    obtain ⟨⟨a1, a2, a3, a4, a5, a6⟩, _⟩ := h.free p hp
    omega
/-- Behind its end a search stands still. -/
theorem bfs_still {r : Room} {a : Spot} {i : Nat} (h : (bfs r a i).length ≤ i) : ∀ k, bfs r a (i + k) = bfs r a i := by
  intro k
  induction k with
  | zero => rfl
  | succ k ih =>
    show visit r (bfs r a (i + k)) (i + k) = _
    rw [ih]
    unfold visit
    rw [List.getElem?_eq_none (by omega)]
@[irreducible] def found (r : Room) (a : Spot) : Met := bfs r a 100
theorem found_eq (r : Room) (a : Spot) : found r a = bfs r a 100 := by unfold found; rfl
theorem bfs_found {r : Room} {a : Spot} (ha : isFree r a) {i : Nat} (h : (bfs r a i).length ≤ i) (hi : i ≤ 100) : bfs r a i = found r a := by
  have := bfs_still h (100 - i)
  rw [show i + (100 - i) = 100 by omega] at this
  rw [found_eq]; exact this.symm
/-- The steps, or -1. -/
def farOf (m : Met) (s : Spot) : Int := (mget m s).getD (-1)
end Go.AW
