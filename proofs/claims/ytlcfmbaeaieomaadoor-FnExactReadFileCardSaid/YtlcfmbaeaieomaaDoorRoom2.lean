/- Steps straight on, cells beside a cell. -/
import Derived.Test.YtlcfmbaeaieomaaDoorRoom
namespace Go.AW
open Go
set_option linter.unusedVariables false

theorem wrap8 (n : Int) : -128 ≤ IntKind.i8.wrap n ∧ IntKind.i8.wrap n ≤ 127 := by
  exact wf_i8 (wf_wrap .i8 n)
theorem wf_next {s : Spot} (h : wfSpot s) (k : Int) : wfSpot (nextSpot s k) := by
  obtain ⟨h1, h2⟩ := h
  unfold nextSpot
  split
  · exact ⟨h1, wrap8 _⟩
  · split
    · exact ⟨wrap8 _, h2⟩
    · split
      · exact ⟨h1, wrap8 _⟩
      · split
        · exact ⟨wrap8 _, h2⟩
        · exact ⟨h1, h2⟩
/-- Where one stands behind j steps to a side. -/
def stepS (s : Spot) (k : Int) : Nat → Spot
  | 0 => s
  | j + 1 => nextSpot (stepS s k j) k
theorem wf_step {s : Spot} (h : wfSpot s) (k : Int) (j : Nat) : wfSpot (stepS s k j) := by
  induction j with
  | zero => exact h
  | succ j ih => exact wf_next ih k
def rayIs (r : Room) (s : Spot) (k : Int) (n : Nat) : Prop := (∀ j, j < n → isFree r (stepS s k (j + 1))) ∧ ¬ isFree r (stepS s k (n + 1))
/-- How far the wall is at most. -/
def toWall (k : Int) (s : Spot) : Int := if k = 0 then s.y else if k = 1 then 9 - s.x else if k = 2 then 9 - s.y else s.x
theorem toWall_free {r : Room} {s : Spot} {k : Int} (h : isFree r s) : 0 ≤ toWall k s ∧ toWall k s ≤ 9 := by
  obtain ⟨⟨h1, h2, h3, h4, h5, h6⟩, _⟩ := h
  unfold toWall
  split
  · omega
  · split
    · omega
    · split <;> omega
theorem nw8 {n : Int} (h1 : -128 ≤ n) (h2 : n ≤ 127) : IntKind.i8.wrap n = n := nw (by show (-128 : Int) ≤ n; omega) (by show n ≤ (127 : Int); omega)
theorem toWall_next {r : Room} {s : Spot} {k : Int} (h : isFree r s) (hk : 0 ≤ k ∧ k ≤ 3) : toWall k (nextSpot s k) = toWall k s - 1 := by
  obtain ⟨⟨h1, h2, h3, h4, h5, h6⟩, _⟩ := h
  have e : k = 0 ∨ k = 1 ∨ k = 2 ∨ k = 3 := by omega
  rcases e with rfl | rfl | rfl | rfl
  · show IntKind.i8.wrap (s.y - 1) = s.y - 1; exact nw8 (by omega) (by omega)
  · show 9 - IntKind.i8.wrap (s.x + 1) = 9 - s.x - 1; rw [nw8 (by omega) (by omega)]; omega
  · show 9 - IntKind.i8.wrap (s.y + 1) = 9 - s.y - 1; rw [nw8 (by omega) (by omega)]; omega
  · show IntKind.i8.wrap (s.x - 1) = s.x - 1; exact nw8 (by omega) (by omega)
theorem exists_ray (r : Room) (s : Spot) {k : Int} (hk : 0 ≤ k ∧ k ≤ 3) : ∃ n, n ≤ 11 ∧ rayIs r s k n := by
  obtain ⟨q, hq⟩ := exists_first (fun j => ¬ isFree r (stepS s k (j + 1))) 12
  rcases hq with ⟨_, hq⟩ | ⟨n, h1, _, h3, h4⟩
  · exfalso
    have hall : ∀ j, j < 12 → isFree r (stepS s k (j + 1)) := fun j hj => Classical.not_not.mp (hq j hj)
    have key : ∀ j : Nat, j < 12 → toWall k (stepS s k (j + 1)) = toWall k (stepS s k 1) - j := by
      intro j
      induction j with
      | zero => intro _; simp
      | succ j ih =>
        intro hj
        have e1 := ih (by omega)
        have e2 := toWall_next (hall j (by omega)) hk
        show toWall k (nextSpot (stepS s k (j + 1)) k) = _
        rw [e2, e1]; omega
    have a := key 11 (by omega)
    have b1 : 0 ≤ toWall k (stepS s k 1) ∧ toWall k (stepS s k 1) ≤ 9 := toWall_free (hall 0 (by omega))
    have b2 : 0 ≤ toWall k (stepS s k (11 + 1)) ∧ toWall k (stepS s k (11 + 1)) ≤ 9 := toWall_free (hall 11 (by omega))
    omega
  · exact ⟨n, by omega, fun j hj => Classical.not_not.mp (h4 j hj), h3⟩
/-- The free cells beside a cell, side by side. -/
def besideTo (r : Room) (s : Spot) : Nat → List Spot
  | 0 => []
  | i + 1 => besideTo r s i ++ (if freeB r (nextSpot s i) = true then [nextSpot s i] else [])
def beside (r : Room) (s : Spot) : List Spot := besideTo r s 4
theorem beside_yes {r : Room} {s : Spot} {i : Nat} (h : freeB r (nextSpot s i) = true) : besideTo r s (i + 1) = besideTo r s i ++ [nextSpot s i] := by
  show _ ++ (if _ then _ else _) = _; rw [if_pos h]
theorem beside_no {r : Room} {s : Spot} {i : Nat} (h : freeB r (nextSpot s i) = false) : besideTo r s (i + 1) = besideTo r s i := by
  show _ ++ (if _ then _ else _) = _; rw [if_neg (by rw [h]; simp), List.append_nil]
theorem beside_len (r : Room) (s : Spot) (i : Nat) : (besideTo r s i).length ≤ i := by
  induction i with
  | zero => exact Nat.le_refl _
  | succ i ih => show (besideTo r s i ++ (if _ then _ else _)).length ≤ _; rw [List.length_append]; split <;> simp <;> omega
/-- Four numbers. -/
def four (g : Nat → Int) : List Value := [.int .i64 (g 0), .int .i64 (g 1), .int .i64 (g 2), .int .i64 (g 3)]
def upto4 (g : Nat → Int) (i : Nat) : Nat → Int := fun j => if j < i then g j else 0
theorem four_at {p : Nat → Prop} (h0 : p 0) (h1 : p 1) (h2 : p 2) (h3 : p 3) (y : Nat) (hy : y < 4) : p y := by
  match y, hy with
  | 0, _ => exact h0
  | 1, _ => exact h1
  | 2, _ => exact h2
  | 3, _ => exact h3
theorem four_get (g : Nat → Int) (i : Nat) (hi : i < 4) : (four g)[0 + ((i : Nat) : Int).toNat * 1]? = some (.int .i64 (g i)) := by
  rw [Int.toNat_natCast, Nat.mul_one, Nat.zero_add]
  exact four_at (p := fun i => (four g)[i]? = some (.int .i64 (g i))) rfl rfl rfl rfl i hi
theorem four_congr {f g : Nat → Int} (h : ∀ i, i < 4 → f i = g i) : four f = four g := by
  unfold four; rw [h 0 (by omega), h 1 (by omega), h 2 (by omega), h 3 (by omega)]
theorem four_put (g : Nat → Int) (i : Nat) (hi : i < 4) : (four (upto4 g i)).set (0 + ((i : Nat) : Int).toNat * 1) (.int .i64 (g i)) = four (upto4 g (i + 1)) := by
  rw [Int.toNat_natCast, Nat.mul_one, Nat.zero_add]
  exact four_at (p := fun i => (four (upto4 g i)).set i (.int .i64 (g i)) = four (upto4 g (i + 1))) rfl rfl rfl rfl i hi
theorem four_all (g : Nat → Int) : four (upto4 g 4) = four g := four_congr fun i hi => if_pos hi
/-- The rays to all sides. -/
theorem exists_rays (r : Room) (s : Spot) : ∃ g : Nat → Nat, ∀ i : Nat, i < 4 → rayIs r s (i : Int) (g i) ∧ g i ≤ 11 := by
  refine ⟨fun i => if h : i < 4 then (exists_ray r s (k := (i : Int)) (by omega)).choose else 0, fun i hi => ?_⟩
  have := (exists_ray r s (k := (i : Int)) (by omega)).choose_spec
  show rayIs r s i (if h : i < 4 then _ else 0) ∧ (if h : i < 4 then _ else 0) ≤ 11
  rw [dif_pos hi]
  exact ⟨this.2, this.1⟩
theorem stood_ok {r : Room} {s : Spot} {fine : Bool} (h : stoodC r s fine 0) : okRoom r ∧ isCell r s ∧ fine = true ∧ isFree r s := by
  rcases h with ⟨_, e⟩ | ⟨_, _, e⟩ | ⟨_, _, _, _, e⟩ | ⟨a, b, c, d, _⟩
  · omega
  · omega
  · omega
  · exact ⟨a, b, c, d⟩
theorem ray_lt {r : Room} {s : Spot} {k : Int} {n i : Nat} (h : rayIs r s k n) (hi : i ≤ n) (hf : freeB r (nextSpot (stepS s k i) k) = true) : i < n := by
  rcases Nat.lt_or_ge i n with h9 | h9
  · exact h9
  · obtain rfl : i = n := by omega
    exact absurd ((freeB_iff _ _).mp hf) h.2
theorem ray_ge {r : Room} {s : Spot} {k : Int} {n i : Nat} (h : rayIs r s k n) (hf : freeB r (nextSpot (stepS s k i) k) = false) : ¬ i < n := by
  intro h9
  have e : freeB r (nextSpot (stepS s k i) k) = true := (freeB_iff _ _).mpr (h.1 i h9)
  rw [e] at hf; cases hf
end Go.AW
