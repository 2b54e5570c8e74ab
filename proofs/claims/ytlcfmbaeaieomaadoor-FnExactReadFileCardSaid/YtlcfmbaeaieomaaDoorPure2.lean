/- Counts along a rope, the first fault of a count, even ropes. -/
import Derived.Test.YtlcfmbaeaieomaaDoorNil
namespace Go.AW
open Go
set_option linter.unusedVariables false

def nextS (s : Said) (who : Int) : Said := ⟨s.number + 1, (7 * s.check + who + 1) % 97⟩
def countS (hs : List Hold) : Nat → Said
  | 0 => ⟨0, 0⟩
  | k + 1 => nextS (countS hs k) (hs.getD k ⟨0, 0⟩).who
theorem countS_at {hs : List Hold} {k : Nat} {x : Hold} (h : hs[k]? = some x) : nextS (countS hs k) x.who = countS hs (k + 1) := by
  show _ = nextS _ _
  rw [List.getD_eq_getElem?_getD, h]; rfl
theorem countS_num (hs : List Hold) (k : Nat) : (countS hs k).number = k := by
  induction k with
  | zero => rfl
  | succ k ih => show (countS hs k).number + 1 = _; rw [ih]; omega
theorem countS_chk (hs : List Hold) (k : Nat) : 0 ≤ (countS hs k).check ∧ (countS hs k).check < 97 := by
  cases k with
  | zero => show (0 : Int) ≤ 0 ∧ (0 : Int) < 97; omega
  | succ k => show 0 ≤ (7 * _ + _ + 1 : Int) % 97 ∧ (7 * _ + _ + 1 : Int) % 97 < 97; omega
theorem countS_bnd (hs : List Hold) (k : Nat) (h : k ≤ 4194304) : 0 ≤ (countS hs k).number ∧ (countS hs k).number ≤ 4194304 ∧ 0 ≤ (countS hs k).check ∧ (countS hs k).check < 97 := by
  have h1 := countS_num hs k
  have h2 := countS_chk hs k
  omega
def counts (hs : List Hold) : List Said := (List.range hs.length).map fun i => countS hs (i + 1)
theorem counts_len (hs : List Hold) : (counts hs).length = hs.length := by simp [counts]
theorem counts_at {hs : List Hold} {i : Nat} (h : i < hs.length) : (counts hs)[i]? = some (countS hs (i + 1)) := by
  simp [counts, List.getElem?_range h]

theorem okHolds_ge {n : Nat} {hs : List Hold} (h : okHolds n hs) : ∀ (i : Nat) x, hs[i]? = some x → (i : Int) ≤ x.knot := by
  intro i
  induction i with
  | zero => intro x hx; have := (h 0 x hx).1; unfold inRange at this; omega
  | succ i ih =>
    intro x hx
    obtain ⟨y, hy⟩ := get_lt (show i < hs.length by have := (List.getElem?_eq_some_iff.mp hx).1; omega)
    have h1 := ih y hy
    have h2 := (h (i + 1) x hx).2.1 i y rfl hy
    omega
theorem okHolds_len {n : Nat} {hs : List Hold} (h : okHolds n hs) : hs.length ≤ n := by
  rcases Nat.eq_zero_or_pos hs.length with e | e
  · omega
  · obtain ⟨x, hx⟩ := get_lt (show hs.length - 1 < hs.length by omega)
    have h1 := okHolds_ge h _ x hx
    have h2 := (h _ x hx).1
    unfold inRange at h2; omega

def faultAt (hs : List Hold) (sd : List Said) (j : Nat) : Prop := sd[j]? ≠ some (countS hs (j + 1))
def faultV (n m : Nat) (r : Int) : Value := .tuple #[.int .i64 (if 0 ≤ r then r else if n < m then n else 0), .int .i64 (if 0 ≤ r then 0 else if n < m then 0 else 6)]
theorem faultV_hit {n m i : Nat} {r : Int} (h : (i : Int) = r) : Value.tuple #[.int .i64 i, .int .i64 0] = faultV n m r := by
  subst h; unfold faultV; rw [if_pos (by omega), if_pos (by omega)]
theorem faultV_more {n m : Nat} {r : Int} (h : (-1 : Int) = r) (hm : n < m) : Value.tuple #[.int .i64 n, .int .i64 0] = faultV n m r := by
  subst h; unfold faultV; rw [if_neg (by omega), if_pos hm, if_neg (by omega), if_pos hm]
theorem faultV_none {n m : Nat} {r : Int} (h : (-1 : Int) = r) (hm : ¬ n < m) : Value.tuple #[.int .i64 0, .int .i64 6] = faultV n m r := by
  subst h; unfold faultV; rw [if_neg (by omega), if_neg hm, if_neg (by omega), if_neg hm]

/-- What a cut leaves behind. -/
def cutB (ks : List Int) (k : Nat) (x : Int) : List Int := (ks.drop k).map fun y => y - x
theorem cutB_len (ks : List Int) (k : Nat) (x : Int) : (cutB ks k x).length = ks.length - k := by simp [cutB]
theorem cutB_at {ks : List Int} {k i : Nat} {x y : Int} (h : ks[k + i]? = some y) : (cutB ks k x)[i]? = some (y - x) := by
  simp [cutB, List.getElem?_drop, h]

/-- The knots of an even rope, without the last one: 0, gap, 2 gap .. below long. -/
def evens (gap : Int) : Nat → List Int
  | 0 => []
  | n + 1 => evens gap n ++ [gap * n]
theorem evens_len (gap : Int) (n : Nat) : (evens gap n).length = n := by
  induction n with
  | zero => rfl
  | succ n ih => show (evens gap n ++ [_]).length = _; rw [List.length_append, ih]; rfl
def evenL (long gap : Int) (n : Nat) : List Int := evens gap n ++ [long]
theorem evenL_len (long gap : Int) (n : Nat) : (evenL long gap n).length = n + 1 := by
  unfold evenL; rw [List.length_append, evens_len]; rfl
theorem evens_succ (gap : Int) (n : Nat) : (fl i16 (evens gap n)).drop 0 ++ [.int .i16 (gap * (n : Int))] = fl i16 (evens gap (n + 1)) := (fl_snoc i16 (evens gap n) (gap * (n : Int))).symm
theorem evens_one (gap : Int) : fl i16 (evens gap (0 + 1)) = [.int .i16 0] := by
  show [Value.int .i16 (gap * ((0 : Nat) : Int))] = _
  simp
theorem evens_end (long gap : Int) (n : Nat) : (fl i16 (evens gap n)).drop 0 ++ [.int .i16 long] = fl i16 (evenL long gap n) := (fl_snoc i16 (evens gap n) long).symm
/-- The number of knots of an even rope but the last one. -/
def evenN (long s : Int) (n : Nat) : Prop := 0 < s ∧ 1 ≤ n ∧ s * ((n - 1 : Nat) : Int) < long ∧ long ≤ s * (n : Int)
theorem evenN_at {long s : Int} {n j : Nat} (h : evenN long s n) (h1 : 1 ≤ j) (h2 : s * ((j - 1 : Nat) : Int) < long) (h3 : long ≤ s * (j : Int)) : j = n := by
  obtain ⟨g0, g1, g2, g3⟩ := h
  have a1 : ((n - 1 : Nat) : Int) < (j : Int) := Int.lt_of_mul_lt_mul_left (Int.lt_of_lt_of_le g2 h3) (Int.le_of_lt g0)
  have a2 : ((j - 1 : Nat) : Int) < (n : Int) := Int.lt_of_mul_lt_mul_left (Int.lt_of_lt_of_le h2 g3) (Int.le_of_lt g0)
  omega
theorem exists_evenN {long s : Int} (h1 : 1 ≤ long) (hs : 1 ≤ s) : ∃ n, evenN long s n := by
  have key : ∀ m : Nat, (∃ n, evenN long s n) ∨ s * (m : Int) < long := by
    intro m
    induction m with
    | zero => right; simp; omega
    | succ m ih =>
      rcases ih with ih | ih
      · exact .inl ih
      · by_cases h : s * ((m + 1 : Nat) : Int) < long
        · exact .inr h
        · exact .inl ⟨m + 1, by omega, by omega, by simpa using ih, by omega⟩
  rcases key long.toNat with h | h
  · exact h
  · exfalso
    have : (1 : Int) * (long.toNat : Int) ≤ s * (long.toNat : Int) := Int.mul_le_mul_of_nonneg_right hs (by omega)
    omega
/-- Steps that are as long as the rope, or longer, come to one knot. -/
theorem evenN_big {long s : Int} {n : Nat} (h : evenN long s n) (hb : long ≤ s) : n = 1 :=
  (evenN_at h (Nat.le_refl 1) (by have := h.2.2.1; have : (0 : Int) ≤ s * ((n - 1 : Nat) : Int) := Int.mul_nonneg (Int.le_of_lt h.1) (by omega); simp; omega) (by simpa using hb)).symm
theorem evenN_min {long gap : Int} {n : Nat} (h1 : 1 ≤ long) (hg : 1 ≤ gap) (ht : long ≤ 400) (h : evenN long (if gap < 400 then gap else 400) n) : evenN long (if long < gap then long else gap) n := by
  by_cases hb : long < gap
  · rw [if_pos hb]
    have hn : n = 1 := evenN_big h (by split <;> omega)
    subst hn
    exact ⟨by omega, Nat.le_refl 1, by simp; omega, by simp⟩
  · rw [if_neg hb]
    by_cases hc : gap < 400
    · rwa [if_pos hc] at h
    · rw [if_neg hc] at h
      have : gap = 400 := by omega
      rwa [this]
theorem even_step (s : Int) (j : Nat) : s * (j : Int) + s = s * ((j + 1 : Nat) : Int) := by
  rw [Int.natCast_add, Int.mul_add]; simp
theorem even_one (s : Int) : (0 : Int) + s = s * ((0 + 1 : Nat) : Int) := by simp
/-- The next knot: j steps are j gaps. -/
theorem even_knot {long gap s : Int} {j : Nat} (h1 : s * (j : Int) < long) (hs : s = gap ∨ long ≤ s) (h0 : 0 < s) : s * (j : Int) = gap * (j : Int) := by
  rcases hs with rfl | hs
  · rfl
  · have : j = 0 := by
      rcases Nat.eq_zero_or_pos j with e | e
      · exact e
      · exfalso
        have : s * (1 : Int) ≤ s * (j : Int) := Int.mul_le_mul_of_nonneg_left (by omega) (Int.le_of_lt h0)
        omega
    subst this; simp
theorem srcn {H : AHeap} {es n m : Nat} {v : Value} {cs : List Value} (h : Src H es v n cs) (e : n = m) : Src H es v m cs := e ▸ h
theorem drop_at {α : Type} {z l : List α} {i k : Nat} {y : α} (hd : z.drop i = (l.drop k).drop i) (h : l[k + i]? = some y) : z[i]? = some y := by
  have := congrArg (·[0]?) hd
  simpa [List.getElem?_drop, h] using this
end Go.AW
