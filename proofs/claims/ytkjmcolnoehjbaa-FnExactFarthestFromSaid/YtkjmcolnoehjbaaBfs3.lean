/- A search's walk: its grid of steps. -/
import Derived.Test.YtkjmcolnoehjbaaBfs2
namespace Go.AW
open Go
set_option linter.unusedVariables false
set_option linter.unusedSectionVars false
set_option linter.unusedSimpArgs false

def gridC (f : Nat → Int) : List Value := (List.range 100).map fun j => .int .i64 (f j)
theorem gridC_len (f : Nat → Int) : (gridC f).length = 100 := by unfold gridC; rw [List.length_map, List.length_range]
theorem gridC_at (f : Nat → Int) {j : Nat} (h : j < 100) : (gridC f)[j]? = some (.int .i64 (f j)) := by
  unfold gridC; rw [List.getElem?_map, List.getElem?_range h]; rfl
def updF (f : Nat → Int) (j : Nat) (v : Int) (k : Nat) : Int := if k = j then v else f k
theorem gridC_congr {f g : Nat → Int} (h : ∀ j, j < 100 → f j = g j) : gridC f = gridC g := by
  unfold gridC
  exact List.map_congr_left fun j hj => by rw [h j (List.mem_range.mp hj)]
theorem gridC_set (f : Nat → Int) {j : Nat} (v : Int) (h : j < 100) : (gridC f).set j (.int .i64 v) = gridC (updF f j v) := by
  refine List.ext_getElem? fun k => ?_
  rw [List.getElem?_set]
  by_cases e : j = k
  · subst e
    rw [if_pos rfl, if_pos (by rw [gridC_len]; exact h), gridC_at _ h]
    unfold updF; rw [if_pos rfl]
  · rw [if_neg e]
    by_cases hk : k < 100
    · rw [gridC_at _ hk, gridC_at _ hk]; unfold updF; rw [if_neg (Ne.symm e)]
    · rw [List.getElem?_eq_none (by rw [gridC_len]; omega), List.getElem?_eq_none (by rw [gridC_len]; omega)]
def negTo (n j : Nat) : Int := if j < n then -1 else 0
theorem neg_put {x y : Nat} (hx : x < 10) (hy : y < 10) : (gridC (negTo (y * 10 + x))).set (0 + ((y : Nat) : Int).toNat * 10 + ((x : Nat) : Int).toNat * 1) (.int .i64 (-1)) = gridC (negTo (y * 10 + (x + 1))) := by
  rw [show 0 + ((y : Nat) : Int).toNat * 10 + ((x : Nat) : Int).toNat * 1 = y * 10 + x by omega, gridC_set _ _ (by omega)]
  refine gridC_congr fun j hj => ?_
  unfold updF negTo
  by_cases e : j = y * 10 + x
  · rw [if_pos e, if_pos (by omega)]
  · rw [if_neg e]
    by_cases h : j < y * 10 + x
    · rw [if_pos h, if_pos (by omega)]
    · rw [if_neg h, if_neg (by omega)]
def cell10 (s : Spot) : Prop := 0 ≤ s.x ∧ s.x < 10 ∧ 0 ≤ s.y ∧ s.y < 10
theorem cell10_of {r : Room} {s : Spot} (h : isFree r s) : cell10 s := by
  obtain ⟨⟨a1, a2, a3, a4, a5, a6⟩, _⟩ := h
  exact ⟨by omega, by omega, by omega, by omega⟩
def ix (s : Spot) : Nat := s.y.toNat * 10 + s.x.toNat
def farF (m : Met) (j : Nat) : Int := farOf m ⟨((j % 10 : Nat) : Int), ((j / 10 : Nat) : Int)⟩
theorem farF_ix (m : Met) {s : Spot} (h : cell10 s) : farF m (ix s) = farOf m s := by
  obtain ⟨h1, h2, h3, h4⟩ := h
  unfold farF ix
  congr 1
  exact spot_ext (by show ((_ : Nat) : Int) = _; omega) (by show ((_ : Nat) : Int) = _; omega)
theorem farF_new {m : Met} {x : Spot} {n : Int} (hc : cell10 x) (h : mget m x = none) {j : Nat} (hj : j < 100) : updF (farF m) (ix x) n j = farF (m ++ [(x, n)]) j := by
  obtain ⟨h1, h2, h3, h4⟩ := hc
  unfold updF farF farOf
  rw [mget_app, mget_cons, mget_nil]
  by_cases e : j = ix x
  · rw [if_pos e]
    have hs : (⟨((j % 10 : Nat) : Int), ((j / 10 : Nat) : Int)⟩ : Spot) = x := by
      subst e; unfold ix
      exact spot_ext (by show ((_ : Nat) : Int) = _; omega) (by show ((_ : Nat) : Int) = _; omega)
    rw [hs, h, if_pos rfl]; rfl
  · rw [if_neg e, if_neg]
    · cases mget m _ <;> rfl
    · intro q
      have q1 := congrArg Spot.x q
      have q2 := congrArg Spot.y q
      simp only at q1 q2
      apply e; unfold ix; omega
theorem ix_lt {s : Spot} (h : cell10 s) : ix s < 100 := by
  obtain ⟨h1, h2, h3, h4⟩ := h; unfold ix; omega
theorem grid_at {f : Nat → Int} {s : Spot} (h : cell10 s) : (gridC f)[0 + s.y.toNat * 10 + s.x.toNat * 1]? = some (.int .i64 (f (ix s))) := by
  rw [show 0 + s.y.toNat * 10 + s.x.toNat * 1 = ix s by unfold ix; omega]; exact gridC_at f (ix_lt h)
theorem grid_new {m : Met} {x : Spot} {n : Int} (hc : cell10 x) (h : mget m x = none) : (gridC (farF m)).set (0 + x.y.toNat * 10 + x.x.toNat * 1) (.int .i64 n) = gridC (farF (m ++ [(x, n)])) := by
  rw [show 0 + x.y.toNat * 10 + x.x.toNat * 1 = ix x by unfold ix; omega, gridC_set _ _ (ix_lt hc)]
  exact gridC_congr fun j hj => farF_new hc h hj
theorem grid_first {s : Spot} (hc : cell10 s) : (gridC (negTo 100)).set (0 + s.y.toNat * 10 + s.x.toNat * 1) (.int .i64 0) = gridC (farF [(s, 0)]) := by
  have : gridC (negTo 100) = gridC (farF []) := gridC_congr fun j hj => by unfold negTo; rw [if_pos hj]; rfl
  rw [this]
  exact grid_new (m := []) hc rfl
theorem far_none {r : Room} {m : Met} (hg : Good r m) {x : Spot} (hc : cell10 x) (h : farF m (ix x) < 0) : mget m x = none := by
  rw [farF_ix m hc] at h
  unfold farOf at h
  cases e : mget m x with
  | none => rfl
  | some v =>
    rw [e] at h
    obtain ⟨p, hp, hx⟩ : ∃ p ∈ m, p.2 = v := by
      unfold mget at e
      simp only [Option.map_eq_some_iff] at e
      obtain ⟨p, hf, hv⟩ := e
      exact ⟨p, List.mem_of_find?_eq_some hf, hv⟩
    have := (hg.pos p hp).1
    simp at h; omega
theorem far_some {m : Met} {x : Spot} (hc : cell10 x) (h : ¬ farF m (ix x) < 0) : ∃ v, mget m x = some v := by
  rw [farF_ix m hc] at h
  unfold farOf at h
  cases e : mget m x with
  | none => rw [e] at h; exact absurd (by decide) h
  | some v => exact ⟨v, rfl⟩
theorem far_at {m : Met} {p : Spot × Int} (hc : cell10 p.1) (h : mget m p.1 = some p.2) : farF m (ix p.1) = p.2 := by
  rw [farF_ix m hc]; unfold farOf; rw [h]; rfl
end Go.AW
