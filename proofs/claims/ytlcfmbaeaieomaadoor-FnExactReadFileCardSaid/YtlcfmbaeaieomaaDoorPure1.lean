/- What it means that a rope, and a list of holds, is valid. -/
import Derived.Test.YtlcfmbaeaieomaaDoorEqS
namespace Go.AW
open Go

def okRope (L : Int) (ks : List Int) : Prop :=
  1 ≤ L ∧ L ≤ 400 ∧ 2 ≤ ks.length ∧ ks.length ≤ 40 ∧ (∀ x, ks[0]? = some x → x = 0) ∧ (∀ x, ks[ks.length - 1]? = some x → x = L) ∧
    ∀ (i : Nat) x y, ks[i]? = some x → ks[i + 1]? = some y → x < y

theorem sub1 (k : Nat) (h : k < 4611686018427387904) : Value.int .i64 (IntKind.i64.wrap (((k + 1 : Nat) : Int) - 1)) = .int .i64 ((k : Nat) : Int) := by
  rw [nw (by show (-9223372036854775808 : Int) ≤ _; omega) (by show _ ≤ (9223372036854775807 : Int); omega)]
  congr 1; omega
theorem subn (n : Nat) (h1 : 1 ≤ n) (h : n < 4611686018427387904) : Value.int .i64 (IntKind.i64.wrap ((n : Int) - 1)) = .int .i64 ((n - 1 : Nat) : Int) := by
  rw [nw (by show (-9223372036854775808 : Int) ≤ _; omega) (by show _ ≤ (9223372036854775807 : Int); omega)]
  congr 1; omega

theorem beqb {b : Bool} {p : Prop} {x y : Int} (hb : b = true ↔ p) (h : p ↔ x = y) : Value.bool (x == y) = Value.bool b := by
  by_cases e : x = y
  · rw [hb.mpr (h.mpr e), beq_iff_eq.mpr e]
  · rw [← bf hb (fun q => e (h.mp q)), beq_eq_false_iff_ne.mpr e]

theorem mk16_at {k : Int} {n i : Nat} (h : i < n) : (mk16 k n)[i]? = some (IntKind.i16.wrap (k + i)) := by
  obtain ⟨x, hx⟩ := get_lt (l := mk16 k n) (by rw [mk16_len]; exact h)
  rw [hx, mk16_get hx]
theorem mk64_at {k : Int} {n i : Nat} (h : i < n) : (mk64 k n)[i]? = some (k + i) := by
  obtain ⟨x, hx⟩ := get_lt (l := mk64 k n) (by rw [mk64_len]; exact h)
  rw [hx, mk64_get hx]
theorem mkHold_at {k : Int} {n i : Nat} (h : i < n) : (mkHold k n)[i]? = some ⟨IntKind.i16.wrap (k + 2 * i), IntKind.i8.wrap (k + 2 * i + 1)⟩ := by
  obtain ⟨x, hx⟩ := get_lt (l := mkHold k n) (by rw [mkHold_len]; exact h)
  rw [hx, mkHold_get hx]
theorem mkSaid_at {k : Int} {n i : Nat} (h : i < n) : (mkSaid k n)[i]? = some ⟨k + 2 * i, k + 2 * i + 1⟩ := by
  obtain ⟨x, hx⟩ := get_lt (l := mkSaid k n) (by rw [mkSaid_len]; exact h)
  rw [hx, mkSaid_get hx]
theorem hold_set2 {z : List Hold} {i : Nat} {a b : Int} (h : i < z.length) :
    ((fl hold z).set (0 + ((i : Nat) : Int).toNat * 2 + 0) (.int .i16 a)).set (0 + ((i : Nat) : Int).toNat * 2 + 1) (.int .i8 b) = fl hold (z.set i ⟨a, b⟩) := by
  rw [fl_setz hold_len ⟨a, z[i].knot⟩ (get_some h) (by decide) rfl, fl_setz hold_len ⟨a, b⟩ (x := ⟨a, z[i].knot⟩) (by rw [List.getElem?_set_self h]) (by decide) rfl, List.set_set]
theorem said_set2 {z : List Said} {i : Nat} {a b : Int} (h : i < z.length) :
    ((fl said z).set (0 + ((i : Nat) : Int).toNat * 2 + 0) (.int .i64 a)).set (0 + ((i : Nat) : Int).toNat * 2 + 1) (.int .i64 b) = fl said (z.set i ⟨a, b⟩) := by
  rw [fl_setz said_len ⟨a, z[i].check⟩ (get_some h) (by decide) rfl, fl_setz said_len ⟨a, b⟩ (x := ⟨a, z[i].check⟩) (by rw [List.getElem?_set_self h]) (by decide) rfl, List.set_set]

theorem app_snoc {α : Type} {e : α → List Value} {l : List α} {k : Nat} {x : α} (h : l[k]? = some x) : (fl e (l.take k)).drop 0 ++ e x = fl e (l.take (k + 1)) := by
  rw [List.drop_zero, List.take_add_one, h]; exact (fl_snoc e _ x).symm

theorem no {p : Prop} (h : ¬ p) : false = true ↔ p := ⟨fun e => (nomatch e), fun e => absurd e h⟩
theorem yes {p : Prop} (h : p) : true = true ↔ p := ⟨fun _ => h, fun _ => rfl⟩

/-- How far the knots are apart. -/
def gaps (ks : List Int) : List Int := (List.range (ks.length - 1)).map fun i => ks.getD (i + 1) 0 - ks.getD i 0
theorem gaps_len (ks : List Int) : (gaps ks).length = ks.length - 1 := by simp [gaps]
theorem gaps_at {ks : List Int} {k : Nat} {x y : Int} (hx : ks[k]? = some x) (hy : ks[k + 1]? = some y) : (gaps ks)[k]? = some (y - x) := by
  have h := (List.getElem?_eq_some_iff.mp hy).1
  simp [gaps, List.getElem?_range (show k < ks.length - 1 by omega), hx, hy]

/-- The size of a number; the knot that is nearest. -/
def dist (n : Int) : Int := if 0 - n < n then n else 0 - n
def near (ks : List Int) (a : Int) : Nat → Nat
  | 0 => 0
  | k + 1 => if dist (ks.getD (k + 1) 0 - a) < dist (ks.getD (near ks a k) 0 - a) then k + 1 else near ks a k
theorem near_le (ks : List Int) (a : Int) (k : Nat) : near ks a k ≤ k := by
  induction k with
  | zero => exact Nat.le_refl _
  | succ k ih => unfold near; split <;> omega
theorem near_yes {ks : List Int} {a x z : Int} {i : Nat} (hx : ks[i]? = some x) (hz : ks[near ks a (i - 1)]? = some z) (h : dist (x - a) < dist (z - a)) : near ks a i = i := by
  cases i with
  | zero => rfl
  | succ k =>
    rw [near, if_pos]
    rw [List.getD_eq_getElem?_getD, List.getD_eq_getElem?_getD, hx]
    rw [Nat.add_sub_cancel] at hz
    rw [hz]; exact h
theorem near_no {ks : List Int} {a x z : Int} {i : Nat} (hx : ks[i]? = some x) (hz : ks[near ks a (i - 1)]? = some z) (h : ¬ dist (x - a) < dist (z - a)) : near ks a i = near ks a (i - 1) := by
  cases i with
  | zero => rfl
  | succ k =>
    rw [near, if_neg, Nat.add_sub_cancel]
    rw [List.getD_eq_getElem?_getD, List.getD_eq_getElem?_getD, hx]
    rw [Nat.add_sub_cancel] at hz
    rw [hz]; exact h
theorem dist_bnd {n : Int} (h : -1000000 ≤ n ∧ n ≤ 1000000) : 0 ≤ dist n ∧ dist n ≤ 1000000 := by unfold dist; split <;> omega

theorem okRope.mono {L : Int} {ks : List Int} (h : okRope L ks) : ∀ (i j : Nat) x y, i ≤ j → ks[i]? = some x → ks[j]? = some y → x ≤ y := by
  intro i j
  induction j with
  | zero => intro x y hij hx hy; obtain rfl : i = 0 := by omega
            rw [hx] at hy; cases hy; omega
  | succ j ih =>
    intro x y hij hx hy
    rcases Nat.lt_or_ge i (j + 1) with h1 | h1
    · obtain ⟨z, hz⟩ := get_lt (l := ks) (i := j) (by have := (List.getElem?_eq_some_iff.mp hy).1; omega)
      have := ih x z (by omega) hx hz
      have := h.2.2.2.2.2.2 j z y hz hy
      omega
    · obtain rfl : i = j + 1 := by omega
      rw [hx] at hy; cases hy; omega
theorem okRope.bnd {L : Int} {ks : List Int} (h : okRope L ks) {i : Nat} {x : Int} (hx : ks[i]? = some x) : 0 ≤ x ∧ x ≤ L := by
  have hi := (List.getElem?_eq_some_iff.mp hx).1
  obtain ⟨a, ha⟩ := get_lt (l := ks) (i := 0) (by omega)
  obtain ⟨z, hz⟩ := get_lt (l := ks) (i := ks.length - 1) (by omega)
  have h1 := h.mono 0 i a x (by omega) ha hx
  have h2 := h.mono i (ks.length - 1) x z (by omega) hx hz
  have h3 := h.2.2.2.2.1 a ha
  have h4 := h.2.2.2.2.2.1 z hz
  omega

/-- Valid holds. -/
def inRange (n : Nat) (x : Hold) : Prop := 0 ≤ x.who ∧ x.who ≤ 999 ∧ 0 ≤ x.knot ∧ x.knot + 1 ≤ n
def goodAt (n : Nat) (hs : List Hold) (i : Nat) : Prop :=
  ∀ x, hs[i]? = some x → inRange n x ∧ (∀ (j : Nat) y, i = j + 1 → hs[j]? = some y → y.knot < x.knot) ∧ (∀ (j : Nat) y, j < i → hs[j]? = some y → y.who ≠ x.who)
def okHolds (n : Nat) (hs : List Hold) : Prop := ∀ i, goodAt n hs i
def holdOk (hs : List Hold) : Prop := ∀ x ∈ hs, (-32768 ≤ x.who ∧ x.who ≤ 32767) ∧ (-128 ≤ x.knot ∧ x.knot ≤ 127)

/-- The first one, or -1. -/
def firstAt (p : Nat → Prop) (m : Nat) (r : Int) : Prop := (r = -1 ∧ ∀ j, j < m → ¬ p j) ∨ ∃ k : Nat, k < m ∧ r = k ∧ p k ∧ ∀ j, j < k → ¬ p j
theorem exists_first (p : Nat → Prop) (m : Nat) : ∃ r, firstAt p m r := by
  induction m with
  | zero => exact ⟨-1, .inl ⟨rfl, fun j h => by omega⟩⟩
  | succ m ih =>
    obtain ⟨r, ⟨h1, h2⟩ | ⟨k, h1, h2, h3, h4⟩⟩ := ih
    · by_cases h : p m
      · exact ⟨m, .inr ⟨m, by omega, rfl, h, h2⟩⟩
      · refine ⟨-1, .inl ⟨rfl, fun j hj => ?_⟩⟩
        rcases Nat.lt_or_ge j m with h5 | h5
        · exact h2 j h5
        · obtain rfl : j = m := by omega
          exact h
    · exact ⟨r, .inr ⟨k, by omega, h2, h3, h4⟩⟩
theorem firstAt_hit {p : Nat → Prop} {m : Nat} {r : Int} (h : firstAt p m r) {i : Nat} (hi : i < m) (hp : p i) (hb : ∀ j, j < i → ¬ p j) : (i : Int) = r := by
  rcases h with ⟨_, h⟩ | ⟨k, h1, h2, h3, h4⟩
  · exact absurd hp (h i hi)
  · rcases Nat.lt_trichotomy i k with h5 | h5 | h5
    · exact absurd hp (h4 i h5)
    · omega
    · exact absurd h3 (hb k h5)
theorem firstAt_none {p : Nat → Prop} {m : Nat} {r : Int} (h : firstAt p m r) (hb : ∀ j, j < m → ¬ p j) : (-1 : Int) = r := by
  rcases h with ⟨h, _⟩ | ⟨k, h1, h2, h3, h4⟩
  · omega
  · exact absurd h3 (hb k h1)
theorem firstAt_ge {p : Nat → Prop} {m : Nat} {r : Int} (h : firstAt p m r) : 0 ≤ r ↔ ∃ j, j < m ∧ p j := by
  rcases h with ⟨h, h'⟩ | ⟨k, h1, h2, h3, h4⟩
  · exact ⟨fun q => by omega, fun ⟨j, q1, q2⟩ => absurd q2 (h' j q1)⟩
  · exact ⟨fun _ => ⟨k, h1, h3⟩, fun _ => by omega⟩
theorem bdec {b : Bool} {p q : Prop} [Decidable q] (hb : b = true ↔ p) (h : p ↔ q) : Value.bool (decide q) = Value.bool b := by
  by_cases e : q
  · rw [hb.mpr (h.mpr e), decide_eq_true e]
  · rw [← bf hb (fun z => e (h.mp z)), decide_eq_false e]
theorem beqv {b c : Bool} {p : Prop} (hb : b = true ↔ p) (h : c = true ↔ p) : Value.bool c = Value.bool b := by
  congr 1; rw [Bool.eq_iff_iff, hb, h]

theorem take_hit {α : Type} {l : List α} {i j : Nat} {y : α} {p : Prop} (h : (l.take i)[j]? = some y) (k : j < i → l[j]? = some y → p) : p := by
  rw [List.getElem?_take] at h
  split at h
  · exact k (by assumption) h
  · cases h

end Go.AW
