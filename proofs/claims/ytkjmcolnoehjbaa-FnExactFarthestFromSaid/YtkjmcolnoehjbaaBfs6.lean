/- The farthest cell. -/
import Derived.Test.YtkjmcolnoehjbaaBfs5
namespace Go.AW
open Go
set_option linter.unusedVariables false
set_option linter.unusedSectionVars false
def befS (a b : Spot) : Prop := a.y < b.y ∨ a.y = b.y ∧ a.x < b.x
instance (a b : Spot) : Decidable (befS a b) := by unfold befS; infer_instance
theorem rowCells_sorted (y x : Nat) : (rowCells y x).Pairwise befS := by
  unfold rowCells
  refine List.Pairwise.map _ (R := fun a b : Nat => a < b) (fun a b h => .inr ⟨rfl, ?_⟩) List.pairwise_lt_range
  show (a : Int) < (b : Int); omega
theorem cellsTo_sorted (w : Nat) : ∀ (y x : Nat), (cellsTo w y x).Pairwise befS := by
  intro y
  induction y with
  | zero => exact fun x => rowCells_sorted 0 x
  | succ y ih =>
    intro x
    refine List.pairwise_append.mpr ⟨ih w, rowCells_sorted _ _, fun a ha b hb => .inl ?_⟩
    obtain ⟨c, d, e1, h1, _⟩ := mem_cellsTo ha
    obtain ⟨i, _, e2⟩ := List.mem_map.mp hb
    subst e1 e2
    show (d : Int) < ((y + 1 : Nat) : Int); omega
theorem freeL_sorted (r : Room) : (freeL r).Pairwise befS := (cellsTo_sorted _ _ _).filter _
theorem cellsTo_mem (w : Nat) : ∀ (y x : Nat) {a b : Nat}, (b = y ∧ a < x) ∨ (b < y ∧ a < w) → (⟨(a : Int), (b : Int)⟩ : Spot) ∈ cellsTo w y x := by
  intro y
  induction y with
  | zero =>
    intro x a b h
    have h1 : b = 0 ∧ a < x := by omega
    obtain ⟨rfl, h2⟩ := h1
    exact List.mem_map.mpr ⟨a, List.mem_range.mpr h2, rfl⟩
  | succ y ih =>
    intro x a b h
    refine List.mem_append.mpr ?_
    by_cases hb : b = y + 1
    · subst hb; exact .inr (List.mem_map.mpr ⟨a, List.mem_range.mpr (by omega), rfl⟩)
    · exact .inl (ih w (by omega))
theorem mem_allCells {r : Room} {s : Spot} (h : isCell r s) : s ∈ allCells r := by
  obtain ⟨h1, h2, h3, h4, h5, h6⟩ := h
  have := cellsTo_mem r.w.toNat r.h.toNat 0 (a := s.x.toNat) (b := s.y.toNat) (by omega)
  have e : (⟨((s.x.toNat : Nat) : Int), ((s.y.toNat : Nat) : Int)⟩ : Spot) = s := spot_ext (by show ((_ : Nat) : Int) = _; omega) (by show ((_ : Nat) : Int) = _; omega)
  rw [e] at this; exact this
theorem mem_freeL {r : Room} {s : Spot} (h : isFree r s) : s ∈ freeL r := List.mem_filter.mpr ⟨mem_allCells h.1, (freeB_iff r s).mpr h⟩
section
variable (f : Spot → Int)
/-- As good at least: farther, or as far and not behind. -/
def geF (b x : Spot) : Prop := f x < f b ∨ f x = f b ∧ (x = b ∨ befS b x)
def nbF (b x : Spot) : Spot := if f b < f x ∨ f x = f b ∧ befS x b then x else b
def topF (p : Spot × Int) (x : Spot) : Spot × Int := if p.2 < f x then (x, f x) else p
variable {f : Spot → Int}
theorem befS_trans {a b c : Spot} (h : befS a b) (k : befS b c) : befS a c := by unfold befS at *; omega
theorem befS_total (a b : Spot) : befS a b ∨ a = b ∨ befS b a := by
  by_cases h : a = b
  · exact .inr (.inl h)
  · have : a.x ≠ b.x ∨ a.y ≠ b.y := by
      by_cases hx : a.x = b.x
      · exact .inr fun hy => h (spot_ext hx hy)
      · exact .inl hx
    unfold befS; omega
theorem geF_refl (b : Spot) : geF f b b := .inr ⟨rfl, .inl rfl⟩
theorem geF_trans {a b c : Spot} (h : geF f a b) (k : geF f b c) : geF f a c := by
  rcases h with h | ⟨h, h2⟩ <;> rcases k with k | ⟨k, k2⟩
  · exact .inl (by omega)
  · exact .inl (by omega)
  · exact .inl (by omega)
  · refine .inr ⟨by omega, ?_⟩
    rcases h2 with rfl | h2
    · exact k2
    · rcases k2 with rfl | k2
      · exact .inr h2
      · exact .inr (befS_trans h2 k2)
theorem geF_anti {a b : Spot} (h : geF f a b) (k : geF f b a) : a = b := by
  rcases h with h | ⟨h, h2⟩ <;> rcases k with k | ⟨k, k2⟩
  · omega
  · omega
  · omega
  · rcases h2 with rfl | h2
    · rfl
    · rcases k2 with rfl | k2
      · rfl
      · unfold befS at h2 k2; omega
theorem nbF_yes {b x : Spot} (h : f b < f x ∨ f x = f b ∧ befS x b) : nbF f b x = x := if_pos h
theorem nbF_no {b x : Spot} (h : ¬ (f b < f x ∨ f x = f b ∧ befS x b)) : nbF f b x = b := if_neg h
theorem nbF_ge (b x : Spot) : (nbF f b x = b ∨ nbF f b x = x) ∧ geF f (nbF f b x) b ∧ geF f (nbF f b x) x := by
  by_cases h : f b < f x ∨ f x = f b ∧ befS x b
  · rw [nbF_yes h]
    refine ⟨.inr rfl, ?_, geF_refl x⟩
    rcases h with h | ⟨h, h2⟩
    · exact .inl h
    · exact .inr ⟨h.symm, .inr h2⟩
  · rw [nbF_no h]
    refine ⟨.inl rfl, geF_refl b, ?_⟩
    rcases befS_total b x with h2 | h2 | h2
    · by_cases e : f x = f b
      · exact .inr ⟨e, .inr h2⟩
      · exact .inl (by omega)
    · subst h2; exact geF_refl _
    · by_cases e : f x = f b
      · exact absurd (.inr ⟨e, h2⟩) h
      · exact .inl (by omega)
theorem foldl_nb : ∀ (l : List Spot) (a : Spot), (l.foldl (nbF f) a = a ∨ l.foldl (nbF f) a ∈ l) ∧ geF f (l.foldl (nbF f) a) a ∧ ∀ x ∈ l, geF f (l.foldl (nbF f) a) x := by
  intro l
  induction l with
  | nil => exact fun a => ⟨.inl rfl, geF_refl a, fun x hx => by cases hx⟩
  | cons y l ih =>
    intro a
    obtain ⟨h1, h2, h3⟩ := ih (nbF f a y)
    obtain ⟨k1, k2, k3⟩ := nbF_ge (f := f) a y
    rw [List.foldl_cons]
    refine ⟨?_, geF_trans h2 k2, fun x hx => ?_⟩
    · rcases h1 with h1 | h1
      · rw [h1]
        rcases k1 with k1 | k1
        · exact .inl k1
        · rw [k1]; exact .inr (by simp)
      · exact .inr (List.mem_cons_of_mem _ h1)
    · rcases List.mem_cons.mp hx with rfl | hx
      · exact geF_trans h2 k3
      · exact h3 x hx
theorem foldl_top : ∀ (l : List Spot), l.Pairwise befS → ∀ (p : Spot × Int), (l.foldl (topF f) p = p ∧ ∀ x ∈ l, f x ≤ p.2) ∨ ∃ b, b ∈ l ∧ l.foldl (topF f) p = (b, f b) ∧ p.2 < f b ∧ ∀ x ∈ l, geF f b x := by
  intro l
  induction l with
  | nil => exact fun _ p => .inl ⟨rfl, fun x hx => by cases hx⟩
  | cons y l ih =>
    intro hs p
    rw [List.pairwise_cons] at hs
    rw [List.foldl_cons]
    unfold topF
    split
    · rename_i h
      rcases ih hs.2 (y, f y) with ⟨k1, k2⟩ | ⟨b, k1, k2, k3, k4⟩
      · refine .inr ⟨y, by simp, k1, h, fun x hx => ?_⟩
        rcases List.mem_cons.mp hx with rfl | hx
        · exact geF_refl _
        · have h1 : f x ≤ f y := k2 x hx
          by_cases e : f x = f y
          · exact .inr ⟨e, .inr (hs.1 x hx)⟩
          · exact .inl (by omega)
      · refine .inr ⟨b, by simp [k1], k2, Int.lt_trans h k3, fun x hx => ?_⟩
        rcases List.mem_cons.mp hx with rfl | hx
        · exact .inl k3
        · exact k4 x hx
    · rename_i h
      rcases ih hs.2 p with ⟨k1, k2⟩ | ⟨b, k1, k2, k3, k4⟩
      · refine .inl ⟨k1, fun x hx => ?_⟩
        rcases List.mem_cons.mp hx with rfl | hx
        · omega
        · exact k2 x hx
      · refine .inr ⟨b, by simp [k1], k2, k3, fun x hx => ?_⟩
        rcases List.mem_cons.mp hx with rfl | hx
        · exact .inl (by omega)
        · exact k4 x hx
end
def farM (r : Room) (a : Spot) : Spot → Int := farOf (found r a)
def farB (r : Room) (a : Spot) : Spot := (freeL r).foldl (nbF (farM r a)) a
theorem farM_some {r : Room} {a s : Spot} {v : Int} (h : mget (found r a) s = some v) : farM r a s = v := by unfold farM farOf; rw [h]; rfl
theorem farM_none {r : Room} {a s : Spot} (h : mget (found r a) s = none) : farM r a s = -1 := by unfold farM farOf; rw [h]; rfl
theorem bfs_has (r : Room) (a : Spot) (i : Nat) : ∃ t, bfs r a i = (a, 0) :: t := by
  induction i with
  | zero => exact ⟨[], rfl⟩
  | succ i ih =>
    obtain ⟨t, ht⟩ := ih
    show ∃ t, visit r (bfs r a i) i = _
    unfold visit
    split
    · rename_i p hp
      obtain ⟨q, hq⟩ := fold_pre p.2 (beside r p.1) (bfs r a i)
      rw [hq, ht]; exact ⟨t ++ q, rfl⟩
    · exact ⟨t, ht⟩
theorem found_self (r : Room) (a : Spot) : mget (found r a) a = some 0 := by
  obtain ⟨t, ht⟩ := bfs_has r a 100
  rw [found_eq, ht, mget_cons, if_pos rfl]
theorem far_top {r : Room} {a : Spot} (ha : isFree r a) : (freeL r).foldl (topF (farM r a)) (⟨0, 0⟩, -1) = (farB r a, farM r a (farB r a)) := by
  have h0 : farM r a a = 0 := farM_some (found_self r a)
  obtain ⟨k1, k2, k3⟩ := foldl_nb (f := farM r a) (freeL r) a
  have hm : (freeL r).foldl (nbF (farM r a)) a ∈ freeL r := by
    rcases k1 with k1 | k1
    · rw [k1]; exact mem_freeL ha
    · exact k1
  rcases foldl_top (f := farM r a) (freeL r) (freeL_sorted r) (⟨0, 0⟩, -1) with ⟨_, h2⟩ | ⟨b, h1, h2, _, h4⟩
  · have := h2 a (mem_freeL ha)
    simp only at this; omega
  · rw [h2]
    have e : b = farB r a := geF_anti (h4 _ hm) (k3 b h1)
    rw [e]
def bestI (r : Room) (a : Spot) (i : Nat) : Spot := ((freeL r).take i).foldl (nbF (farM r a)) a
theorem best_met (r : Room) (a : Spot) (i : Nat) : ∃ v, mget (found r a) (bestI r a i) = some v := by
  obtain ⟨_, k2, _⟩ := foldl_nb (f := farM r a) ((freeL r).take i) a
  have h0 : farM r a a = 0 := farM_some (found_self r a)
  cases h : mget (found r a) (bestI r a i) with
  | some v => exact ⟨v, rfl⟩
  | none =>
    have h1 : farM r a (((freeL r).take i).foldl (nbF (farM r a)) a) = -1 := farM_none h
    rcases k2 with k2 | ⟨k2, _⟩ <;> omega
theorem best_yes {r : Room} {a x : Spot} {i : Nat} (hx : (freeL r)[i]? = some x) (h : farM r a (bestI r a i) < farM r a x ∨ farM r a x = farM r a (bestI r a i) ∧ befS x (bestI r a i)) : bestI r a (i + 1) = x := by
  unfold bestI; rw [← foldl_take hx]; exact nbF_yes h
theorem best_no {r : Room} {a x : Spot} {i : Nat} (hx : (freeL r)[i]? = some x) (h : ¬ (farM r a (bestI r a i) < farM r a x ∨ farM r a x = farM r a (bestI r a i) ∧ befS x (bestI r a i))) : bestI r a (i + 1) = bestI r a i := by
  unfold bestI; rw [← foldl_take hx]; exact nbF_no h
theorem best_end {r : Room} {a : Spot} {i : Nat} (h : (freeL r).length ≤ i) : bestI r a i = farB r a := by unfold bestI farB; rw [List.take_of_length_le h]
def topI (r : Room) (a : Spot) (i : Nat) : Spot × Int := ((freeL r).take i).foldl (topF (farM r a)) (⟨0, 0⟩, -1)
theorem top_yes {r : Room} {a x : Spot} {i : Nat} (hx : (freeL r)[i]? = some x) (h : (topI r a i).2 < farM r a x) : topI r a (i + 1) = (x, farM r a x) := by
  unfold topI; rw [← foldl_take hx]; exact if_pos h
theorem top_no {r : Room} {a x : Spot} {i : Nat} (hx : (freeL r)[i]? = some x) (h : ¬ (topI r a i).2 < farM r a x) : topI r a (i + 1) = topI r a i := by
  unfold topI; rw [← foldl_take hx]; exact if_neg h
theorem top_end {r : Room} {a : Spot} {i : Nat} (ha : isFree r a) (h : (freeL r).length ≤ i) : topI r a i = (farB r a, farM r a (farB r a)) := by unfold topI; rw [List.take_of_length_le h]; exact far_top ha
theorem farF_M (r : Room) (a : Spot) {s : Spot} (h : cell10 s) : farF (found r a) (ix s) = farM r a s := farF_ix _ h
theorem best_free {r : Room} {a : Spot} (ha : isFree r a) (i : Nat) : isFree r (bestI r a i) := by
  obtain ⟨v, hv⟩ := best_met r a i; exact found_free ha hv
theorem farB_free {r : Room} {a : Spot} (ha : isFree r a) : isFree r (farB r a) := by rw [← best_end (Nat.le_refl _)]; exact best_free ha _
def cmpS (a b : Spot) : Int := if a.y = b.y then a.x - b.x else a.y - b.y
theorem cmpS_lt {a b : Spot} : cmpS a b < 0 ↔ befS a b := by unfold cmpS befS; split <;> omega
end Go.AW
