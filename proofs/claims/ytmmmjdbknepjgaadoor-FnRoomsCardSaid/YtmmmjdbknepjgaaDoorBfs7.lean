/- Cells near a cell. -/
import Derived.Test.YtmmmjdbknepjgaaDoorBfs4
namespace Go.AW
open Go
set_option linter.unusedVariables false
set_option linter.unusedSectionVars false
theorem mget_mem {α γ : Type} [DecidableEq α] {m : List (α × γ)} {k : α} {v : γ} (h : mget m k = some v) : (k, v) ∈ m := by
  unfold mget at h
  simp only [Option.map_eq_some_iff] at h
  obtain ⟨p, hf, hv⟩ := h
  have h1 := List.mem_of_find?_eq_some hf
  have h2 := List.find?_some hf
  simp at h2
  subst hv h2
  exact h1
theorem found_good {r : Room} {a : Spot} (ha : isFree r a) : Good r (found r a) := by rw [found_eq]; exact bfs_good ha 100
theorem found_free {r : Room} {a s : Spot} {v : Int} (ha : isFree r a) (h : mget (found r a) s = some v) : isFree r s := (found_good ha).free _ (mget_mem h)
def nearB (r : Room) (a : Spot) (k : Int) (s : Spot) : Bool := match mget (found r a) s with
  | some v => decide (v ≤ k)
  | none => false
def nearL (r : Room) (a : Spot) (k : Int) : List Spot := (allCells r).filter (nearB r a k)
theorem near_free {r : Room} {a s : Spot} {k : Int} (ha : isFree r a) (h : nearB r a k s = true) : freeB r s = true := by
  unfold nearB at h
  split at h
  · rename_i v hv; exact (freeB_iff r s).mpr (found_free ha hv)
  · cases h
theorem nearL_free {r : Room} {a : Spot} (k : Int) (ha : isFree r a) : (freeL r).filter (nearB r a k) = nearL r a k := by
  unfold freeL nearL
  rw [List.filter_filter]
  refine List.filter_congr fun s _ => ?_
  cases h : nearB r a k s with
  | false => rfl
  | true => rw [near_free ha h]; rfl
theorem near_far {r : Room} {a s : Spot} (k : Int) (ha : isFree r a) (hc : cell10 s) : (decide (0 ≤ farF (found r a) (ix s)) && decide (farF (found r a) (ix s) ≤ k)) = nearB r a k s := by
  rw [farF_ix _ hc]
  unfold farOf nearB
  cases h : mget (found r a) s with
  | none => rfl
  | some v =>
    have := (found_pos ha h).1
    show (decide (0 ≤ v) && decide (v ≤ k)) = decide (v ≤ k)
    rw [decide_eq_true this]; rfl
theorem near_val {r : Room} {a s : Spot} {k : Int} {v : Int} {ok : Bool} (h : (mget (found r a) s = none ∧ Value.int .i64 v = .int .i64 0 ∧ ok = false) ∨ ∃ v', mget (found r a) s = some v' ∧ Value.int .i64 v = ivV v' ∧ ok = true) :
    nearB r a k s = (ok && decide (v ≤ k)) := by
  unfold nearB
  rcases h with ⟨h, _, e⟩ | ⟨v', h, q, e⟩
  · rw [h, e]; rfl
  · cases q; rw [h, e]; rfl
theorem ftake_yes {α : Type} {l : List α} {p : α → Bool} {i : Nat} {x : α} (h : l[i]? = some x) (hp : p x = true) : (l.take (i + 1)).filter p = (l.take i).filter p ++ [x] := by
  rw [List.take_add_one, h, List.filter_append]; simp [hp]
theorem ftake_no {α : Type} {l : List α} {p : α → Bool} {i : Nat} {x : α} (h : l[i]? = some x) (hp : p x = false) : (l.take (i + 1)).filter p = (l.take i).filter p := by
  rw [List.take_add_one, h, List.filter_append]; simp [hp]
theorem ftake_len {α : Type} (l : List α) (p : α → Bool) (i : Nat) : ((l.take i).filter p).length ≤ l.length := Nat.le_trans (List.length_filter_le _ _) (by rw [List.length_take]; omega)
theorem free_at {r : Room} {i : Nat} {x : Spot} (h : (freeL r)[i]? = some x) : isFree r x := (freeB_iff r x).mp (List.mem_filter.mp (List.mem_of_getElem? h)).2
end Go.AW
/- The farthest cell. -/
namespace Go.AW
open Go
set_option linter.unusedVariables false
set_option linter.unusedSectionVars false
def befS (a b : Spot) : Prop := a.y < b.y ∨ a.y = b.y ∧ a.x < b.x
instance (a b : Spot) : Decidable (befS a b) := by unfold befS; infer_instance
theorem rowCells_sorted (y x : Nat) : (rowCells y x).Pairwise befS := by
  unfold rowCells
  refine List.Pairwise.map _ (R := fun a b : Nat => a < b) (fun a b h => .inr ⟨rfl, ?_⟩) List.pairwise_lt_range
  show (a : Int) < (b : Int); omega
theorem cellsTo_sorted (w : Nat) : ∀ (y x : Nat), (cellsTo w y x).Pairwise befS := by
  intro y
  induction y with
  | zero => exact fun x => rowCells_sorted 0 x
  | succ y ih =>
    intro x
    refine List.pairwise_append.mpr ⟨ih w, rowCells_sorted _ _, fun a ha b hb => .inl ?_⟩
    obtain ⟨c, d, e1, h1, _⟩ := mem_cellsTo ha
    obtain ⟨i, _, e2⟩ := List.mem_map.mp hb
    subst e1 e2
    show (d : Int) < ((y + 1 : Nat) : Int); omega
theorem freeL_sorted (r : Room) : (freeL r).Pairwise befS := (cellsTo_sorted _ _ _).filter _
theorem cellsTo_mem (w : Nat) : ∀ (y x : Nat) {a b : Nat}, (b = y ∧ a < x) ∨ (b < y ∧ a < w) → (⟨(a : Int), (b : Int)⟩ : Spot) ∈ cellsTo w y x := by
  intro y
  induction y with
  | zero =>
    intro x a b h
    have h1 : b = 0 ∧ a < x := by omega
    obtain ⟨rfl, h2⟩ := h1
    exact List.mem_map.mpr ⟨a, List.mem_range.mpr h2, rfl⟩
  | succ y ih =>
    intro x a b h
    refine List.mem_append.mpr ?_
    by_cases hb : b = y + 1
    · subst hb; exact .inr (List.mem_map.mpr ⟨a, List.mem_range.mpr (by omega), rfl⟩)
    · exact .inl (ih w (by omega))
theorem mem_allCells {r : Room} {s : Spot} (h : isCell r s) : s ∈ allCells r := by
  obtain ⟨h1, h2, h3, h4, h5, h6⟩ := h
  have := cellsTo_mem r.w.toNat r.h.toNat 0 (a := s.x.toNat) (b := s.y.toNat) (by omega)
  have e : (⟨((s.x.toNat : Nat) : Int), ((s.y.toNat : Nat) : Int)⟩ : Spot) = s := spot_ext (by show ((_ : Nat) : Int) = _; omega) (by show ((_ : Nat) : Int) = _; omega)
  rw [e] at this; exact this
theorem mem_freeL {r : Room} {s : Spot} (h : isFree r s) : s ∈ freeL r := List.mem_filter.mpr ⟨mem_allCells h.1, (freeB_iff r s).mpr h⟩
section
variable (f : Spot → Int)
/-- As good at least: farther, or as far and not behind. -/
def geF (b x : Spot) : Prop := f x < f b ∨ f x = f b ∧ (x = b ∨ befS b x)
def nbF (b x : Spot) : Spot := if f b < f x ∨ f x = f b ∧ befS x b then x else b
def topF (p : Spot × Int) (x : Spot) : Spot × Int := if p.2 < f x then (x, f x) else p
variable {f : Spot → Int}
theorem befS_trans {a b c : Spot} (h : befS a b) (k : befS b c) : befS a c := by unfold befS at *; omega
theorem befS_total (a b : Spot) : befS a b ∨ a = b ∨ befS b a := by
  by_cases h : a = b
  · exact .inr (.inl h)
  · have : a.x ≠ b.x ∨ a.y ≠ b.y := by
      by_cases hx : a.x = b.x
      · exact .inr fun hy => h (spot_ext hx hy)
      · exact .inl hx
    unfold befS; omega
theorem geF_refl (b : Spot) : geF f b b := .inr ⟨rfl, .inl rfl⟩
theorem geF_trans {a b c : Spot} (h : geF f a b) (k : geF f b c) : geF f a c := by
  rcases h with h | ⟨h, h2⟩ <;> rcases k with k | ⟨k, k2⟩
  · exact .inl (by omega)
  · exact .inl (by omega)
  · exact .inl (by omega)
  · refine .inr ⟨by omega, ?_⟩
    rcases h2 with rfl | h2
    · exact k2
    · rcases k2 with rfl | k2
      · exact .inr h2
      · exact .inr (befS_trans h2 k2)
theorem geF_anti {a b : Spot} (h : geF f a b) (k : geF f b a) : a = b := by
  rcases h with h | ⟨h, h2⟩ <;> rcases k with k | ⟨k, k2⟩
  · omega
  · omega
  · omega
  · rcases h2 with rfl | h2
    · rfl
    · rcases k2 with rfl | k2
      · rfl
      · unfold befS at h2 k2; omega
theorem nbF_yes {b x : Spot} (h : f b < f x ∨ f x = f b ∧ befS x b) : nbF f b x = x := if_pos h
theorem nbF_no {b x : Spot} (h : ¬ (f b < f x ∨ f x = f b ∧ befS x b)) : nbF f b x = b := if_neg h
theorem nbF_ge (b x : Spot) : (nbF f b x = b ∨ nbF f b x = x) ∧ geF f (nbF f b x) b ∧ geF f (nbF f b x) x := by
  by_cases h : f b < f x ∨ f x = f b ∧ befS x b
  · rw [nbF_yes h]
    refine ⟨.inr rfl, ?_, geF_refl x⟩
    rcases h with h | ⟨h, h2⟩
    · exact .inl h
    · exact .inr ⟨h.symm, .inr h2⟩
  · rw [nbF_no h]
    refine ⟨.inl rfl, geF_refl b, ?_⟩
    rcases befS_total b x with h2 | h2 | h2
    · by_cases e : f x = f b
      · exact .inr ⟨e, .inr h2⟩
      · exact .inl (by omega)
    · subst h2; exact geF_refl _
    · by_cases e : f x = f b
      · exact absurd (.inr ⟨e, h2⟩) h
      · exact .inl (by omega)
theorem foldl_nb : ∀ (l : List Spot) (a : Spot), (l.foldl (nbF f) a = a ∨ l.foldl (nbF f) a ∈ l) ∧ geF f (l.foldl (nbF f) a) a ∧ ∀ x ∈ l, geF f (l.foldl (nbF f) a) x := by
  intro l
  induction l with
  | nil => exact fun a => ⟨.inl rfl, geF_refl a, fun x hx => by cases hx⟩
  | cons y l ih =>
    intro a
    obtain ⟨h1, h2, h3⟩ := ih (nbF f a y)
    obtain ⟨k1, k2, k3⟩ := nbF_ge (f := f) a y
    rw [List.foldl_cons]
    refine ⟨?_, geF_trans h2 k2, fun x hx => ?_⟩
    · rcases h1 with h1 | h1
      · rw [h1]
        rcases k1 with k1 | k1
        · exact .inl k1
        · rw [k1]; exact .inr (by simp)
      · exact .inr (List.mem_cons_of_mem _ h1)
    · rcases List.mem_cons.mp hx with rfl | hx
      · exact geF_trans h2 k3
      · exact h3 x hx
theorem foldl_top : ∀ (l : List Spot), l.Pairwise befS → ∀ (p : Spot × Int), (l.foldl (topF f) p = p ∧ ∀ x ∈ l, f x ≤ p.2) ∨ ∃ b, b ∈ l ∧ l.foldl (topF f) p = (b, f b) ∧ p.2 < f b ∧ ∀ x ∈ l, geF f b x := by
  intro l
  induction l with
  | nil => exact fun _ p => .inl ⟨rfl, fun x hx => by cases hx⟩
  | cons y l ih =>
    intro hs p
    rw [List.pairwise_cons] at hs
    rw [List.foldl_cons]
    unfold topF
    split
    · rename_i h
      rcases ih hs.2 (y, f y) with ⟨k1, k2⟩ | ⟨b, k1, k2, k3, k4⟩
      · refine .inr ⟨y, by simp, k1, h, fun x hx => ?_⟩
        rcases List.mem_cons.mp hx with rfl | hx
        · exact geF_refl _
        · have h1 : f x ≤ f y := k2 x hx
          by_cases e : f x = f y
          · exact .inr ⟨e, .inr (hs.1 x hx)⟩
          · exact .inl (by omega)
      · refine .inr ⟨b, by simp [k1], k2, Int.lt_trans h k3, fun x hx => ?_⟩
        rcases List.mem_cons.mp hx with rfl | hx
        · exact .inl k3
        · exact k4 x hx
    · rename_i h
      rcases ih hs.2 p with ⟨k1, k2⟩ | ⟨b, k1, k2, k3, k4⟩
      · refine .inl ⟨k1, fun x hx => ?_⟩
        rcases List.mem_cons.mp hx with rfl | hx
        · omega
        · exact k2 x hx
      · refine .inr ⟨b, by simp [k1], k2, k3, fun x hx => ?_⟩
        rcases List.mem_cons.mp hx with rfl | hx
        · exact .inl (by omega)
        · exact k4 x hx
end
def farM (r : Room) (a : Spot) : Spot → Int := farOf (found r a)
def farB (r : Room) (a : Spot) : Spot := (freeL r).foldl (nbF (farM r a)) a
theorem farM_some {r : Room} {a s : Spot} {v : Int} (h : mget (found r a) s = some v) : farM r a s = v := by unfold farM farOf; rw [h]; rfl
theorem farM_none {r : Room} {a s : Spot} (h : mget (found r a) s = none) : farM r a s = -1 := by unfold farM farOf; rw [h]; rfl
theorem bfs_has (r : Room) (a : Spot) (i : Nat) : ∃ t, bfs r a i = (a, 0) :: t := by
  induction i with
  | zero => exact ⟨[], rfl⟩
  | succ i ih =>
    obtain ⟨t, ht⟩ := ih
    show ∃ t, visit r (bfs r a i) i = _
    unfold visit
    split
    · rename_i p hp
      obtain ⟨q, hq⟩ := fold_pre p.2 (beside r p.1) (bfs r a i)
      rw [hq, ht]; exact ⟨t ++ q, rfl⟩
    · exact ⟨t, ht⟩
theorem found_self (r : Room) (a : Spot) : mget (found r a) a = some 0 := by
  obtain ⟨t, ht⟩ := bfs_has r a 100
  rw [found_eq, ht, mget_cons, if_pos rfl]
theorem far_top {r : Room} {a : Spot} (ha : isFree r a) : (freeL r).foldl (topF (farM r a)) (⟨0, 0⟩, -1) = (farB r a, farM r a (farB r a)) := by
  have h0 : farM r a a = 0 := farM_some (found_self r a)
  obtain ⟨k1, k2, k3⟩ := foldl_nb (f := farM r a) (freeL r) a
  have hm : (freeL r).foldl (nbF (farM r a)) a ∈ freeL r := by
    rcases k1 with k1 | k1
    · rw [k1]; exact mem_freeL ha
    · exact k1
  rcases foldl_top (f := farM r a) (freeL r) (freeL_sorted r) (⟨0, 0⟩, -1) with ⟨_, h2⟩ | ⟨b, h1, h2, _, h4⟩
  · have := h2 a (mem_freeL ha)
    simp only at this; omega
  · rw [h2]
    have e : b = farB r a := geF_anti (h4 _ hm) (k3 b h1)
    rw [e]
def bestI (r : Room) (a : Spot) (i : Nat) : Spot := ((freeL r).take i).foldl (nbF (farM r a)) a
theorem best_met (r : Room) (a : Spot) (i : Nat) : ∃ v, mget (found r a) (bestI r a i) = some v := by
  obtain ⟨_, k2, _⟩ := foldl_nb (f := farM r a) ((freeL r).take i) a
  have h0 : farM r a a = 0 := farM_some (found_self r a)
  cases h : mget (found r a) (bestI r a i) with
  | some v => exact ⟨v, rfl⟩
  | none =>
    have h1 : farM r a (((freeL r).take i).foldl (nbF (farM r a)) a) = -1 := farM_none h
    rcases k2 with k2 | ⟨k2, _⟩ <;> omega
theorem best_yes {r : Room} {a x : Spot} {i : Nat} (hx : (freeL r)[i]? = some x) (h : farM r a (bestI r a i) < farM r a x ∨ farM r a x = farM r a (bestI r a i) ∧ befS x (bestI r a i)) : bestI r a (i + 1) = x := by
  unfold bestI; rw [← foldl_take hx]; exact nbF_yes h
theorem best_no {r : Room} {a x : Spot} {i : Nat} (hx : (freeL r)[i]? = some x) (h : ¬ (farM r a (bestI r a i) < farM r a x ∨ farM r a x = farM r a (bestI r a i) ∧ befS x (bestI r a i))) : bestI r a (i + 1) = bestI r a i := by
  unfold bestI; rw [← foldl_take hx]; exact nbF_no h
theorem best_end {r : Room} {a : Spot} {i : Nat} (h : (freeL r).length ≤ i) : bestI r a i = farB r a := by unfold bestI farB; rw [List.take_of_length_le h]
def topI (r : Room) (a : Spot) (i : Nat) : Spot × Int := ((freeL r).take i).foldl (topF (farM r a)) (⟨0, 0⟩, -1)
theorem top_yes {r : Room} {a x : Spot} {i : Nat} (hx : (freeL r)[i]? = some x) (h : (topI r a i).2 < farM r a x) : topI r a (i + 1) = (x, farM r a x) := by
  unfold topI; rw [← foldl_take hx]; exact if_pos h
theorem top_no {r : Room} {a x : Spot} {i : Nat} (hx : (freeL r)[i]? = some x) (h : ¬ (topI r a i).2 < farM r a x) : topI r a (i + 1) = topI r a i := by
  unfold topI; rw [← foldl_take hx]; exact if_neg h
theorem top_end {r : Room} {a : Spot} {i : Nat} (ha : isFree r a) (h : (freeL r).length ≤ i) : topI r a i = (farB r a, farM r a (farB r a)) := by unfold topI; rw [List.take_of_length_le h]; exact far_top ha
theorem farF_M (r : Room) (a : Spot) {s : Spot} (h : cell10 s) : farF (found r a) (ix s) = farM r a s := farF_ix _ h
theorem best_free {r : Room} {a : Spot} (ha : isFree r a) (i : Nat) : isFree r (bestI r a i) := by
  obtain ⟨v, hv⟩ := best_met r a i; exact found_free ha hv
theorem farB_free {r : Room} {a : Spot} (ha : isFree r a) : isFree r (farB r a) := by rw [← best_end (Nat.le_refl _)]; exact best_free ha _
def cmpS (a b : Spot) : Int := if a.y = b.y then a.x - b.x else a.y - b.y
theorem cmpS_lt {a b : Spot} : cmpS a b < 0 ↔ befS a b := by unfold cmpS befS; split <;> omega
end Go.AW
/- What a search finds: the shortest ways. -/
namespace Go.AW
open Go
set_option linter.unusedVariables false
set_option linter.unusedSectionVars false
theorem mem_besideTo {r : Room} {s t : Spot} : ∀ {n : Nat}, t ∈ besideTo r s n ↔ ∃ i : Nat, i < n ∧ t = nextSpot s i ∧ isFree r t := by
  intro n
  induction n with
  | zero => exact ⟨fun h => (by cases h), fun ⟨i, h, _⟩ => absurd h (Nat.not_lt_zero i)⟩
  | succ n ih =>
    cases hb : freeB r (nextSpot s n) with
    | true =>
      rw [beside_yes hb, List.mem_append, ih, List.mem_singleton]
      constructor
      · rintro (⟨i, h1, h2⟩ | rfl)
        · exact ⟨i, by omega, h2⟩
        · exact ⟨n, by omega, rfl, (freeB_iff _ _).mp hb⟩
      · rintro ⟨i, h1, h2, h3⟩
        by_cases e : i = n
        · subst e; exact .inr h2
        · exact .inl ⟨i, by omega, h2, h3⟩
    | false =>
      rw [beside_no hb, ih]
      constructor
      · rintro ⟨i, h1, h2⟩; exact ⟨i, by omega, h2⟩
      · rintro ⟨i, h1, h2, h3⟩
        by_cases e : i = n
        · subst e; rw [← h2] at hb; rw [(freeB_iff _ _).mpr h3] at hb; cases hb
        · exact ⟨i, by omega, h2, h3⟩
theorem mem_beside {r : Room} {s t : Spot} : t ∈ beside r s ↔ ∃ i : Nat, i < 4 ∧ t = nextSpot s i ∧ isFree r t := mem_besideTo
theorem next_in {s : Spot} (h : cell10 s) : nextSpot s (0 : Nat) = ⟨s.x, s.y - 1⟩ ∧ nextSpot s (1 : Nat) = ⟨s.x + 1, s.y⟩ ∧ nextSpot s (2 : Nat) = ⟨s.x, s.y + 1⟩ ∧ nextSpot s (3 : Nat) = ⟨s.x - 1, s.y⟩ := by
  obtain ⟨h1, h2, h3, h4⟩ := h
  unfold nextSpot
  simp only [Int.cast_ofNat_Int]
  refine ⟨?_, ?_, ?_, ?_⟩
  · simp [nw8 (n := s.y - 1) (by omega) (by omega)]
  · simp [nw8 (n := s.x + 1) (by omega) (by omega)]
  · simp [nw8 (n := s.y + 1) (by omega) (by omega)]
  · simp [nw8 (n := s.x - 1) (by omega) (by omega)]
theorem beside_symm {r : Room} {s t : Spot} (hs : isFree r s) (h : t ∈ beside r s) : s ∈ beside r t := by
  obtain ⟨i, hi, ht, hf⟩ := mem_beside.mp h
  have hc := cell10_of hs
  have hd := cell10_of hf
  obtain ⟨a0, a1, a2, a3⟩ := next_in hc
  obtain ⟨b0, b1, b2, b3⟩ := next_in hd
  refine mem_beside.mpr ?_
  match i, hi with
  | 0, _ => exact ⟨2, by omega, by rw [b2, ht, a0]; exact spot_ext rfl (by simp), hs⟩
  | 1, _ => exact ⟨3, by omega, by rw [b3, ht, a1]; exact spot_ext (by simp) rfl, hs⟩
  | 2, _ => exact ⟨0, by omega, by rw [b0, ht, a2]; exact spot_ext rfl (by simp), hs⟩
  | 3, _ => exact ⟨1, by omega, by rw [b1, ht, a3]; exact spot_ext (by simp) rfl, hs⟩
theorem fold_put (n : Int) : ∀ (l : List Spot) (m : Met), ∃ e, l.foldl (put1 n) m = m ++ e ∧ (∀ q ∈ e, q.2 = n + 1 ∧ q.1 ∈ l) ∧ ∀ t ∈ l, (∃ v, mget m t = some v ∧ mget (m ++ e) t = some v) ∨ mget (m ++ e) t = some (n + 1) := by
  intro l
  induction l with
  | nil => exact fun m => ⟨[], (List.append_nil _).symm, fun q hq => (by cases hq), fun t ht => (by cases ht)⟩
  | cons s l ih =>
    intro m
    rw [List.foldl_cons]
    cases hg : mget m s with
    | some v =>
      rw [ins_met hg]
      obtain ⟨e, h1, h2, h3⟩ := ih m
      refine ⟨e, h1, fun q hq => ⟨(h2 q hq).1, List.mem_cons_of_mem _ (h2 q hq).2⟩, fun t ht => ?_⟩
      rcases List.mem_cons.mp ht with rfl | ht
      · exact .inl ⟨v, hg, by rw [mget_app, hg]; rfl⟩
      · exact h3 t ht
    | none =>
      rw [ins_new hg]
      obtain ⟨e, h1, h2, h3⟩ := ih (m ++ [(s, n + 1)])
      refine ⟨[(s, n + 1)] ++ e, by rw [h1, List.append_assoc], fun q hq => ?_, fun t ht => ?_⟩
      · rcases List.mem_append.mp hq with hq | hq
        · rw [List.mem_singleton.mp hq]; exact ⟨rfl, by simp⟩
        · exact ⟨(h2 q hq).1, List.mem_cons_of_mem _ (h2 q hq).2⟩
      · rw [← List.append_assoc]
        by_cases hts : t = s
        · subst hts
          refine .inr ?_
          rw [mget_app, mget_app, hg, mget_cons, if_pos rfl]; rfl
        · rcases List.mem_cons.mp ht with rfl | ht
          · exact absurd rfl hts
          · rcases h3 t ht with ⟨v, k1, k2⟩ | k
            · rw [mget_app, mget_cons, if_neg hts, mget_nil] at k1
              refine .inl ⟨v, ?_, k2⟩
              cases hm : mget m t with
              | some u => rw [hm] at k1; exact k1
              | none => rw [hm] at k1; cases k1
            · exact .inr k
/-- Where a search stands. -/
structure Front (r : Room) (a : Spot) (m : Met) (i : Nat) : Prop where
  par : ∀ q ∈ m, q = (a, 0) ∨ ∃ p, (p, q.2 - 1) ∈ m ∧ q.1 ∈ beside r p
  clo : ∀ (k : Nat) p, k < i → m[k]? = some p → ∀ t ∈ beside r p.1, ∃ v, mget m t = some v ∧ v ≤ p.2 + 1
  mono : m.Pairwise fun p q => p.2 ≤ q.2
  wide : ∀ p, m[i]? = some p → ∀ q ∈ m, q.2 ≤ p.2 + 1
theorem bfs_front (r : Room) (a : Spot) (ha : isFree r a) (i : Nat) : Front r a (bfs r a i) i := by
  induction i with
  | zero =>
    refine ⟨fun q hq => .inl (List.mem_singleton.mp hq), fun k p hk => absurd hk (Nat.not_lt_zero k), List.pairwise_singleton _ _, fun p hp q hq => ?_⟩
    have e : (a, (0 : Int)) = p := by simpa [bfs] using hp
    subst e
    rw [List.mem_singleton.mp hq]; simp
  | succ i ih =>
    show Front r a (visit r (bfs r a i) i) (i + 1)
    have hgd := bfs_good ha i
    generalize bfs r a i = m at ih hgd
    unfold visit
    cases hp : m[i]? with
    | none =>
      refine ⟨ih.par, fun k p hk hkp => ?_, ih.mono, fun p hp2 => ?_⟩
      · by_cases e : k = i
        · subst e; rw [hp] at hkp; cases hkp
        · exact ih.clo k p (by omega) hkp
      · have hp := List.getElem?_eq_none_iff.mp hp
        have hp3 : m[i + 1]? = some p := hp2
        have := (List.getElem?_eq_some_iff.mp hp3).1
        omega
    | some p =>
      show Front r a ((beside r p.1).foldl (put1 p.2) m) (i + 1)
      obtain ⟨e, h1, h2, h3⟩ := fold_put p.2 (beside r p.1) m
      rw [h1]
      have hpm : p ∈ m := List.mem_of_getElem? hp
      have hil := (List.getElem?_eq_some_iff.mp hp).1
      have hw := ih.wide p hp
      have hext : ∀ {t v}, mget m t = some v → mget (m ++ e) t = some v := fun {t v} h => by rw [mget_app, h]; rfl
      refine ⟨fun q hq => ?_, fun k q hk hkq => ?_, ?_, fun q hq z hz => ?_⟩
      · rcases List.mem_append.mp hq with hq | hq
        · rcases ih.par q hq with h | ⟨b, hb, hbs⟩
          · exact .inl h
          · exact .inr ⟨b, List.mem_append_left _ hb, hbs⟩
        · obtain ⟨e1, e2⟩ := h2 q hq
          exact .inr ⟨p.1, List.mem_append_left _ (by rw [e1]; rw [show p.2 + 1 - 1 = p.2 by omega]; exact hpm), e2⟩
      · rw [List.getElem?_append_left (by omega)] at hkq
        intro t ht
        by_cases ek : k = i
        · subst ek
          rw [hp] at hkq; cases hkq
          rcases h3 t ht with ⟨v, k1, k2⟩ | k1
          · exact ⟨v, k2, hw (t, v) (mget_mem k1)⟩
          · exact ⟨_, k1, Int.le_refl _⟩
        · obtain ⟨v, k1, k2⟩ := ih.clo k q (by omega) hkq t ht
          exact ⟨v, hext k1, k2⟩
      · refine List.pairwise_append.mpr ⟨ih.mono, ?_, fun x hx y hy => ?_⟩
        · refine List.pairwise_of_forall_mem_list fun x hx y hy => ?_
          rw [(h2 x hx).1, (h2 y hy).1]; exact Int.le_refl _
        · rw [(h2 y hy).1]; exact hw x hx
      · have hz2 : z.2 ≤ p.2 + 1 := by
          rcases List.mem_append.mp hz with hz | hz
          · exact hw z hz
          · rw [(h2 z hz).1]; exact Int.le_refl _
        have hq2 : p.2 ≤ q.2 := by
          rw [List.getElem?_append] at hq
          split at hq
          · rename_i hlt
            have hm := List.pairwise_iff_getElem.mp ih.mono i (i + 1) hil hlt (by omega)
            rw [List.getElem?_eq_getElem hlt] at hq
            rw [List.getElem?_eq_getElem hil] at hp
            cases hq; cases hp; exact hm
          · have := (h2 q (List.mem_of_getElem? hq)).1
            omega
        omega
/-- A way over free cells, of n steps. -/
inductive Path (r : Room) (a : Spot) : Spot → Nat → Prop where
  | here : Path r a a 0
  | step {s t : Spot} {n : Nat} (h : Path r a s n) (k : t ∈ beside r s) : Path r a t (n + 1)
theorem Path.free {r : Room} {a s : Spot} {n : Nat} (ha : isFree r a) (h : Path r a s n) : isFree r s := by
  cases h with
  | here => exact ha
  | step _ k => exact (mem_beside.mp k).choose_spec.2.2
theorem Path.trans {r : Room} {a b c : Spot} {n m : Nat} (h : Path r a b n) (k : Path r b c m) : Path r a c (n + m) := by
  induction k with
  | here => exact h
  | step _ k ih => exact .step ih k
theorem Path.symm {r : Room} {a b : Spot} {n : Nat} (ha : isFree r a) (h : Path r a b n) : Path r b a n := by
  induction h with
  | here => exact .here
  | step h k ih =>
    have := Path.trans (Path.step .here (beside_symm (h.free ha) k)) ih
    rwa [Nat.add_comm] at this
theorem found_len {r : Room} {a : Spot} (ha : isFree r a) : (found r a).length ≤ 100 := (found_good ha).len
theorem found_clo {r : Room} {a s : Spot} {v : Int} (ha : isFree r a) (h : mget (found r a) s = some v) {t : Spot} (ht : t ∈ beside r s) : ∃ u, mget (found r a) t = some u ∧ u ≤ v + 1 := by
  have hf := bfs_front r a ha 100
  have hl := found_len ha
  rw [← found_eq] at hf
  obtain ⟨k, hk, e⟩ := List.getElem_of_mem (mget_mem h)
  have hk2 : (found r a)[k]? = some (s, v) := by rw [List.getElem?_eq_getElem hk, e]
  exact hf.clo k (s, v) (by omega) hk2 t ht
theorem mget_of_mem {r : Room} {m : Met} (hg : Good r m) {s : Spot} {v : Int} (h : (s, v) ∈ m) : mget m s = some v := by
  obtain ⟨k, hk, e⟩ := List.getElem_of_mem h
  exact mget_dist hg.dist (i := k) (p := (s, v)) (by rw [List.getElem?_eq_getElem hk, e])
theorem found_par {r : Room} {a s : Spot} {v : Int} (ha : isFree r a) (h : mget (found r a) s = some v) : (s = a ∧ v = 0) ∨ ∃ p, mget (found r a) p = some (v - 1) ∧ s ∈ beside r p := by
  have hf := bfs_front r a ha 100
  rw [← found_eq] at hf
  rcases hf.par _ (mget_mem h) with e | ⟨p, hp, hb⟩
  · cases e; exact .inl ⟨rfl, rfl⟩
  · exact .inr ⟨p, mget_of_mem (found_good ha) hp, hb⟩
theorem found_path {r : Room} {a : Spot} (ha : isFree r a) : ∀ (n : Nat) {s : Spot} {v : Int}, mget (found r a) s = some v → v.toNat = n → Path r a s n := by
  intro n
  induction n with
  | zero =>
    intro s v h e
    have h0 := (found_pos ha h).1
    rcases found_par ha h with ⟨rfl, _⟩ | ⟨p, hp, hb⟩
    · exact .here
    · have := (found_pos ha hp).1; omega
  | succ n ih =>
    intro s v h e
    rcases found_par ha h with ⟨_, h0⟩ | ⟨p, hp, hb⟩
    · omega
    · exact .step (ih hp (by omega)) hb
theorem path_found {r : Room} {a s : Spot} {n : Nat} (ha : isFree r a) (h : Path r a s n) : ∃ v, mget (found r a) s = some v ∧ v ≤ n := by
  induction h with
  | here => exact ⟨0, found_self r a, by simp⟩
  | step _ k ih =>
    obtain ⟨v, hv, hle⟩ := ih
    obtain ⟨u, hu, hle2⟩ := found_clo ha hv k
    exact ⟨u, hu, by omega⟩
/-- There and back it is as far. -/
theorem found_symm {r : Room} {a b : Spot} {v : Int} (ha : isFree r a) (h : mget (found r a) b = some v) : mget (found r b) a = some v := by
  have hb := found_free ha h
  have h0 := (found_pos ha h).1
  have p1 := (found_path ha v.toNat h rfl).symm ha
  obtain ⟨u, hu, hle⟩ := path_found hb p1
  have u0 := (found_pos hb hu).1
  have p2 := (found_path hb u.toNat hu rfl).symm hb
  obtain ⟨w, hw, hle2⟩ := path_found ha p2
  rw [h] at hw; cases hw
  rw [hu]; congr 1; omega
def reach (r : Room) (a s : Spot) : Prop := ∃ v, mget (found r a) s = some v
theorem reach_symm {r : Room} {a b : Spot} (ha : isFree r a) (h : reach r a b) : reach r b a := by
  obtain ⟨v, hv⟩ := h; exact ⟨v, found_symm ha hv⟩
theorem reach_trans {r : Room} {a b c : Spot} (ha : isFree r a) (h : reach r a b) (k : reach r b c) : reach r a c := by
  obtain ⟨v, hv⟩ := h
  obtain ⟨u, hu⟩ := k
  obtain ⟨w, hw, _⟩ := path_found ha ((found_path ha _ hv rfl).trans (found_path (found_free ha hv) _ hu rfl))
  exact ⟨w, hw⟩
theorem near_all {r : Room} {a s : Spot} (ha : isFree r a) : nearB r a 100 s = true ↔ reach r a s := by
  unfold nearB reach
  constructor
  · intro h
    split at h
    · rename_i v hv; exact ⟨v, hv⟩
    · cases h
  · rintro ⟨v, hv⟩
    rw [hv]
    exact decide_eq_true (found_pos ha hv).2
theorem mem_near {r : Room} {a s : Spot} (ha : isFree r a) : s ∈ nearL r a 100 ↔ reach r a s := by
  unfold nearL
  rw [List.mem_filter, near_all ha]
  refine ⟨fun h => h.2, fun h => ⟨?_, h⟩⟩
  obtain ⟨v, hv⟩ := h
  exact mem_allCells (found_free ha hv).1
end Go.AW
