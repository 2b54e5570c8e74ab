/- Ways: what is deleted, what is least, what is cleared. -/
import Derived.Test.YtmmmjdbknepjgaaDoorBfs9
import Derived.Test.YtmmmjdbknepjgaaDoorGd
namespace Go.AW
open Go
set_option linter.unusedVariables false
set_option linter.unusedSectionVars false
theorem first_no {p : Nat → Prop} {m : Nat} {r : Int} (h : firstAt p m r) (e : r = -1) : ∀ j, j < m → ¬ p j := by
  rcases h with ⟨_, h⟩ | ⟨k, _, h, _⟩
  · exact h
  · omega
theorem first_yes {p : Nat → Prop} {m : Nat} {r : Int} (h : firstAt p m r) (e : ¬ r = -1) : ∃ k : Nat, k < m ∧ r = k ∧ p k ∧ ∀ j, j < k → ¬ p j := by
  rcases h with ⟨h, _⟩ | h
  · exact absurd h e
  · exact h
/-! ### DeleteFunc -/
def keepL (p : Spot → Bool) (l : List Spot) : List Spot := l.filter fun s => !p s
abbrev z0S : Spot := ⟨0, 0⟩
def delL (p : Spot → Bool) (l : List Spot) : List Spot := keepL p l ++ List.replicate (l.length - (keepL p l).length) z0S
theorem keep_le (p : Spot → Bool) (l : List Spot) : (keepL p l).length ≤ l.length := List.length_filter_le _ _
theorem keep_take_yes {p : Spot → Bool} {l : List Spot} {j : Nat} {x : Spot} (hx : l[j]? = some x) (h : p x = false) : keepL p (l.take (j + 1)) = keepL p (l.take j) ++ [x] := ftake_yes hx (by rw [h]; rfl)
theorem keep_take_no {p : Spot → Bool} {l : List Spot} {j : Nat} {x : Spot} (hx : l[j]? = some x) (h : p x = true) : keepL p (l.take (j + 1)) = keepL p (l.take j) := ftake_no hx (by rw [h]; rfl)
theorem keep_none {p : Spot → Bool} {l : List Spot} (h : ∀ j : Nat, j < l.length → ¬ ∃ s, l[j]? = some s ∧ p s = true) : keepL p l = l := by
  refine List.filter_eq_self.mpr fun s hs => ?_
  obtain ⟨j, hj, e⟩ := List.getElem_of_mem hs
  cases hp : p s with
  | false => rfl
  | true => exact absurd ⟨s, by rw [List.getElem?_eq_getElem hj, e], hp⟩ (h j hj)
theorem keep_first {p : Spot → Bool} {l : List Spot} {i : Nat} (h : ∀ j : Nat, j < i → ¬ ∃ s, l[j]? = some s ∧ p s = true) : keepL p (l.take i) = l.take i := by
  refine keep_none fun j hj => ?_
  rw [List.length_take] at hj
  rintro ⟨s, hs, hp⟩
  rw [List.getElem?_take, if_pos (by omega)] at hs
  exact h j (by omega) ⟨s, hs, hp⟩
theorem del_none {p : Spot → Bool} {l : List Spot} (h : keepL p l = l) : delL p l = l := by unfold delL; rw [h]; simp
/-- Where a deleting loop stands. -/
structure Del (p : Spot → Bool) (l z : List Spot) (i j : Nat) : Prop where
  len : z.length = l.length
  lt : i < j
  le : j ≤ l.length
  head : z.take i = keepL p (l.take j)
  tail : z.drop j = l.drop j
theorem Del.start {p : Spot → Bool} {l : List Spot} {i : Nat} (hi : i < l.length) (h : ∀ j : Nat, j < i → ¬ ∃ s, l[j]? = some s ∧ p s = true) (hp : ∃ s, l[i]? = some s ∧ p s = true) : Del p l l i (i + 1) := by
  obtain ⟨s, hs, hp⟩ := hp
  exact ⟨rfl, by omega, by omega, by rw [keep_take_no hs hp, keep_first h], rfl⟩
theorem Del.get {p : Spot → Bool} {l z : List Spot} {i j : Nat} (h : Del p l z i j) {x : Spot} (hx : l[j]? = some x) : z[j]? = some x := by
  have := congrArg (fun m => m[0]?) h.tail
  simpa [List.getElem?_drop, hx] using this
theorem Del.skip {p : Spot → Bool} {l z : List Spot} {i j : Nat} (h : Del p l z i j) {x : Spot} (hx : l[j]? = some x) (hp : p x = true) : Del p l z i (j + 1) := by
  have := (List.getElem?_eq_some_iff.mp hx).1
  refine ⟨h.len, by have := h.lt; omega, by omega, by rw [keep_take_no hx hp]; exact h.head, ?_⟩
  have e := congrArg (List.drop 1) h.tail
  rw [List.drop_drop, List.drop_drop] at e
  exact e
theorem Del.keep {p : Spot → Bool} {l z : List Spot} {i j : Nat} (h : Del p l z i j) {x : Spot} (hx : l[j]? = some x) (hp : p x = false) : Del p l (z.set i x) (i + 1) (j + 1) := by
  have hj := (List.getElem?_eq_some_iff.mp hx).1
  have hlt := h.lt
  have hlen := h.len
  refine ⟨by simp [h.len], by omega, by omega, ?_, ?_⟩
  · rw [keep_take_yes hx hp, ← h.head, List.take_add_one, List.take_set, List.getElem?_set_self (by omega)]
    rw [List.set_eq_of_length_le (by rw [List.length_take]; omega)]; rfl
  · rw [List.drop_set_of_lt (by omega)]
    have e := congrArg (List.drop 1) h.tail
    rw [List.drop_drop, List.drop_drop] at e
    exact e
theorem Del.fin {p : Spot → Bool} {l z : List Spot} {i j : Nat} (h : Del p l z i j) (hj : l.length ≤ j) : i = (keepL p l).length ∧ i ≤ l.length ∧ writeL (fl spot z) (0 + i * 2) (fl spot (List.replicate (l.length - i) z0S)) = fl spot (delL p l) := by
  have hh := h.head
  have hle := h.le
  have hlt := h.lt
  rw [List.take_of_length_le hj] at hh
  have hi : i = (keepL p l).length := by
    have := congrArg List.length hh
    rw [List.length_take, h.len] at this; omega
  refine ⟨hi, by omega, ?_⟩
  rw [Nat.zero_add, writeL_eq _ _ _ (by rw [fl_len spot_len, fl_len spot_len, List.length_replicate, h.len]; omega), fl_take spot_len, hh, fl_len spot_len, List.length_replicate]
  rw [List.drop_eq_nil_of_le (by rw [fl_len spot_len, h.len]; omega), List.append_nil, ← fl_app]
  unfold delL
  rw [hi]
/-! ### the least -/
def minS (m s : Spot) : Spot := if befS s m then s else m
def headMin : List Spot → Spot → Spot
  | [], d => d
  | x :: l, _ => l.foldl minS x
theorem headMin_one {l : List Spot} {x d : Spot} (h : l[0]? = some x) : headMin (l.take 1) d = x := by
  cases l with
  | nil => simp at h
  | cons y l => simp at h; subst h; rfl
theorem headMin_step {l : List Spot} {i : Nat} {x d : Spot} (hi : 1 ≤ i) (h : l[i]? = some x) : headMin (l.take (i + 1)) d = minS (headMin (l.take i) d) x := by
  cases l with
  | nil => simp at h
  | cons y l =>
    obtain ⟨k, rfl⟩ : ∃ k, i = k + 1 := ⟨i - 1, by omega⟩
    have hx : l[k]? = some x := by simpa using h
    show (l.take (k + 1)).foldl minS y = minS ((l.take k).foldl minS y) x
    rw [foldl_take (f := minS) (b := y) hx]
theorem headMin_mem {l : List Spot} {d : Spot} (h : l ≠ []) : headMin l d ∈ l := by
  cases l with
  | nil => exact absurd rfl h
  | cons y l =>
    show l.foldl minS y ∈ y :: l
    have : ∀ (l : List Spot) (y : Spot), l.foldl minS y = y ∨ l.foldl minS y ∈ l := by
      intro l
      induction l with
      | nil => exact fun _ => .inl rfl
      | cons z l ih =>
        intro y
        rw [List.foldl_cons]
        rcases ih (minS y z) with e | e
        · rw [e]; unfold minS; split
          · exact .inr (by simp)
          · exact .inl rfl
        · exact .inr (by simp [e])
    rcases this l y with e | e
    · rw [e]; simp
    · simp [e]
theorem headMin_d {l : List Spot} (h : l ≠ []) (d e : Spot) : headMin l d = headMin l e := by
  cases l with
  | nil => exact absurd rfl h
  | cons y l => rfl
def stepW (c : Spot → Bool) (m s : Spot) : Spot := if c s = true ∧ (m.x < 0 ∨ befS s m) then s else m
theorem stepW_in {c : Spot → Bool} : ∀ (l : List Spot), (∀ s ∈ l, 0 ≤ s.x) → ∀ (m : Spot), 0 ≤ m.x → l.foldl (stepW c) m = (l.filter c).foldl minS m := by
  intro l
  induction l with
  | nil => exact fun _ _ _ => rfl
  | cons s l ih =>
    intro hl m hm
    rw [List.foldl_cons]
    have hs := hl s (by simp)
    have hl' : ∀ t ∈ l, 0 ≤ t.x := fun t ht => hl t (by simp [ht])
    by_cases hc : c s = true
    · rw [List.filter_cons_of_pos hc, List.foldl_cons]
      have e : stepW c m s = minS m s := by
        unfold stepW minS
        by_cases hb : befS s m
        · rw [if_pos ⟨hc, .inr hb⟩, if_pos hb]
        · rw [if_neg (fun e => by rcases e.2 with e | e; · omega
                                  · exact hb e), if_neg hb]
      rw [e, ih hl' _ (by unfold minS; split <;> assumption)]
    · rw [List.filter_cons_of_neg hc]
      have e : stepW c m s = m := if_neg fun e => hc e.1
      rw [e, ih hl' m hm]
theorem stepW_all {c : Spot → Bool} : ∀ (l : List Spot), (∀ s ∈ l, 0 ≤ s.x) → l.foldl (stepW c) ⟨-1, 0⟩ = headMin (l.filter c) ⟨-1, 0⟩ := by
  intro l
  induction l with
  | nil => exact fun _ => rfl
  | cons s l ih =>
    intro hl
    rw [List.foldl_cons]
    have hl' : ∀ t ∈ l, 0 ≤ t.x := fun t ht => hl t (by simp [ht])
    by_cases hc : c s = true
    · rw [List.filter_cons_of_pos hc]
      have e : stepW c ⟨-1, 0⟩ s = s := if_pos ⟨hc, .inl (by decide)⟩
      rw [e, stepW_in l hl' s (hl s (by simp))]; rfl
    · rw [List.filter_cons_of_neg hc]
      have e : stepW c ⟨-1, 0⟩ s = ⟨-1, 0⟩ := if_neg fun e => hc e.1
      rw [e, ih hl']
def bestW (c : Spot → Bool) (l : List Spot) (i : Nat) : Spot := (l.take i).foldl (stepW c) ⟨-1, 0⟩
theorem bestW_yes {c : Spot → Bool} {l : List Spot} {i : Nat} {x : Spot} (hx : l[i]? = some x) (h : c x = true ∧ ((bestW c l i).x < 0 ∨ befS x (bestW c l i))) : bestW c l (i + 1) = x := by
  unfold bestW; rw [← foldl_take hx]; exact if_pos h
theorem bestW_no {c : Spot → Bool} {l : List Spot} {i : Nat} {x : Spot} (hx : l[i]? = some x) (h : ¬ (c x = true ∧ ((bestW c l i).x < 0 ∨ befS x (bestW c l i)))) : bestW c l (i + 1) = bestW c l i := by
  unfold bestW; rw [← foldl_take hx]; exact if_neg h
theorem bestW_wf {c : Spot → Bool} {l : List Spot} (h : ∀ s ∈ l, wfSpot s) (i : Nat) : wfSpot (bestW c l i) := by
  have : ∀ (l : List Spot), (∀ s ∈ l, wfSpot s) → ∀ m, wfSpot m → wfSpot (l.foldl (stepW c) m) := by
    intro l
    induction l with
    | nil => exact fun _ m hm => hm
    | cons s l ih =>
      intro hl m hm
      rw [List.foldl_cons]
      refine ih (fun t ht => hl t (by simp [ht])) _ ?_
      unfold stepW; split
      · exact hl s (by simp)
      · exact hm
  exact this _ (fun s hs => h s (List.mem_of_mem_take hs)) _ ⟨⟨by decide, by decide⟩, by decide, by decide⟩
/-! ### ways -/
def candB (r : Room) (b a s : Spot) : Bool := decide (farM r b s = farM r b a - 1)
def nextW (r : Room) (b a : Spot) : Spot := headMin ((beside r a).filter (candB r b a)) ⟨-1, 0⟩
def posW (r : Room) (a b : Spot) : Nat → Spot
  | 0 => a
  | k + 1 => nextW r b (posW r a b k)
def wayN (r : Room) (a b : Spot) (k : Nat) : List Spot := (List.range (k + 1)).map (posW r a b)
theorem wayN_succ (r : Room) (a b : Spot) (k : Nat) : wayN r a b (k + 1) = wayN r a b k ++ [nextW r b (posW r a b k)] := by
  unfold wayN; rw [List.range_succ, List.map_append]; rfl
theorem wayN_len (r : Room) (a b : Spot) (k : Nat) : (wayN r a b k).length = k + 1 := by unfold wayN; rw [List.length_map, List.length_range]
theorem cand_ne {r : Room} {a b : Spot} {v : Int} (hb : isFree r b) (h : mget (found r b) a = some v) (hv : 0 < v) : (beside r a).filter (candB r b a) ≠ [] := by
  rcases found_par hb h with ⟨_, h0⟩ | ⟨p, hp, hs⟩
  · omega
  · intro e
    have hm : p ∈ (beside r a).filter (candB r b a) := List.mem_filter.mpr ⟨beside_symm (found_free hb hp) hs, decide_eq_true (by rw [farM_some hp, farM_some h])⟩
    rw [e] at hm; cases hm
theorem next_step {r : Room} {a b : Spot} {v : Int} (hb : isFree r b) (h : mget (found r b) a = some v) (hv : 0 < v) : mget (found r b) (nextW r b a) = some (v - 1) ∧ nextW r b a ∈ beside r a := by
  have hm := headMin_mem (d := ⟨-1, 0⟩) (cand_ne hb h hv)
  obtain ⟨h1, h2⟩ := List.mem_filter.mp hm
  obtain ⟨u, hu, _⟩ := found_clo hb h h1
  have e := of_decide_eq_true h2
  rw [farM_some hu, farM_some h] at e
  refine ⟨?_, h1⟩
  show mget (found r b) (headMin _ _) = _
  rw [hu, e]
theorem pos_at {r : Room} {a b : Spot} {v : Int} (hb : isFree r b) (h : mget (found r b) a = some v) : ∀ (k : Nat), (k : Int) ≤ v → mget (found r b) (posW r a b k) = some (v - k) := by
  intro k
  induction k with
  | zero => intro _; show mget (found r b) a = _; rw [h]; simp
  | succ k ih =>
    intro hk
    have := (next_step hb (ih (by omega)) (by omega)).1
    show mget (found r b) (nextW r b (posW r a b k)) = _
    rw [this]; congr 1; omega
theorem far_zero {r : Room} {b s : Spot} (hb : isFree r b) (h : mget (found r b) s = some 0) : s = b := by
  rcases found_par hb h with ⟨e, _⟩ | ⟨p, hp, _⟩
  · exact e
  · have := (found_pos hb hp).1; omega
theorem pos_end {r : Room} {a b : Spot} {v : Int} (hb : isFree r b) (h : mget (found r b) a = some v) {k : Nat} (hk : (k : Int) ≤ v) : posW r a b k = b ↔ (k : Int) = v := by
  have h1 := pos_at hb h k hk
  constructor
  · intro e
    rw [e, found_self] at h1
    have := Option.some.inj h1; omega
  · intro e
    rw [e] at h1
    exact far_zero hb (by rw [h1]; congr 1; omega)
theorem pos_lt {r : Room} {a b : Spot} {v : Int} (hb : isFree r b) (h : mget (found r b) a = some v) {k : Nat} (hk : (k : Int) ≤ v) (hne : ¬ (posW r a b k).x = b.x ∨ ¬ (posW r a b k).y = b.y) : (k : Int) < v := by
  have := pos_end hb h hk
  by_cases e : (k : Int) = v
  · have e2 := this.mpr e
    rw [e2] at hne
    exact (hne.elim (fun h => h rfl) (fun h => h rfl)).elim
  · omega
theorem pos_eq {r : Room} {a b : Spot} {v : Int} (hb : isFree r b) (h : mget (found r b) a = some v) {k : Nat} (hk : (k : Int) ≤ v) (he : (posW r a b k).x = b.x ∧ (posW r a b k).y = b.y) : k = v.toNat := by
  have := (pos_end hb h hk).mp (spot_ext he.1 he.2)
  omega
theorem headMin_wf {l : List Spot} {d : Spot} {i : Nat} (h : ∀ s ∈ l, wfSpot s) (h1 : 1 ≤ i) (h2 : 0 < l.length) : wfSpot (headMin (l.take i) d) := by
  refine h _ (List.mem_of_mem_take (i := i) (headMin_mem ?_))
  intro e
  have := congrArg List.length e
  rw [List.length_take, List.length_nil] at this; omega
theorem cand_val {r : Room} {a b s : Spot} {u v : Int} (hs : mget (found r b) s = some u) (ha : mget (found r b) a = some v) : (!candB r b a s) = (u != v - 1) := by
  unfold candB
  rw [farM_some hs, farM_some ha]
  cases h : decide (u = v - 1) with
  | true => have := of_decide_eq_true h; subst this; simp
  | false => have := of_decide_eq_false h; simp [this]
theorem keep_cand (c : Spot → Bool) (l : List Spot) : keepL (fun s => !c s) l = l.filter c := by
  unfold keepL; simp
theorem del_take (p : Spot → Bool) (l : List Spot) : ((delL p l).drop 0).take (keepL p l).length = keepL p l := by
  unfold delL; rw [List.drop_zero, List.take_left]
theorem bestW_end {r : Room} {b a : Spot} {i : Nat} (h : (beside r a).length ≤ i) : bestW (candB r b a) (beside r a) i = nextW r b a := by
  unfold bestW nextW
  rw [List.take_of_length_le h]
  exact stepW_all _ fun s hs => (cell10_of (beside_free 4 s hs)).1
theorem beside_wf {r : Room} {a : Spot} : ∀ s ∈ beside r a, wfSpot s := fun s hs => wf_of_free (beside_free 4 s hs)
theorem found_symm_no {r : Room} {a b : Spot} (hb : isFree r b) (h : mget (found r a) b = none) : mget (found r b) a = none := by
  cases e : mget (found r b) a with
  | none => rfl
  | some v => rw [found_symm hb e] at h; cases h
end Go.AW
