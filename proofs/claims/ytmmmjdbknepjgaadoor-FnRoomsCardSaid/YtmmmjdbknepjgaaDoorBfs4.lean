/- Steps from a cell to all cells, as a search finds them. -/
import Derived.Test.YtmmmjdbknepjgaaDoorGb
import Derived.Test.YtmmmjdbknepjgaaDoorGd
namespace Go.AW
open Go
set_option linter.unusedVariables false
set_option linter.unusedSectionVars false
set_option linter.unusedSimpArgs false

abbrev Met := List (Spot × Int)
def put1 (n : Int) (m : Met) (s : Spot) : Met := if (mget m s).isSome = true then m else m ++ [(s, n + 1)]
def visit (r : Room) (m : Met) (i : Nat) : Met := match m[i]? with
  | some p => (beside r p.1).foldl (put1 p.2) m
  | none => m
def bfs (r : Room) (a : Spot) : Nat → Met
  | 0 => [(a, 0)]
  | i + 1 => visit r (bfs r a i) i
theorem ins_met {n : Int} {m : Met} {s : Spot} {v : Int} (h : mget m s = some v) : put1 n m s = m := by unfold put1; rw [if_pos (by rw [h]; rfl)]
theorem ins_new {n : Int} {m : Met} {s : Spot} (h : mget m s = none) : put1 n m s = m ++ [(s, n + 1)] := by unfold put1; rw [if_neg (by rw [h]; simp)]
theorem foldl_take {α β : Type} {f : β → α → β} {b : β} {l : List α} {k : Nat} {x : α} (h : l[k]? = some x) : f ((l.take k).foldl f b) x = (l.take (k + 1)).foldl f b := by
  rw [List.take_add_one, h, List.foldl_append]; rfl

/-- All cells met are free, each stands once, their steps are not below 0. -/
structure Good (r : Room) (m : Met) : Prop where
  free : ∀ p ∈ m, isFree r p.1
  dist : m.Pairwise fun p q => p.1 ≠ q.1
  pos : ∀ p ∈ m, 0 ≤ p.2 ∧ p.2 ≤ (m.length : Int)
theorem good_put1 {r : Room} {m : Met} (h : Good r m) {n : Int} {s : Spot} (hn : 0 ≤ n ∧ n ≤ m.length) (hs : isFree r s) : Good r (put1 n m s) := by
  cases hg : mget m s with
  | some v => rw [ins_met hg]; exact h
  | none =>
    rw [ins_new hg]
    have hno := mget_none hg
    refine ⟨fun p hp => ?_, ?_, fun p hp => ?_⟩
    · rcases List.mem_append.mp hp with hp | hp
      · exact h.free p hp
      · rw [List.mem_singleton.mp hp]; exact hs
    · refine List.pairwise_append.mpr ⟨h.dist, List.pairwise_singleton _ _, fun p hp q hq => ?_⟩
      rw [List.mem_singleton.mp hq]; exact hno p hp
    · rw [List.length_append]
      rcases List.mem_append.mp hp with hp | hp
      · have := h.pos p hp; simp only [List.length_cons, List.length_nil]; omega
      · rw [List.mem_singleton.mp hp]; simp only [List.length_cons, List.length_nil]; omega
theorem ins_len (n : Int) (m : Met) (s : Spot) : m.length ≤ (put1 n m s).length := by
  unfold put1; split <;> simp
theorem Good.insAll {r : Room} : ∀ (l : List Spot) {m : Met} {n : Int}, Good r m → (0 ≤ n ∧ n ≤ m.length) → (∀ s ∈ l, isFree r s) → Good r (l.foldl (put1 n) m) ∧ m.length ≤ (l.foldl (put1 n) m).length := by
  intro l
  induction l with
  | nil => exact fun h _ _ => ⟨h, Nat.le_refl _⟩
  | cons s l ih =>
    intro m n h hn hl
    have h1 := good_put1 h hn (hl s (by simp))
    have h2 := ins_len n m s
    obtain ⟨g1, g2⟩ := ih (n := n) h1 (by omega) fun t ht => hl t (by simp [ht])
    exact ⟨g1, Nat.le_trans h2 g2⟩
theorem beside_free {r : Room} {s : Spot} : ∀ (i : Nat), ∀ t ∈ besideTo r s i, isFree r t := by
  intro i
  induction i with
  | zero => intro t ht; cases ht
  | succ i ih =>
    intro t ht
    rcases List.mem_append.mp ht with ht | ht
    · exact ih t ht
    · split at ht
      · rename_i h; rw [List.mem_singleton.mp ht]; exact (freeB_iff _ _).mp h
      · cases ht
theorem bfs_good {r : Room} {a : Spot} (ha : isFree r a) (i : Nat) : Good r (bfs r a i) := by
  induction i with
  | zero => exact ⟨fun p hp => by rw [List.mem_singleton.mp hp]; exact ha, List.pairwise_singleton _ _, fun p hp => by rw [List.mem_singleton.mp hp]; simp [bfs]⟩
  | succ i ih =>
    show Good r (visit r (bfs r a i) i)
    unfold visit
    split
    · rename_i p hp
      exact (Good.insAll _ ih (ih.pos p (List.mem_of_getElem? hp)) (beside_free 4)).1
    · exact ih

theorem nodup_drop {l : List Nat} (hn : l.Nodup) (a : Nat) : l.length ≤ (l.filter fun x => decide (x ≠ a)).length + 1 := by
  induction l with
  | nil => simp
  | cons x l ih =>
    rw [List.nodup_cons] at hn
    by_cases h : x = a
    · subst h
      rw [List.filter_cons_of_neg (by simp)]
      have : (l.filter fun y => decide (y ≠ x)) = l := List.filter_eq_self.mpr fun y hy => by
        have : y ≠ x := fun e => hn.1 (e ▸ hy)
        simpa using this
      rw [this]; simp
    · rw [List.filter_cons_of_pos (by simpa using h)]
      have := ih hn.2
      simp only [List.length_cons]; omega
theorem nodup_bound : ∀ (n : Nat) (l : List Nat), l.Nodup → (∀ x ∈ l, x < n) → l.length ≤ n := by
  intro n
  induction n with
  | zero => intro l _ h; cases l with | nil => exact Nat.le_refl _ | cons x l => exact absurd (h x (by simp)) (by omega)
  | succ n ih =>
    intro l hn h
    have h1 := nodup_drop hn n
    have h2 := ih (l.filter fun x => decide (x ≠ n)) (hn.filter _) fun x hx => by
      obtain ⟨hx1, hx2⟩ := List.mem_filter.mp hx
      have := h x hx1
      have : x ≠ n := by simpa using hx2
      omega
    omega
/-- There are at most 100 cells. -/
theorem Good.len {r : Room} {m : Met} (h : Good r m) : m.length ≤ 100 := by
  have := nodup_bound 100 (m.map fun p => p.1.y.toNat * 10 + p.1.x.toNat) ?_ ?_
  · simpa using this
  · refine List.Pairwise.map _ (R := fun p q => p ∈ m ∧ q ∈ m ∧ p.1 ≠ q.1) ?_ ?_
    · rintro p q ⟨hp, hq, hne⟩ e
      obtain ⟨⟨a1, a2, a3, a4, a5, a6⟩, _⟩ := h.free p hp
      obtain ⟨⟨b1, b2, b3, b4, b5, b6⟩, _⟩ := h.free q hq
      exact hne (spot_ext (by omega) (by omega))
    · exact List.Pairwise.imp_of_mem (fun hp hq hne => ⟨hp, hq, hne⟩) h.dist
  · intro x hx
    obtain ⟨p, hp, rfl⟩ := List.mem_map.mp hx
    obtain ⟨⟨a1, a2, a3, a4, a5, a6⟩, _⟩ := h.free p hp
    omega
/-- Behind its end a search stands still. -/
theorem bfs_still {r : Room} {a : Spot} {i : Nat} (h : (bfs r a i).length ≤ i) : ∀ k, bfs r a (i + k) = bfs r a i := by
  intro k
  induction k with
  | zero => rfl
  | succ k ih =>
    show visit r (bfs r a (i + k)) (i + k) = _
    rw [ih]
    unfold visit
    rw [List.getElem?_eq_none (by omega)]
@[irreducible] def found (r : Room) (a : Spot) : Met := bfs r a 100
theorem found_eq (r : Room) (a : Spot) : found r a = bfs r a 100 := by unfold found; rfl
theorem bfs_found {r : Room} {a : Spot} (ha : isFree r a) {i : Nat} (h : (bfs r a i).length ≤ i) (hi : i ≤ 100) : bfs r a i = found r a := by
  have := bfs_still h (100 - i)
  rw [show i + (100 - i) = 100 by omega] at this
  rw [found_eq]; exact this.symm
/-- The steps, or -1. -/
def farOf (m : Met) (s : Spot) : Int := (mget m s).getD (-1)
end Go.AW
/- A search's walk: its maps. -/
namespace Go.AW
open Go
set_option linter.unusedVariables false
set_option linter.unusedSectionVars false
set_option linter.unusedSimpArgs false

abbrev spV (s : Spot) : Value := .agg #[.int .i8 s.x, .int .i8 s.y]
abbrev ivV (n : Int) : Value := .int .i64 n
abbrev mapB (m : Met) : ABlk := .map (mapC spV ivV m)
section
variable {P : Program} {ρ : Operand → Value} {H : AHeap} {d : Option Tmp} {ty : TypeId} {pos : String} {aft : Array Edge} {g : Option (Nat × Bool)}
variable {α γ : Type} [DecidableEq α] {ke : α → Value} {ve : γ → Value}
theorem ao_mapIns {t kt et : TypeId} {x y u : Operand} {b : Nat} {m : List (α × γ)} {k : α} {v : γ} (hu : P.underlying t = some (.map kt et)) (K : KeyT P kt ke) (hvp : ∀ x, plainV (ve x) = true)
    (hx : ρ x = .map (some b)) (hy : ρ y = ke k) (hv0 : ρ u = ve v) (hk : H.blk b = some (.map (mapC ke ve m))) (hno : mget m k = none) :
    AOd P ⟨d, .insert t x y u, ty, pos, aft, g⟩ ρ H undef (H.set b (.map (mapC ke ve (m ++ [(k, v)])))) := by
  have h := ao_mapPut (d := d) (ty := ty) (pos := pos) (aft := aft) (g := g) hu K hvp hx hy hv0 hk hno
  intro β ρ' w hv hh
  exact h β ρ' w hv hh
theorem ao_look2 {t kt et : TypeId} {x y : Operand} {b : Nat} {m : List (α × γ)} {k : α} {z u : Value} {ok : Bool} (hu : P.underlying t = some (.map kt et)) (K : KeyT P kt ke) (hvp : ∀ x, plainV (ve x) = true)
    (hz : ∀ w, (zeroValue et).run P w = .ok z w) (hzp : plainV z = true) (hx : ρ x = .map (some b)) (hy : ρ y = ke k) (hk : H.blk b = some (.map (mapC ke ve m)))
    (hr : (mget m k = none ∧ u = z ∧ ok = false) ∨ ∃ v, mget m k = some v ∧ u = ve v ∧ ok = true) : AOd P ⟨d, .lookup t x y true, ty, pos, aft, g⟩ ρ H (.tuple #[u, .bool ok]) H := ao_lookup hu K hvp hz hzp hx hy hk hr true
theorem ao_look1 {t kt et : TypeId} {x y : Operand} {b : Nat} {m : List (α × γ)} {k : α} {z u : Value} {ok : Bool} (hu : P.underlying t = some (.map kt et)) (K : KeyT P kt ke) (hvp : ∀ x, plainV (ve x) = true)
    (hz : ∀ w, (zeroValue et).run P w = .ok z w) (hzp : plainV z = true) (hx : ρ x = .map (some b)) (hy : ρ y = ke k) (hk : H.blk b = some (.map (mapC ke ve m)))
    (hr : (mget m k = none ∧ u = z ∧ ok = false) ∨ ∃ v, mget m k = some v ∧ u = ve v ∧ ok = true) : AOd P ⟨d, .lookup t x y false, ty, pos, aft, g⟩ ρ H u H := ao_lookup hu K hvp hz hzp hx hy hk hr false
end
theorem aa_three {P : Program} {ops : Array Oper} {Q : Exit → AFr → AHeap → Prop} {fr : AFr} {H : AHeap} {fuel : Nat} {listed : Array Bool} {i j l : Nat} (hr : Region.ready .any ops listed = [i, j, l]) (h : AAo P ops Q fuel listed fr H i) (k : AAo P ops Q fuel listed fr H j) (m : AAo P ops Q fuel listed fr H l) : AA P ops Q (fuel + 1) listed fr H :=
  aa_all hr (by simp) (by
    intro x hx
    rcases List.mem_cons.mp hx with rfl | hx
    · exact h
    · rcases List.mem_cons.mp hx with rfl | hx
      · exact k
      · rw [List.mem_singleton.mp hx]; exact m)
theorem look_ex (m : Met) (k : Spot) : ∃ (v : Int) (ok : Bool), (mget m k = none ∧ Value.int .i64 v = .int .i64 0 ∧ ok = false) ∨ ∃ v', mget m k = some v' ∧ Value.int .i64 v = ivV v' ∧ ok = true := by
  cases h : mget m k with
  | none => exact ⟨0, false, .inl ⟨rfl, rfl, rfl⟩⟩
  | some v => exact ⟨v, true, .inr ⟨v, rfl, rfl, rfl⟩⟩
theorem look_no {m : Met} {k : Spot} {v : Int} {ok : Bool} (h : (mget m k = none ∧ Value.int .i64 v = .int .i64 0 ∧ ok = false) ∨ ∃ v', mget m k = some v' ∧ Value.int .i64 v = ivV v' ∧ ok = true) (e : ok = false) : mget m k = none := by
  rcases h with ⟨h, _⟩ | ⟨_, _, _, h⟩
  · exact h
  · rw [e] at h; cases h
theorem look_yes {m : Met} {k : Spot} {v : Int} {ok : Bool} (h : (mget m k = none ∧ Value.int .i64 v = .int .i64 0 ∧ ok = false) ∨ ∃ v', mget m k = some v' ∧ Value.int .i64 v = ivV v' ∧ ok = true) (e : ok = true) : mget m k = some v := by
  rcases h with ⟨_, _, h⟩ | ⟨v', h, q, _⟩
  · rw [e] at h; cases h
  · cases q; exact h
theorem fold_pre (n : Int) : ∀ (l : List Spot) (m : Met), ∃ r, l.foldl (put1 n) m = m ++ r := by
  intro l
  induction l with
  | nil => exact fun m => ⟨[], (List.append_nil _).symm⟩
  | cons s l ih =>
    intro m
    obtain ⟨r, hr⟩ := ih (put1 n m s)
    rw [List.foldl_cons, hr]
    unfold put1
    split
    · exact ⟨r, rfl⟩
    · exact ⟨[(s, n + 1)] ++ r, by rw [List.append_assoc]⟩
theorem mget_dist {m : Met} (h : m.Pairwise fun p q => p.1 ≠ q.1) : ∀ {i : Nat} {p : Spot × Int}, m[i]? = some p → mget m p.1 = some p.2 := by
  induction m with
  | nil => intro i p hp; simp at hp
  | cons q m ih =>
    intro i p hp
    rw [List.pairwise_cons] at h
    rw [mget_cons]
    cases i with
    | zero => simp at hp; subst hp; rw [if_pos rfl]
    | succ i =>
      have hp' : m[i]? = some p := by simpa using hp
      rw [if_neg (fun e => h.1 p (List.mem_of_getElem? hp') e.symm)]
      exact ih h.2 hp'
theorem fst_at {m : Met} {i : Nat} {p : Spot × Int} (h : m[i]? = some p) : (m.map Prod.fst)[i]? = some p.1 := by rw [List.getElem?_map, h]; rfl
def half (r : Room) (a : Spot) (i : Nat) (p : Spot × Int) (k : Nat) : Met := ((beside r p.1).take k).foldl (put1 p.2) (bfs r a i)
theorem half_at {r : Room} {a : Spot} {i : Nat} {p : Spot × Int} {k : Nat} (h : (bfs r a i)[i]? = some p) : (half r a i p k)[i]? = some p := by
  obtain ⟨t, ht⟩ := fold_pre p.2 ((beside r p.1).take k) (bfs r a i)
  unfold half
  rw [ht, List.getElem?_append_left (List.getElem?_eq_some_iff.mp h).1, h]
theorem half_good {r : Room} {a : Spot} (ha : isFree r a) {i : Nat} {p : Spot × Int} {k : Nat} (h : (bfs r a i)[i]? = some p) : Good r (half r a i p k) := by
  have hg := bfs_good ha i
  exact (Good.insAll _ hg (hg.pos p (List.mem_of_getElem? h)) fun s hs => beside_free 4 s (List.mem_of_mem_take hs)).1
theorem half_new {r : Room} {a : Spot} {i : Nat} {p : Spot × Int} {k : Nat} {x : Spot} (hx : (beside r p.1)[k]? = some x) (h : mget (half r a i p k) x = none) : half r a i p (k + 1) = half r a i p k ++ [(x, p.2 + 1)] := by
  show List.foldl _ _ _ = _
  rw [← foldl_take hx]; exact ins_new h
theorem half_met {r : Room} {a : Spot} {i : Nat} {p : Spot × Int} {k : Nat} {x : Spot} {v : Int} (hx : (beside r p.1)[k]? = some x) (h : mget (half r a i p k) x = some v) : half r a i p (k + 1) = half r a i p k := by
  show List.foldl _ _ _ = _
  rw [← foldl_take hx]; exact ins_met h
theorem half_end {r : Room} {a : Spot} {i : Nat} {p : Spot × Int} {k : Nat} (h : (bfs r a i)[i]? = some p) (hk : (beside r p.1).length ≤ k) : half r a i p k = bfs r a (i + 1) := by
  show List.foldl _ _ _ = visit r (bfs r a i) i
  unfold visit
  rw [List.take_of_length_le hk, h]
theorem wf_of_free {r : Room} {s : Spot} (h : isFree r s) : wfSpot s := by
  obtain ⟨⟨a1, a2, a3, a4, a5, a6⟩, _⟩ := h
  exact ⟨⟨by omega, by omega⟩, ⟨by omega, by omega⟩⟩
theorem ac_gcm {P : Program} {f : FuncId} {args : List Value} {H : AHeap} {m : Met}
    (h : AC P f args H (fun v H' => Same H.next H H' ∧ ∃ b', H.next ≤ b' ∧ H'.blk b' = some (mapB m) ∧ v = .map (some b'))) : ACd P f args H (.map (some H.next)) (H.push (mapB m)) := by
  refine ac_gcn (ks := [mapB m]) (h.mono ?_)
  rintro v H' ⟨hs, b', hb', hk, rfl⟩
  refine ⟨hs, [b'], rfl, List.nodup_cons.mpr ⟨by simp, List.nodup_nil⟩, ?_, ?_⟩
  · intro i b hb
    match i, hb with
    | 0, hb => simp at hb; omega
    | i + 1, hb => simp at hb
  · intro ρ hρ
    refine ⟨.map _ (hρ 0 b' rfl) (fun B o S es own e => by cases e; rfl), ?_⟩
    intro i b k2 hb hk2
    match i, hb, hk2 with
    | 0, hb, hk2 =>
      simp at hb hk2; subst hb hk2
      refine ⟨_, hk, rfl, fun j p q hp hq => ?_⟩
      rw [hp] at hq; cases hq
      simp only [mapC, List.getElem?_map, Option.map_eq_some_iff] at hp
      obtain ⟨x, _, rfl⟩ := hp
      exact ⟨VR.plain _ rfl, VR.plain _ rfl⟩
    | i + 1, hb, _ => simp at hb
end Go.AW
/- A search's walk: its grid of steps. -/
namespace Go.AW
open Go
set_option linter.unusedVariables false
set_option linter.unusedSectionVars false
set_option linter.unusedSimpArgs false

def gridC (f : Nat → Int) : List Value := (List.range 100).map fun j => .int .i64 (f j)
theorem gridC_len (f : Nat → Int) : (gridC f).length = 100 := by unfold gridC; rw [List.length_map, List.length_range]
theorem gridC_at (f : Nat → Int) {j : Nat} (h : j < 100) : (gridC f)[j]? = some (.int .i64 (f j)) := by
  unfold gridC; rw [List.getElem?_map, List.getElem?_range h]; rfl
def updF (f : Nat → Int) (j : Nat) (v : Int) (k : Nat) : Int := if k = j then v else f k
theorem gridC_congr {f g : Nat → Int} (h : ∀ j, j < 100 → f j = g j) : gridC f = gridC g := by
  unfold gridC
  exact List.map_congr_left fun j hj => by rw [h j (List.mem_range.mp hj)]
theorem gridC_set (f : Nat → Int) {j : Nat} (v : Int) (h : j < 100) : (gridC f).set j (.int .i64 v) = gridC (updF f j v) := by
  refine List.ext_getElem? fun k => ?_
  rw [List.getElem?_set]
  by_cases e : j = k
  · subst e
    rw [if_pos rfl, if_pos (by rw [gridC_len]; exact h), gridC_at _ h]
    unfold updF; rw [if_pos rfl]
  · rw [if_neg e]
    by_cases hk : k < 100
    · rw [gridC_at _ hk, gridC_at _ hk]; unfold updF; rw [if_neg (Ne.symm e)]
    · rw [List.getElem?_eq_none (by rw [gridC_len]; omega), List.getElem?_eq_none (by rw [gridC_len]; omega)]
def negTo (n j : Nat) : Int := if j < n then -1 else 0
theorem neg_put {x y : Nat} (hx : x < 10) (hy : y < 10) : (gridC (negTo (y * 10 + x))).set (0 + ((y : Nat) : Int).toNat * 10 + ((x : Nat) : Int).toNat * 1) (.int .i64 (-1)) = gridC (negTo (y * 10 + (x + 1))) := by
  rw [show 0 + ((y : Nat) : Int).toNat * 10 + ((x : Nat) : Int).toNat * 1 = y * 10 + x by omega, gridC_set _ _ (by omega)]
  refine gridC_congr fun j hj => ?_
  unfold updF negTo
  by_cases e : j = y * 10 + x
  · rw [if_pos e, if_pos (by omega)]
  · rw [if_neg e]
    by_cases h : j < y * 10 + x
    · rw [if_pos h, if_pos (by omega)]
    · rw [if_neg h, if_neg (by omega)]
def cell10 (s : Spot) : Prop := 0 ≤ s.x ∧ s.x < 10 ∧ 0 ≤ s.y ∧ s.y < 10
theorem cell10_of {r : Room} {s : Spot} (h : isFree r s) : cell10 s := by
  obtain ⟨⟨a1, a2, a3, a4, a5, a6⟩, _⟩ := h
  exact ⟨by omega, by omega, by omega, by omega⟩
def ix (s : Spot) : Nat := s.y.toNat * 10 + s.x.toNat
def farF (m : Met) (j : Nat) : Int := farOf m ⟨((j % 10 : Nat) : Int), ((j / 10 : Nat) : Int)⟩
theorem farF_ix (m : Met) {s : Spot} (h : cell10 s) : farF m (ix s) = farOf m s := by
  obtain ⟨h1, h2, h3, h4⟩ := h
  unfold farF ix
  congr 1
  exact spot_ext (by show ((_ : Nat) : Int) = _; omega) (by show ((_ : Nat) : Int) = _; omega)
theorem farF_new {m : Met} {x : Spot} {n : Int} (hc : cell10 x) (h : mget m x = none) {j : Nat} (hj : j < 100) : updF (farF m) (ix x) n j = farF (m ++ [(x, n)]) j := by
  obtain ⟨h1, h2, h3, h4⟩ := hc
  unfold updF farF farOf
  rw [mget_app, mget_cons, mget_nil]
  by_cases e : j = ix x
  · rw [if_pos e]
    have hs : (⟨((j % 10 : Nat) : Int), ((j / 10 : Nat) : Int)⟩ : Spot) = x := by
      subst e; unfold ix
      exact spot_ext (by show ((_ : Nat) : Int) = _; omega) (by show ((_ : Nat) : Int) = _; omega)
    rw [hs, h, if_pos rfl]; rfl
  · rw [if_neg e, if_neg]
    · cases mget m _ <;> rfl
    · intro q
      have q1 := congrArg Spot.x q
      have q2 := congrArg Spot.y q
      simp only at q1 q2
      apply e; unfold ix; omega
theorem ix_lt {s : Spot} (h : cell10 s) : ix s < 100 := by
  obtain ⟨h1, h2, h3, h4⟩ := h; unfold ix; omega
theorem grid_at {f : Nat → Int} {s : Spot} (h : cell10 s) : (gridC f)[0 + s.y.toNat * 10 + s.x.toNat * 1]? = some (.int .i64 (f (ix s))) := by
  rw [show 0 + s.y.toNat * 10 + s.x.toNat * 1 = ix s by unfold ix; omega]; exact gridC_at f (ix_lt h)
theorem grid_new {m : Met} {x : Spot} {n : Int} (hc : cell10 x) (h : mget m x = none) : (gridC (farF m)).set (0 + x.y.toNat * 10 + x.x.toNat * 1) (.int .i64 n) = gridC (farF (m ++ [(x, n)])) := by
  rw [show 0 + x.y.toNat * 10 + x.x.toNat * 1 = ix x by unfold ix; omega, gridC_set _ _ (ix_lt hc)]
  exact gridC_congr fun j hj => farF_new hc h hj
theorem grid_first {s : Spot} (hc : cell10 s) : (gridC (negTo 100)).set (0 + s.y.toNat * 10 + s.x.toNat * 1) (.int .i64 0) = gridC (farF [(s, 0)]) := by
  have : gridC (negTo 100) = gridC (farF []) := gridC_congr fun j hj => by unfold negTo; rw [if_pos hj]; rfl
  rw [this]
  exact grid_new (m := []) hc rfl
theorem far_none {r : Room} {m : Met} (hg : Good r m) {x : Spot} (hc : cell10 x) (h : farF m (ix x) < 0) : mget m x = none := by
  rw [farF_ix m hc] at h
  unfold farOf at h
  cases e : mget m x with
  | none => rfl
  | some v =>
    rw [e] at h
    obtain ⟨p, hp, hx⟩ : ∃ p ∈ m, p.2 = v := by
      unfold mget at e
      simp only [Option.map_eq_some_iff] at e
      obtain ⟨p, hf, hv⟩ := e
      exact ⟨p, List.mem_of_find?_eq_some hf, hv⟩
    have := (hg.pos p hp).1
    simp at h; omega
theorem far_some {m : Met} {x : Spot} (hc : cell10 x) (h : ¬ farF m (ix x) < 0) : ∃ v, mget m x = some v := by
  rw [farF_ix m hc] at h
  unfold farOf at h
  cases e : mget m x with
  | none => rw [e] at h; exact absurd (by decide) h
  | some v => exact ⟨v, rfl⟩
theorem far_at {m : Met} {p : Spot × Int} (hc : cell10 p.1) (h : mget m p.1 = some p.2) : farF m (ix p.1) = p.2 := by
  rw [farF_ix m hc]; unfold farOf; rw [h]; rfl
end Go.AW
/- Two cells that are asked for. -/
namespace Go.AW
open Go
set_option linter.unusedVariables false
set_option linter.unusedSectionVars false
set_option linter.unusedSimpArgs false
def twoC (r : Room) (a b : Spot) (c : Int) : Prop := (¬ okRoom r ∧ c = 1) ∨ (okRoom r ∧ ¬ (isCell r a ∧ isCell r b) ∧ c = 2) ∨ (okRoom r ∧ isCell r a ∧ isCell r b ∧ ¬ (isFree r a ∧ isFree r b) ∧ c = 4) ∨ (okRoom r ∧ isCell r a ∧ isCell r b ∧ isFree r a ∧ isFree r b ∧ c = 0)
open Classical in
theorem exists_twoC (r : Room) (a b : Spot) : ∃ c, twoC r a b c := by
  unfold twoC
  by_cases h : okRoom r
  · by_cases h1 : isCell r a ∧ isCell r b
    · by_cases h2 : isFree r a ∧ isFree r b
      · exact ⟨0, .inr (.inr (.inr ⟨h, h1.1, h1.2, h2.1, h2.2, rfl⟩))⟩
      · exact ⟨4, .inr (.inr (.inl ⟨h, h1.1, h1.2, h2, rfl⟩))⟩
    · exact ⟨2, .inr (.inl ⟨h, h1, rfl⟩)⟩
  · exact ⟨1, .inl ⟨h, rfl⟩⟩
theorem two_spot {p : Spot → Prop} {a b : Spot} : (∃ j : Nat, j < [a, b].length ∧ ∃ s, [a, b][j]? = some s ∧ p s) ↔ p a ∨ p b := by
  constructor
  · rintro ⟨j, hj, s, hs, hp⟩
    match j, hj with
    | 0, _ => simp at hs; subst hs; exact .inl hp
    | 1, _ => simp at hs; subst hs; exact .inr hp
  · rintro (h | h)
    · exact ⟨0, by simp, a, rfl, h⟩
    · exact ⟨1, by simp, b, rfl, h⟩
theorem two_first {r : Room} {a b : Spot} {c c1 c3 : Int} (h : twoC r a b c) (h1 : cellC r [a, b] c1) (h3 : stateC r [a, b] c3) : firstNZ [c1, c3] = c := by
  unfold cellC at h1
  unfold stateC at h3
  rw [two_spot (p := fun x => ¬ isCell r x)] at h1
  rw [two_spot (p := fun x => ¬ isFree r x)] at h3
  have hf : firstNZ [c1, c3] = if c1 = 0 then (if c3 = 0 then 0 else c3) else c1 := rfl
  rw [hf]
  rcases h with ⟨a1, e⟩ | ⟨a1, a2, e⟩ | ⟨a1, a2, a3, a4, e⟩ | ⟨a1, a2, a3, a4, a5, e⟩ <;> rcases h1 with ⟨b1, e1⟩ | ⟨b1, b2, e1⟩ | ⟨b1, b2, e1⟩ <;> rcases h3 with ⟨d1, e3⟩ | ⟨d1, e3⟩ <;> subst e e1 e3 <;> first | rfl | (exfalso; simp_all; (first | done | fail))
theorem two_ok {r : Room} {a b : Spot} (h : twoC r a b 0) : okRoom r ∧ isFree r a ∧ isFree r b := by
  rcases h with ⟨_, e⟩ | ⟨_, _, e⟩ | ⟨_, _, _, _, e⟩ | ⟨h1, _, _, h2, h3, _⟩
  · cases e
  · cases e
  · cases e
  · exact ⟨h1, h2, h3⟩
theorem two_len {r : Room} {a b : Spot} {p : Spot → Prop} (ha : p a) (hb : p b) : ∀ (i : Nat) s, [a, b][i]? = some s → p s := by
  intro i s h
  match i, h with
  | 0, h => simp at h; subst h; exact ha
  | 1, h => simp at h; subst h; exact hb
  | i + 2, h => simp at h
theorem found_pos {r : Room} {a b : Spot} {v : Int} (ha : isFree r a) (h : mget (found r a) b = some v) : 0 ≤ v ∧ v ≤ 100 := by
  have hg := bfs_good ha 100
  rw [← found_eq] at hg
  unfold mget at h
  simp only [Option.map_eq_some_iff] at h
  obtain ⟨p, hf, hv⟩ := h
  have := hg.pos p (List.mem_of_find?_eq_some hf)
  have := hg.len
  subst hv; omega
end Go.AW
