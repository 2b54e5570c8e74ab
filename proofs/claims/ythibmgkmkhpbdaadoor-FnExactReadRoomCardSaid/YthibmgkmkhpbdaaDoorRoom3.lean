/- Rooms that are mirrored and turned: walls that are put one by one. -/
import Derived.Test.YthibmgkmkhpbdaaDoorRoom2
namespace Go.AW
open Go
set_option linter.unusedVariables false

/-- Two rooms in whose blocks the same stands. -/
theorem wallR_congr {r r' : Room} {s : Spot} {on : Bool} (h : roomC r = roomC r') (hy : s.y.toNat < 10) : roomC (wallR r s on) = roomC (wallR r' s on) := by
  obtain ⟨h1, h2, h3⟩ := roomC_ext h
  have e := h3 _ hy
  have step : ∀ (a b : Room) (v : Nat), (a.w = b.w ∧ a.h = b.h ∧ ∀ y, y < 10 → a.f y = b.f y) → ((a.put s.y.toNat v).w = (b.put s.y.toNat v).w ∧ (a.put s.y.toNat v).h = (b.put s.y.toNat v).h ∧ ∀ y, y < 10 → (a.put s.y.toNat v).f y = (b.put s.y.toNat v).f y) := by
    intro a b v ⟨k1, k2, k3⟩
    refine ⟨k1, k2, fun y hy => ?_⟩
    show (if y = _ then v else a.f y) = (if y = _ then v else b.f y)
    split
    · rfl
    · exact k3 y hy
  have s1 := step r r' (clr (r.f s.y.toNat) s.x.toNat) ⟨h1, h2, h3⟩
  unfold wallR
  rw [← e]
  cases on
  · exact roomC_congr s1.1 s1.2.1 s1.2.2
  · have s2 := step _ _ (setb ((r.put s.y.toNat (clr (r.f s.y.toNat) s.x.toNat)).f s.y.toNat) s.x.toNat) s1
    have e2 := s1.2.2 _ hy
    simp only [if_true]
    rw [← e2]
    exact roomC_congr s2.1 s2.2.1 s2.2.2
theorem wallR_dims (r : Room) (s : Spot) (on : Bool) : (wallR r s on).w = r.w ∧ (wallR r s on).h = r.h := by
  unfold wallR; cases on <;> exact ⟨rfl, rfl⟩
/-- A bit of a room's rows, once a wall is put or taken away. -/
theorem wallR_bit {r : Room} {s : Spot} {on : Bool} (hf : rowsOk r.f) (hx : 0 ≤ s.x ∧ s.x < 10) (y j : Nat) :
    ((wallR r s on).f y).testBit j = if y = s.y.toNat ∧ j = s.x.toNat then on else (r.f y).testBit j := by
  have hx16 : s.x.toNat < 16 := by omega
  have hp : ∀ (a : Room) (v y : Nat), (a.put s.y.toNat v).f y = if y = s.y.toNat then v else a.f y := fun a v y => rfl
  have hc : clr (r.f s.y.toNat) s.x.toNat < 65536 := bitsNLt _ _ _
  unfold wallR
  cases on
  · simp only [Bool.false_eq_true, if_false]
    rw [hp]
    by_cases h : y = s.y.toNat
    · rw [if_pos h, bit_clr _ _ _ (hf _) hx16]
      by_cases h2 : j = s.x.toNat
      · simp [h, h2]
      · simp [h, h2]
    · rw [if_neg h, if_neg (fun q => h q.1)]
  · simp only [if_true]
    rw [hp]
    by_cases h : y = s.y.toNat
    · rw [if_pos h, bit_or _ _ _ (by rw [hp, if_pos rfl]; exact hc) hx16, hp, if_pos rfl, bit_clr _ _ _ (hf _) hx16]
      by_cases h2 : j = s.x.toNat
      · simp [h, h2]
      · simp [h, h2]
    · rw [if_neg h, hp, if_neg h, if_neg (fun q => h q.1)]
theorem wallR_rows {r : Room} {s : Spot} {on : Bool} (hf : rowsOk r.f) : rowsOk (wallR r s on).f := by
  unfold wallR
  cases on
  · exact rows_put hf (bitsNLt _ _ _)
  · exact rows_put (rows_put hf (bitsNLt _ _ _)) (bitsNLt _ _ _)

/-- Walls put or taken at all places; and put only where there are some. -/
def putAll (g : Spot → Spot) (q : Spot → Bool) (r : Room) (l : List Spot) : Room := l.foldl (fun R s => wallR R (g s) (q s)) r
def putWalls (g : Spot → Spot) (r : Room) (l : List Spot) : Room := l.foldl (fun R s => wallR R (g s) true) r
theorem putAll_snoc (g : Spot → Spot) (q : Spot → Bool) (r : Room) (l : List Spot) (s : Spot) : putAll g q r (l ++ [s]) = wallR (putAll g q r l) (g s) (q s) := by
  unfold putAll; rw [List.foldl_append]; rfl
theorem putWalls_snoc (g : Spot → Spot) (r : Room) (l : List Spot) (s : Spot) : putWalls g r (l ++ [s]) = wallR (putWalls g r l) (g s) true := by
  unfold putWalls; rw [List.foldl_append]; rfl
theorem putAll_dims (g : Spot → Spot) (q : Spot → Bool) (r : Room) (l : List Spot) : (putAll g q r l).w = r.w ∧ (putAll g q r l).h = r.h := by
  unfold putAll
  induction l generalizing r with
  | nil => exact ⟨rfl, rfl⟩
  | cons s l ih => have := ih (wallR r (g s) (q s)); have := wallR_dims r (g s) (q s); rw [List.foldl_cons]; simp_all
theorem putWalls_dims (g : Spot → Spot) (r : Room) (l : List Spot) : (putWalls g r l).w = r.w ∧ (putWalls g r l).h = r.h := by
  unfold putWalls
  induction l generalizing r with
  | nil => exact ⟨rfl, rfl⟩
  | cons s l ih => have := ih (wallR r (g s) true); have := wallR_dims r (g s) true; rw [List.foldl_cons]; simp_all
theorem putAll_rows {g : Spot → Spot} {q : Spot → Bool} {r : Room} (h : rowsOk r.f) (l : List Spot) : rowsOk (putAll g q r l).f := by
  unfold putAll
  induction l generalizing r with
  | nil => exact h
  | cons s l ih => exact ih (wallR_rows h)
/-- Where nothing has been put nothing stands. -/
theorem putAll_zero {g : Spot → Spot} {q : Spot → Bool} {r : Room} (hz : ∀ y, r.f y = 0) : ∀ (n : Nat) (l : List Spot), l.length = n → (∀ s ∈ l, 0 ≤ (g s).x ∧ (g s).x < 10) → ∀ (y j : Nat), (∀ s ∈ l, ¬ (y = (g s).y.toNat ∧ j = (g s).x.toNat)) →
    ((putAll g q r l).f y).testBit j = false := by
  have hr : rowsOk r.f := fun y => by rw [hz]; decide
  intro n
  induction n with
  | zero =>
    intro l hl _ y j _
    obtain rfl := List.eq_nil_of_length_eq_zero hl
    show (r.f y).testBit j = false
    rw [hz]; exact Nat.zero_testBit j
  | succ n ih =>
    intro l hl hg y j hno
    rcases List.eq_nil_or_concat l with rfl | ⟨l', s, rfl⟩
    · cases hl
    · rw [List.concat_eq_append] at hno ⊢ hl hg
      rw [putAll_snoc, wallR_bit (putAll_rows hr l') (hg s (by simp)), if_neg (hno s (by simp))]
      exact ih l' (by simpa using hl) (fun t ht => hg t (by simp [ht])) y j fun t ht => hno t (by simp [ht])
/-- Putting only where there are walls comes to the same. -/
theorem put_same {g : Spot → Spot} {q : Spot → Bool} {r : Room} (hz : ∀ y, r.f y = 0) :
    ∀ (n : Nat) (l : List Spot), l.length = n → (∀ s ∈ l, (0 ≤ (g s).x ∧ (g s).x < 10) ∧ 0 ≤ (g s).y ∧ (g s).y < 10) → (∀ (l1 : List Spot) (s : Spot), (∃ l2, l = l1 ++ s :: l2) → ∀ t ∈ l1, g t ≠ g s) → roomC (putAll g q r l) = roomC (putWalls g r (l.filter q)) := by
  have hr : rowsOk r.f := fun y => by rw [hz]; decide
  intro n
  induction n with
  | zero => intro l hl _ _; obtain rfl := List.eq_nil_of_length_eq_zero hl; rfl
  | succ n ih =>
    intro l hl hg hd
    rcases List.eq_nil_or_concat l with rfl | ⟨l', s, rfl⟩
    · cases hl
    · rw [List.concat_eq_append] at hd ⊢ hl hg
      have hgl : ∀ t ∈ l', (0 ≤ (g t).x ∧ (g t).x < 10) ∧ 0 ≤ (g t).y ∧ (g t).y < 10 := fun t ht => hg t (by simp [ht])
      have hgs := hg s (by simp)
      have e := ih l' (by simpa using hl) hgl fun l1 t ⟨l2, h2⟩ => hd l1 t ⟨l2 ++ [s], by rw [h2]; simp⟩
      have hne := hd l' s ⟨[], rfl⟩
      rw [putAll_snoc, List.filter_append]
      cases hq : q s
      · rw [List.filter_cons_of_neg (by rw [hq]; simp), List.filter_nil, List.append_nil, ← e]
        have hdm := wallR_dims (putAll g q r l') (g s) false
        refine roomC_congr hdm.1 hdm.2 fun y _ => Nat.eq_of_testBit_eq fun j => ?_
        rw [wallR_bit (putAll_rows hr l') hgs.1]
        split
        · rename_i h
          refine (putAll_zero hz _ l' rfl (fun s hs => (hgl s hs).1) y j fun t ht hc => hne t ht ?_).symm
          have a := hgl t ht
          have b := hgs
          exact spot_ext (by omega) (by omega)
        · rfl
      · rw [List.filter_cons_of_pos hq, List.filter_nil, putWalls_snoc]
        exact wallR_congr e (by omega)

theorem rowCells_nodup (y x : Nat) : (rowCells y x).Nodup := by
  unfold rowCells
  refine List.Pairwise.map _ ?_ (List.nodup_range (n := x))
  intro a b h e
  simp only [Spot.mk.injEq, Int.ofNat_inj] at e
  exact h e.1
theorem cellsTo_nodup (w : Nat) : ∀ (y x : Nat), (cellsTo w y x).Nodup := by
  intro y
  induction y with
  | zero => exact fun x => rowCells_nodup 0 x
  | succ y ih =>
    intro x
    refine List.nodup_append.mpr ⟨ih w, rowCells_nodup _ _, fun a ha b hb e => ?_⟩
    subst e
    obtain ⟨c, d, e1, h1, _⟩ := mem_cellsTo ha
    obtain ⟨i, _, e2⟩ := List.mem_map.mp hb
    rw [e1] at e2
    simp only [Spot.mk.injEq, Int.ofNat_inj] at e2
    omega
theorem apart_of {g : Spot → Spot} {l : List Spot} (hn : l.Nodup) (hinj : ∀ s ∈ l, ∀ t ∈ l, g t = g s → t = s) (l1 : List Spot) (s : Spot) (h : ∃ l2, l = l1 ++ s :: l2) : ∀ t ∈ l1, g t ≠ g s := by
  obtain ⟨l2, rfl⟩ := h
  intro t ht e
  have := hinj s (by simp) t (by simp [ht]) e
  subst this
  rw [List.nodup_append] at hn
  exact hn.2.2 t ht t (by simp) rfl
/-- Mirrored, turned. -/
def gM (r : Room) (s : Spot) : Spot := ⟨r.w - 1 - s.x, s.y⟩
def qM (r : Room) (s : Spot) : Bool := !freeB r s
def zM (r : Room) : Room := ⟨r.w, r.h, fun _ => 0⟩
def qT (r : Room) (s : Spot) : Bool := !freeB r ⟨s.y, r.h - 1 - s.x⟩
def zT (r : Room) : Room := ⟨r.h, r.w, fun _ => 0⟩
def mirrorR (r : Room) : Room := putWalls (gM r) (zM r) ((allCells r).filter (qM r))
def turnR (r : Room) : Room := putWalls id (zT r) ((allCells (zT r)).filter (qT r))
theorem mem_all {r : Room} {s : Spot} (h : s ∈ allCells r) (h1 : 0 ≤ r.w) (h2 : 0 ≤ r.h) : 0 ≤ s.x ∧ s.x < r.w ∧ 0 ≤ s.y ∧ s.y < r.h := by
  obtain ⟨a, b, rfl, _, h3⟩ := mem_cellsTo h
  show 0 ≤ (a : Int) ∧ (a : Int) < r.w ∧ 0 ≤ (b : Int) ∧ (b : Int) < r.h
  omega
theorem mirror_all {r : Room} (hr : okRoom r) : roomC (putAll (gM r) (qM r) (zM r) (allCells r)) = roomC (mirrorR r) := by
  obtain ⟨r1, r2, r3, r4, _⟩ := hr
  refine put_same (fun _ => rfl) _ _ rfl (fun s hs => ?_) (apart_of (cellsTo_nodup _ _ _) fun s hs t ht e => ?_)
  · have := mem_all hs (by omega) (by omega)
    show (0 ≤ r.w - 1 - s.x ∧ r.w - 1 - s.x < 10) ∧ 0 ≤ s.y ∧ s.y < 10
    omega
  · unfold gM at e
    simp only [Spot.mk.injEq] at e
    exact spot_ext (by omega) e.2
theorem turn_all {r : Room} (hr : okRoom r) : roomC (putAll id (qT r) (zT r) (allCells (zT r))) = roomC (turnR r) := by
  obtain ⟨r1, r2, r3, r4, _⟩ := hr
  refine put_same (fun _ => rfl) _ _ rfl (fun s hs => ?_) (apart_of (cellsTo_nodup _ _ _) fun s hs t ht e => e)
  have := mem_all hs (show 0 ≤ r.h by omega) (show 0 ≤ r.w by omega)
  have h1 : (zT r).w = r.h := rfl
  have h2 : (zT r).h = r.w := rfl
  show (0 ≤ s.x ∧ s.x < 10) ∧ 0 ≤ s.y ∧ s.y < 10
  omega
theorem filter_at {r : Room} {q : Spot → Bool} {i : Nat} {s : Spot} (h : ((allCells r).filter q)[i]? = some s) (h1 : 0 ≤ r.w) (h2 : 0 ≤ r.h) : 0 ≤ s.x ∧ s.x < r.w ∧ 0 ≤ s.y ∧ s.y < r.h :=
  mem_all (List.mem_filter.mp (List.mem_of_getElem? h)).1 h1 h2
theorem putWalls_take {g : Spot → Spot} {r : Room} {l : List Spot} {i : Nat} {s : Spot} (h : l[i]? = some s) : wallR (putWalls g r (l.take i)) (g s) true = putWalls g r (l.take (i + 1)) := by
  rw [List.take_add_one, h]; exact (putWalls_snoc _ _ _ _).symm
end Go.AW
