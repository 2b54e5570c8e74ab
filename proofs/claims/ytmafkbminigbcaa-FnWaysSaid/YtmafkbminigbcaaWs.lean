/- What the law of ways says: symmetry, ways, the cells near, rays. -/
import Derived.Test.YtmafkbminigbcaaSrc
namespace Go.AW
open Go
set_option linter.unusedVariables false
set_option linter.unusedSectionVars false
def stepV (r : Room) (a b : Spot) : Int := (mget (found r a) b).getD 0
def stepQ (r : Room) (a b : Spot) : Int := if (mget (found r a) b).isSome = true then 0 else 6
theorem step_some {r : Room} {a b : Spot} {v : Int} (h : mget (found r a) b = some v) : stepV r a b = v ∧ stepQ r a b = 0 := by unfold stepV stepQ; rw [h]; exact ⟨rfl, rfl⟩
theorem step_none {r : Room} {a b : Spot} (h : mget (found r a) b = none) : stepV r a b = 0 ∧ stepQ r a b = 6 := by unfold stepV stepQ; rw [h]; exact ⟨rfl, rfl⟩
theorem step_sym {r : Room} {a b : Spot} (ha : isFree r a) (hb : isFree r b) : stepV r b a = stepV r a b ∧ stepQ r b a = stepQ r a b := by
  cases h : mget (found r a) b with
  | some v => rw [(step_some h).1, (step_some h).2]; exact step_some (found_symm ha h)
  | none => rw [(step_none h).1, (step_none h).2]; exact step_none (found_symm_no hb h)
theorem step_or (r : Room) (a b : Spot) : stepQ r a b = 0 ∨ stepQ r a b = 6 := by unfold stepQ; split <;> simp
theorem step_has {r : Room} {a b : Spot} (ha : isFree r a) : decide (b ∈ nearL r a 100) = (stepQ r a b == 0) := by
  cases h : mget (found r a) b with
  | some v => rw [(step_some h).2, decide_eq_true ((mem_near ha).mpr ⟨v, h⟩)]; rfl
  | none => rw [(step_none h).2, decide_eq_false (fun e => by obtain ⟨v, hv⟩ := (mem_near ha).mp e; rw [h] at hv; cases hv)]; rfl
def wayU (r : Room) (a b : Spot) : List Spot := if stepQ r a b = 0 then wayN r a b (stepV r a b).toNat else []
theorem wayU_some {r : Room} {a b : Spot} {v : Int} (h : mget (found r a) b = some v) : wayU r a b = wayN r a b v.toNat := by unfold wayU; rw [(step_some h).1, (step_some h).2]; rfl
theorem wayU_none {r : Room} {a b : Spot} (h : mget (found r a) b = none) : wayU r a b = [] := by unfold wayU; rw [(step_none h).2]; rfl
theorem two_free {r : Room} {a b : Spot} (hr : okRoom r) (ha : isFree r a) (hb : isFree r b) : twoC r a b 0 := .inr (.inr (.inr ⟨hr, ha.1, hb.1, ha, hb, rfl⟩))
theorem stood_free {r : Room} {a : Spot} {f : Bool} (hr : okRoom r) (ha : isFree r a) (hf : f = true) : stoodC r a f 0 := .inr (.inr (.inr ⟨hr, ha.1, hf, ha, rfl⟩))
theorem step_le {r : Room} {a b : Spot} (ha : isFree r a) : 0 ≤ stepV r a b ∧ stepV r a b ≤ 100 := by
  cases h : mget (found r a) b with
  | some v => rw [(step_some h).1]; exact found_pos ha h
  | none => rw [(step_none h).1]; simp
theorem wayU_len {r : Room} {a b : Spot} (ha : isFree r a) (h : stepQ r a b = 0) : ((wayU r a b).length : Int) = stepV r a b + 1 := by
  have := step_le (b := b) ha
  unfold wayU; rw [if_pos h, wayN_len]; omega
theorem wayU_le {r : Room} {a b : Spot} (ha : isFree r a) : (wayU r a b).length ≤ 101 := by
  have := step_le (b := b) ha
  unfold wayU
  split
  · rw [wayN_len]; omega
  · simp
theorem wayU_at {r : Room} {a b : Spot} (h : stepQ r a b = 0) {k : Nat} (hk : k < (wayU r a b).length) : (wayU r a b)[k]? = some (posW r a b k) := by
  have e : wayU r a b = wayN r a b (stepV r a b).toNat := by unfold wayU; rw [if_pos h]
  rw [e] at hk ⊢
  rw [wayN_len] at hk
  unfold wayN; rw [List.getElem?_map, List.getElem?_range hk]; rfl
theorem step_met {r : Room} {a b : Spot} (ha : isFree r a) (h : stepQ r a b = 0) : mget (found r b) a = some (stepV r a b) := by
  cases e : mget (found r a) b with
  | some v => rw [(step_some e).1]; exact found_symm ha e
  | none => rw [(step_none e).2] at h; cases h
theorem pos_last {r : Room} {a b : Spot} (ha : isFree r a) (hb : isFree r b) (h : stepQ r a b = 0) : posW r a b (stepV r a b).toNat = b := by
  have := step_le (b := b) ha
  exact (pos_end hb (step_met ha h) (by omega)).mpr (by omega)
theorem pos_next {r : Room} {a b : Spot} (ha : isFree r a) (hb : isFree r b) (h : stepQ r a b = 0) {k : Nat} (hk : ((k + 1 : Nat) : Int) ≤ stepV r a b) : isFree r (posW r a b k) ∧ isFree r (posW r a b (k + 1)) ∧ ∃ j : Nat, j < 4 ∧ sideAt (posW r a b k) (posW r a b (k + 1)) j := by
  have hm := step_met ha h
  have h1 := pos_at hb hm k (by omega)
  have h2 := (next_step hb h1 (by omega)).2
  obtain ⟨i, hi, e, hf⟩ := mem_beside.mp h2
  exact ⟨found_free hb h1, hf, i, hi, e.symm⟩
/-! ### the cells near -/
def cntW (r : Room) (a : Spot) : Nat → Nat
  | 0 => 0
  | n + 1 => (nearL r a n).length
theorem filter_lt {α : Type} {p q : α → Bool} : ∀ (l : List α), (∀ x, p x = true → q x = true) → (∃ x ∈ l, q x = true ∧ p x = false) → (l.filter p).length < (l.filter q).length := by
  intro l hpq
  have hle : ∀ l : List α, (l.filter p).length ≤ (l.filter q).length := by
    intro l
    induction l with
    | nil => exact Nat.le_refl _
    | cons x l ih =>
      cases hp : p x with
      | true => rw [List.filter_cons_of_pos hp, List.filter_cons_of_pos (hpq x hp)]; simp only [List.length_cons]; omega
      | false =>
        rw [List.filter_cons_of_neg (by rw [hp]; simp)]
        cases hq : q x with
        | true => rw [List.filter_cons_of_pos hq]; simp only [List.length_cons]; omega
        | false => rw [List.filter_cons_of_neg (by rw [hq]; simp)]; exact ih
  induction l with
  | nil => rintro ⟨x, hx, _⟩; cases hx
  | cons x l ih =>
    rintro ⟨y, hy, h1, h2⟩
    rcases List.mem_cons.mp hy with rfl | hy
    · rw [List.filter_cons_of_neg (by rw [h2]; simp), List.filter_cons_of_pos h1]
      have := hle l
      simp only [List.length_cons]; omega
    · have := ih ⟨y, hy, h1, h2⟩
      cases hp : p x with
      | true => rw [List.filter_cons_of_pos hp, List.filter_cons_of_pos (hpq x hp)]; simp only [List.length_cons]; omega
      | false =>
        rw [List.filter_cons_of_neg (by rw [hp]; simp)]
        cases hq : q x with
        | true => rw [List.filter_cons_of_pos hq]; simp only [List.length_cons]; omega
        | false => rw [List.filter_cons_of_neg (by rw [hq]; simp)]; exact this
theorem found_lower {r : Room} {a : Spot} (ha : isFree r a) : ∀ (k : Nat) {s : Spot} {v : Int}, mget (found r a) s = some v → ∀ n : Int, 0 ≤ n → n ≤ v → v - n = k → ∃ t, mget (found r a) t = some n := by
  intro k
  induction k with
  | zero => intro s v h n _ _ e; exact ⟨s, by rw [h]; congr 1; omega⟩
  | succ k ih =>
    intro s v h n h0 hle e
    rcases found_par ha h with ⟨_, hv⟩ | ⟨p, hp, _⟩
    · omega
    · exact ih hp n h0 (by omega) (by omega)
def farD (r : Room) (a : Spot) : Int := farM r a (farB r a)
theorem farB_met {r : Room} {a : Spot} : mget (found r a) (farB r a) = some (farD r a) := by
  obtain ⟨v, hv⟩ := best_met r a (freeL r).length
  rw [best_end (Nat.le_refl _)] at hv
  unfold farD; rw [farM_some hv]; exact hv
theorem farD_top {r : Room} {a s : Spot} {v : Int} (ha : isFree r a) (h : mget (found r a) s = some v) : v ≤ farD r a := by
  obtain ⟨_, _, k3⟩ := foldl_nb (f := farM r a) (freeL r) a
  have := k3 s (mem_freeL (found_free ha h))
  have e := farM_some h
  unfold farD farB
  rcases this with this | ⟨this, _⟩ <;> omega
theorem farD_le {r : Room} {a : Spot} (ha : isFree r a) : 0 ≤ farD r a ∧ farD r a ≤ 100 := found_pos ha farB_met
theorem farB_in {r : Room} {a : Spot} (ha : isFree r a) : farB r a ∈ nearL r a 100 := (mem_near ha).mpr ⟨_, farB_met⟩
theorem nearB_iff {r : Room} {a s : Spot} {k : Int} : nearB r a k s = true ↔ ∃ v, mget (found r a) s = some v ∧ v ≤ k := by
  unfold nearB
  cases h : mget (found r a) s with
  | none => exact ⟨fun e => (by cases e), fun ⟨v, e, _⟩ => (by cases e)⟩
  | some v => exact ⟨fun e => ⟨v, rfl, of_decide_eq_true e⟩, fun ⟨u, e, hu⟩ => by cases e; exact decide_eq_true hu⟩
theorem near_up {r : Room} {a : Spot} (ha : isFree r a) {n : Nat} (hn : (n : Int) ≤ farD r a) : cntW r a n < (nearL r a n).length := by
  obtain ⟨t, ht⟩ := found_lower ha (farD r a - n).toNat farB_met n (by omega) hn (by omega)
  have hm := mem_allCells (found_free ha ht).1
  cases n with
  | zero => exact List.length_pos_of_mem (List.mem_filter.mpr ⟨hm, nearB_iff.mpr ⟨_, ht, Int.le_refl _⟩⟩)
  | succ n =>
    refine filter_lt _ (fun x hx => ?_) ⟨t, hm, nearB_iff.mpr ⟨_, ht, Int.le_refl _⟩, ?_⟩
    · obtain ⟨v, h1, h2⟩ := nearB_iff.mp hx
      exact nearB_iff.mpr ⟨v, h1, by omega⟩
    · cases e : nearB r a (n : Int) t with
      | false => rfl
      | true =>
        obtain ⟨v, h1, h2⟩ := nearB_iff.mp e
        rw [ht] at h1; cases h1; omega
theorem near_full {r : Room} {a : Spot} (ha : isFree r a) {n : Nat} (hn : (n : Int) ≤ farD r a) : (nearL r a n).length = (nearL r a 100).length ↔ (n : Int) = farD r a := by
  have hd := farD_le ha
  constructor
  · intro e
    refine Classical.byContradiction fun hne => ?_
    have : (nearL r a n).length < (nearL r a 100).length := by
      refine filter_lt _ (fun x hx => ?_) ⟨farB r a, mem_allCells (farB_free ha).1, nearB_iff.mpr ⟨_, farB_met, hd.2⟩, ?_⟩
      · obtain ⟨v, h1, h2⟩ := nearB_iff.mp hx
        exact nearB_iff.mpr ⟨v, h1, (found_pos ha h1).2⟩
      · cases e : nearB r a (n : Int) (farB r a) with
        | false => rfl
        | true =>
          obtain ⟨v, h1, h2⟩ := nearB_iff.mp e
          rw [farB_met] at h1; cases h1; omega
    omega
  · intro e
    have : nearL r a n = nearL r a 100 := by
      unfold nearL
      refine List.filter_congr fun x _ => ?_
      rw [Bool.eq_iff_iff, nearB_iff, nearB_iff]
      constructor
      · rintro ⟨v, h1, h2⟩; exact ⟨v, h1, by omega⟩
      · rintro ⟨v, h1, h2⟩; exact ⟨v, h1, by have := farD_top ha h1; omega⟩
    rw [this]
/-! ### rays -/
theorem ray_9 {r : Room} {s : Spot} {k : Int} {n : Nat} (hs : isFree r s) (hk : 0 ≤ k ∧ k ≤ 3) (h : rayIs r s k n) : n ≤ 9 := by
  have key : ∀ j : Nat, j ≤ n → isFree r (stepS s k j) ∧ toWall k (stepS s k j) = toWall k s - j := by
    intro j
    induction j with
    | zero => intro _; exact ⟨hs, by show toWall k s = _; simp⟩
    | succ j ih =>
      intro hj
      obtain ⟨h1, h2⟩ := ih (by omega)
      refine ⟨h.1 j (by omega), ?_⟩
      show toWall k (nextSpot (stepS s k j) k) = _
      rw [toWall_next h1 hk, h2]; omega
  obtain ⟨h1, h2⟩ := key n (Nat.le_refl _)
  have h3 := toWall_free (k := k) h1
  have h4 := toWall_free (k := k) hs
  omega
theorem near_eqb {r : Room} {a : Spot} (ha : isFree r a) {n : Nat} (hn : (n : Int) ≤ farD r a) : ((((nearL r a (n : Nat)).length : Nat) : Int) == (((nearL r a 100).length : Nat) : Int)) = ((n : Int) == farD r a) := by
  have h := near_full ha hn
  rw [Bool.eq_iff_iff]
  simp only [beq_iff_eq]
  omega
theorem pos_prev {r : Room} {a b : Spot} (ha : isFree r a) (hb : isFree r b) (h : stepQ r a b = 0) {i : Nat} (h1 : 1 ≤ i) (hi : (i : Int) ≤ stepV r a b) : isFree r (posW r a b (i - 1)) ∧ isFree r (posW r a b i) ∧ ∃ j : Nat, j < 4 ∧ sideAt (posW r a b (i - 1)) (posW r a b i) j := by
  have := pos_next ha hb h (k := i - 1) (by omega)
  rwa [show i - 1 + 1 = i by omega] at this
theorem wf_u8 {n : Int} (h : (Lit.int .u8 n).wf = true) : 0 ≤ n ∧ n ≤ 255 := by
  simp [Lit.wf, IntKind.min, IntKind.max, IntKind.signed, IntKind.bits] at h
  omega
end Go.AW
