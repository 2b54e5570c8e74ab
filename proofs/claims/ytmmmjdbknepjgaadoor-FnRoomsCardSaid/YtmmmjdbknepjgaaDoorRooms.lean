/- What the law of rooms asks. -/
import Derived.Test.YtmmmjdbknepjgaaDoorPts
import Derived.Test.YtmmmjdbknepjgaaDoorGb
import Derived.Test.YtmmmjdbknepjgaaDoorSide
namespace Go.AW
open Go
set_option linter.unusedVariables false

theorem putWalls_rows {g : Spot → Spot} {r : Room} (h : rowsOk r.f) (l : List Spot) : rowsOk (putWalls g r l).f := by
  unfold putWalls
  induction l generalizing r with
  | nil => exact h
  | cons s l ih => exact ih (wallR_rows h)
theorem putWalls_bit {g : Spot → Spot} : ∀ (l : List Spot) {r : Room}, rowsOk r.f → (∀ s ∈ l, 0 ≤ (g s).x ∧ (g s).x < 10) → ∀ y j : Nat, ((putWalls g r l).f y).testBit j = true ↔ (r.f y).testBit j = true ∨ ∃ s ∈ l, y = (g s).y.toNat ∧ j = (g s).x.toNat
  | [], r, _, _, y, j => ⟨fun h => .inl h, fun h => by rcases h with h | ⟨s, hs, _⟩; exact h; cases hs⟩
  | s :: l, r, hr, hg, y, j => by
    have ih := putWalls_bit l (r := wallR r (g s) true) (wallR_rows hr) (fun t ht => hg t (by simp [ht])) y j
    show ((putWalls g (wallR r (g s) true) l).f y).testBit j = true ↔ _
    rw [ih, wallR_bit hr (hg s (by simp))]
    constructor
    · rintro (h | ⟨t, ht, e⟩)
      · split at h
        · rename_i e; exact .inr ⟨s, by simp, e⟩
        · exact .inl h
      · exact .inr ⟨t, by simp [ht], e⟩
    · rintro (h | ⟨t, ht, e⟩)
      · by_cases c : y = (g s).y.toNat ∧ j = (g s).x.toNat
        · exact .inl (by rw [if_pos c])
        · exact .inl (by rw [if_neg c]; exact h)
      · rcases List.mem_cons.mp ht with rfl | ht
        · exact .inl (by rw [if_pos e])
        · exact .inr ⟨t, ht, e⟩
theorem mem_cells {r : Room} (h1 : 0 ≤ r.w) (h2 : 0 ≤ r.h) {x y : Nat} (hx : x < r.w.toNat) (hy : y < r.h.toNat) : (⟨(x : Int), (y : Int)⟩ : Spot) ∈ allCells r := by
  unfold allCells; exact cellsTo_mem _ _ _ (.inr ⟨hy, hx⟩)
theorem ok_of {r : Room} (h1 : 1 ≤ r.w ∧ r.w ≤ 10) (h2 : 1 ≤ r.h ∧ r.h ≤ 10) (hb : ∀ y j : Nat, y < 10 → (r.f y).testBit j = true → j < r.w.toNat ∧ y < r.h.toNat) : okRoom r := by
  refine ⟨h1.1, h1.2, h2.1, h2.2, fun y hy => ⟨?_, fun hh => ?_⟩⟩
  · refine Nat.lt_pow_two_of_testBit _ fun i hi => ?_
    cases e : (r.f y).testBit i
    · rfl
    · have := (hb y i hy e).1; omega
  · refine Nat.eq_of_testBit_eq fun j => ?_
    rw [Nat.zero_testBit]
    cases e : (r.f y).testBit j
    · rfl
    · have := (hb y j hy e).2; omega
theorem room_bits {r s : Room} (h1 : r.w = s.w) (h2 : r.h = s.h) (hb : ∀ y j : Nat, y < 10 → ((r.f y).testBit j = true ↔ (s.f y).testBit j = true)) : roomC r = roomC s :=
  roomC_congr h1 h2 fun y hy => Nat.eq_of_testBit_eq fun j => Bool.eq_iff_iff.mpr (hb y j hy)

/-! Mirrored twice. -/
theorem mirror_bit {r : Room} (hr : okRoom r) (y j : Nat) : ((mirrorR r).f y).testBit j = true ↔ j < r.w.toNat ∧ y < r.h.toNat ∧ (r.f y).testBit (r.w.toNat - 1 - j) = true := by
  have ⟨r1, r2, r3, r4, _⟩ := hr
  unfold mirrorR
  rw [putWalls_bit _ (fun _ => (by decide : (0 : Nat) < 65536)) (fun s hs => by
    have := mem_all (List.mem_filter.mp hs).1 (by omega) (by omega)
    show 0 ≤ r.w - 1 - s.x ∧ r.w - 1 - s.x < 10
    omega)]
  constructor
  · rintro (h | ⟨s, hs, e1, e2⟩)
    · exact absurd h (by show ¬ (0 : Nat).testBit j = true; rw [Nat.zero_testBit]; decide)
    · obtain ⟨hm, hq⟩ := List.mem_filter.mp hs
      obtain ⟨a, b, rfl, _, hab⟩ := mem_cellsTo hm
      have ha : a < r.w.toNat := by omega
      have hb : b < r.h.toNat := by omega
      have e1' : y = b := e1.trans (by show ((b : Nat) : Int).toNat = b; omega)
      have e2' : j = r.w.toNat - 1 - a := e2.trans (by show (r.w - 1 - (a : Int)).toNat = _; omega)
      subst e1'
      refine ⟨by omega, hb, ?_⟩
      have hf := free_bit hr ha hb
      unfold qM at hq
      rw [hf] at hq
      rw [show r.w.toNat - 1 - j = a by omega]
      simpa using hq
  · rintro ⟨h1, h2, h3⟩
    have hf := free_bit hr (x := r.w.toNat - 1 - j) (y := y) (by omega) h2
    refine .inr ⟨⟨((r.w.toNat - 1 - j : Nat) : Int), (y : Int)⟩, List.mem_filter.mpr ⟨mem_cells (by omega) (by omega) (by omega) h2, ?_⟩, ?_, ?_⟩
    · unfold qM; rw [hf, h3]; rfl
    · show y = ((y : Nat) : Int).toNat; omega
    · show j = (r.w - 1 - ((r.w.toNat - 1 - j : Nat) : Int)).toNat; omega
theorem mirror_dims (r : Room) : (mirrorR r).w = r.w ∧ (mirrorR r).h = r.h := putWalls_dims _ _ _
theorem mirror_ok {r : Room} (hr : okRoom r) : okRoom (mirrorR r) := by
  obtain ⟨d1, d2⟩ := mirror_dims r
  exact ok_of (by rw [d1]; exact ⟨hr.1, hr.2.1⟩) (by rw [d2]; exact ⟨hr.2.2.1, hr.2.2.2.1⟩) fun y j _ h => by
    have := (mirror_bit hr y j).mp h
    rw [d1, d2]; exact ⟨this.1, this.2.1⟩
theorem ok_wf {r : Room} (hr : okRoom r) (h : rowsOk r.f) : wfRoom r := by
  have ⟨r1, r2, r3, r4, _⟩ := hr
  exact ⟨⟨by omega, by omega⟩, ⟨by omega, by omega⟩, h⟩
theorem mirror_wf {r : Room} (hr : okRoom r) : wfRoom (mirrorR r) := ok_wf (mirror_ok hr) (putWalls_rows (fun _ => (by decide : (0 : Nat) < 65536)) _)
theorem mirror_two {r : Room} (hr : okRoom r) : roomC (mirrorR (mirrorR r)) = roomC r := by
  obtain ⟨d1, d2⟩ := mirror_dims r
  obtain ⟨d3, d4⟩ := mirror_dims (mirrorR r)
  refine room_bits (d3.trans d1) (d4.trans d2) fun y j hy => ?_
  rw [mirror_bit (mirror_ok hr), mirror_bit hr, d1, d2]
  constructor
  · rintro ⟨h1, h2, h3, h4, h5⟩
    rwa [show r.w.toNat - 1 - (r.w.toNat - 1 - j) = j by omega] at h5
  · intro h
    obtain ⟨a, b⟩ := row_bits hr hy h
    refine ⟨by omega, by omega, by omega, by omega, ?_⟩
    rwa [show r.w.toNat - 1 - (r.w.toNat - 1 - j) = j by omega]

/-! Turned four times. -/
theorem turn_bit {r : Room} (hr : okRoom r) (y j : Nat) : ((turnR r).f y).testBit j = true ↔ j < r.h.toNat ∧ y < r.w.toNat ∧ (r.f (r.h.toNat - 1 - j)).testBit y = true := by
  have ⟨r1, r2, r3, r4, _⟩ := hr
  have dw : (zT r).w = r.h := rfl
  have dh : (zT r).h = r.w := rfl
  unfold turnR
  rw [putWalls_bit _ (fun _ => (by decide : (0 : Nat) < 65536)) (fun s hs => by
    have := mem_all (List.mem_filter.mp hs).1 (show 0 ≤ (zT r).w by omega) (show 0 ≤ (zT r).h by omega)
    show 0 ≤ s.x ∧ s.x < 10
    omega)]
  constructor
  · rintro (h | ⟨s, hs, e1, e2⟩)
    · exact absurd h (by show ¬ (0 : Nat).testBit j = true; rw [Nat.zero_testBit]; decide)
    · obtain ⟨hm, hq⟩ := List.mem_filter.mp hs
      obtain ⟨a, b, rfl, _, hab⟩ := mem_cellsTo hm
      have ha : a < r.h.toNat := by rw [dw, dh] at hab; omega
      have hb : b < r.w.toNat := by rw [dw, dh] at hab; omega
      have e1' : y = b := e1.trans (by show ((b : Nat) : Int).toNat = b; omega)
      have e2' : j = a := e2.trans (by show ((a : Nat) : Int).toNat = a; omega)
      subst e1'; subst e2'
      refine ⟨ha, hb, ?_⟩
      have hf := free_bit hr (x := y) (y := r.h.toNat - 1 - j) hb (by omega)
      have e : (⟨((⟨(j : Int), (y : Int)⟩ : Spot).y), r.h - 1 - (⟨(j : Int), (y : Int)⟩ : Spot).x⟩ : Spot) = ⟨(y : Int), ((r.h.toNat - 1 - j : Nat) : Int)⟩ := by
        show (⟨(y : Int), r.h - 1 - (j : Int)⟩ : Spot) = _
        congr 1; omega
      unfold qT at hq
      rw [e, hf] at hq
      simpa using hq
  · rintro ⟨h1, h2, h3⟩
    have hf := free_bit hr (x := y) (y := r.h.toNat - 1 - j) h2 (by omega)
    refine .inr ⟨⟨(j : Int), (y : Int)⟩, List.mem_filter.mpr ⟨mem_cells (r := zT r) (by omega) (by omega) (by rw [dw]; exact h1) (by rw [dh]; exact h2), ?_⟩, ?_, ?_⟩
    · have e : (⟨((⟨(j : Int), (y : Int)⟩ : Spot).y), r.h - 1 - (⟨(j : Int), (y : Int)⟩ : Spot).x⟩ : Spot) = ⟨(y : Int), ((r.h.toNat - 1 - j : Nat) : Int)⟩ := by
        show (⟨(y : Int), r.h - 1 - (j : Int)⟩ : Spot) = _
        congr 1; omega
      unfold qT; rw [e, hf, h3]; rfl
    · show y = ((y : Nat) : Int).toNat; omega
    · show j = ((j : Nat) : Int).toNat; omega
theorem turn_dims (r : Room) : (turnR r).w = r.h ∧ (turnR r).h = r.w := putWalls_dims _ _ _
theorem turn_ok {r : Room} (hr : okRoom r) : okRoom (turnR r) := by
  obtain ⟨d1, d2⟩ := turn_dims r
  exact ok_of (by rw [d1]; exact ⟨hr.2.2.1, hr.2.2.2.1⟩) (by rw [d2]; exact ⟨hr.1, hr.2.1⟩) fun y j _ h => by
    have := (turn_bit hr y j).mp h
    rw [d1, d2]; exact ⟨this.1, this.2.1⟩
theorem turn_wf {r : Room} (hr : okRoom r) : wfRoom (turnR r) := ok_wf (turn_ok hr) (putWalls_rows (fun _ => (by decide : (0 : Nat) < 65536)) _)
def turnK (r : Room) : Nat → Room
  | 0 => r
  | k + 1 => turnR (turnK r k)
theorem turnK_ok {r : Room} (hr : okRoom r) (hw : wfRoom r) : ∀ k, okRoom (turnK r k) ∧ wfRoom (turnK r k)
  | 0 => ⟨hr, hw⟩
  | k + 1 => ⟨turn_ok (turnK_ok hr hw k).1, turn_wf (turnK_ok hr hw k).1⟩
theorem turn_four {r : Room} (hr : okRoom r) : roomC (turnK r 4) = roomC r := by
  have ⟨r1, r2, r3, r4, _⟩ := hr
  have o1 := turn_ok hr
  have o2 := turn_ok o1
  have o3 := turn_ok o2
  obtain ⟨a1, b1⟩ := turn_dims r
  obtain ⟨a2, b2⟩ := turn_dims (turnR r)
  obtain ⟨a3, b3⟩ := turn_dims (turnR (turnR r))
  obtain ⟨a4, b4⟩ := turn_dims (turnR (turnR (turnR r)))
  have w1 : (turnR r).w.toNat = r.h.toNat := by rw [a1]
  have h1 : (turnR r).h.toNat = r.w.toNat := by rw [b1]
  have w2 : (turnR (turnR r)).w.toNat = r.w.toNat := by rw [a2, b1]
  have h2 : (turnR (turnR r)).h.toNat = r.h.toNat := by rw [b2, a1]
  have w3 : (turnR (turnR (turnR r))).w.toNat = r.h.toNat := by rw [a3, h2]
  have h3 : (turnR (turnR (turnR r))).h.toNat = r.w.toNat := by rw [b3, w2]
  refine room_bits (a4.trans (b3.trans (a2.trans b1))) (b4.trans (a3.trans (b2.trans a1))) fun y j hy => ?_
  show ((turnR (turnR (turnR (turnR r)))).f y).testBit j = true ↔ _
  rw [turn_bit o3, turn_bit o2, turn_bit o1, turn_bit hr, w3, h3, w2, h2, w1, h1]
  constructor
  · rintro ⟨p1, p2, p3, p4, p5, p6, p7, p8, p9⟩
    rwa [show r.h.toNat - 1 - (r.h.toNat - 1 - y) = y by omega, show r.w.toNat - 1 - (r.w.toNat - 1 - j) = j by omega] at p9
  · intro h
    obtain ⟨a, b⟩ := row_bits hr hy h
    refine ⟨by omega, by omega, by omega, by omega, by omega, by omega, by omega, by omega, ?_⟩
    rwa [show r.h.toNat - 1 - (r.h.toNat - 1 - y) = y by omega, show r.w.toNat - 1 - (r.w.toNat - 1 - j) = j by omega]

/-! Parts. -/
theorem parts_near {r : Room} {p : List Spot} (hp : p ∈ partsL r) {x : Spot} (hx : x ∈ p) : isFree r x ∧ nearL r x 100 = p := by
  have hok := parts_ok r (freeL r).length
  rw [parts_end (Nat.le_refl _)] at hok
  obtain ⟨a, ha, rfl⟩ := hok.near p hp
  have h1 := (mem_near ha).mp hx
  have hfx := reach_free ha h1
  refine ⟨hfx, ?_⟩
  unfold nearL
  refine List.filter_congr fun s _ => Bool.eq_iff_iff.mpr ?_
  rw [near_all hfx, near_all ha]
  exact ⟨fun h => reach_trans ha h1 h, fun h => reach_trans hfx (reach_symm ha h1) h⟩
theorem fold_mem {r : Room} {x : Spot} : ∀ (l : List Spot) (out : List (List Spot)), (x ∈ out.flatten ∨ (x ∈ l ∧ isFree r x)) → x ∈ (l.foldl (addP r) out).flatten
  | [], out, h => by rcases h with h | ⟨h, _⟩; exact h; cases h
  | y :: l, out, h => by
    rw [List.foldl_cons]
    refine fold_mem l _ ?_
    have key : ∀ z, z ∈ out.flatten → z ∈ (addP r out y).flatten := fun z hz => by
      unfold addP
      split
      · exact hz
      · rw [List.flatten_append]; exact List.mem_append_left _ hz
    rcases h with h | ⟨h, hf⟩
    · exact .inl (key x h)
    · rcases List.mem_cons.mp h with rfl | h
      · refine .inl ?_
        unfold addP
        split
        · rename_i h'; exact h'
        · rw [List.flatten_append]
          refine List.mem_append_right _ ?_
          simp only [List.flatten_cons, List.flatten_nil, List.append_nil]
          exact (mem_near hf).mpr (reach_self r x)
      · exact .inr ⟨h, hf⟩
theorem parts_mem {r : Room} {x : Spot} : x ∈ (partsL r).flatten ↔ x ∈ freeL r := by
  have hok := parts_ok r (freeL r).length
  rw [parts_end (Nat.le_refl _)] at hok
  exact ⟨fun h => mem_freeL (hok.clo x h).1, fun h => fold_mem _ _ (.inr ⟨h, free_mem h⟩)⟩
theorem parts_sum (r : Room) : (partsL r).flatten.length = (freeL r).length := by
  have hok := parts_ok r (freeL r).length
  rw [parts_end (Nat.le_refl _)] at hok
  exact ((List.perm_ext_iff_of_nodup hok.nodup ((cellsTo_nodup _ _ _).filter _)).mpr fun x => parts_mem).length_eq
theorem parts_some {r : Room} (h : ∃ s, isFree r s) : 1 ≤ (freeL r).length ∧ 1 ≤ (partsL r).length := by
  obtain ⟨s, hs⟩ := h
  have h1 := List.length_pos_of_mem (mem_freeL hs)
  refine ⟨h1, ?_⟩
  have := parts_mem.mpr (mem_freeL hs)
  rcases Nat.eq_zero_or_pos (partsL r).length with e | e
  · rw [List.eq_nil_of_length_eq_zero e] at this; cases this
  · exact e
theorem sum_step {out : List (List Spot)} {i : Nat} {p : List Spot} (h : out[i]? = some p) : (out.take i).flatten.length + p.length = (out.take (i + 1)).flatten.length := by
  rw [List.take_add_one, h, List.flatten_append, List.length_append]; simp
theorem sum_all {out : List (List Spot)} {i : Nat} (h : out.length ≤ i) : (out.take i).flatten.length = out.flatten.length := by rw [List.take_of_length_le h]

/-! A wall that is put and taken away. -/
theorem wall_back {r : Room} (hr : okRoom r) (hw : wfRoom r) {x : Spot} (hx : isFree r x) : roomC (wallR (wallR r x true) x false) = roomC r := by
  obtain ⟨c1, c2, c3, c4, c5, c6⟩ := hx.1
  have d1 := wallR_dims r x true
  have d2 := wallR_dims (wallR r x true) x false
  refine room_bits (d2.1.trans d1.1) (d2.2.trans d1.2) fun y j hy => ?_
  rw [wallR_bit (wallR_rows hw.2.2) ⟨c1, c3⟩, wallR_bit hw.2.2 ⟨c1, c3⟩]
  by_cases h : y = x.y.toNat ∧ j = x.x.toNat
  · rw [if_pos h]
    have := hx.2
    unfold bitAt at this
    rw [h.1, h.2, this]
  · rw [if_neg h, if_neg h]
theorem wall_not {r : Room} (hw : wfRoom r) {x : Spot} (hx : isFree r x) : ¬ isFree (wallR r x true) x := by
  obtain ⟨c1, c2, c3, c4, c5, c6⟩ := hx.1
  intro h
  have := h.2
  unfold bitAt at this
  rw [wallR_bit hw.2.2 ⟨c1, c3⟩, if_pos ⟨rfl, rfl⟩] at this
  cases this
theorem wall_cell {r : Room} {x : Spot} (h : isCell r x) (on : Bool) : isCell (wallR r x on) x := by
  have d := wallR_dims r x on
  unfold isCell at h ⊢
  rw [d.1, d.2]; exact h
theorem mem_get {α : Type} {l : List α} {x : α} : (∃ j, j < l.length ∧ l[j]? = some x) ↔ x ∈ l :=
  ⟨fun ⟨j, _, h⟩ => List.mem_of_getElem? h, fun h => by
    obtain ⟨j, hj⟩ := List.mem_iff_getElem?.mp h
    exact ⟨j, (List.getElem?_eq_some_iff.mp hj).1, hj⟩⟩
theorem has_narrow {r : Room} {x : Spot} (hx : isFree r x) : decide (((partsL r).length : Int) < ((partsL (wallR r x true)).length : Int)) = true ↔ ∃ j, j < (narrowL r).length ∧ (narrowL r)[j]? = some x := by
  rw [mem_get]
  unfold narrowL
  rw [List.mem_filter, narrow_at hx, decide_eq_true_iff, decide_eq_true_iff]
  exact ⟨fun h => ⟨mem_allCells hx.1, by omega⟩, fun h => by have := h.2; omega⟩
theorem has_beside {r : Room} {x : Spot} {k : Int} (h0 : 0 ≤ k) (h3 : k ≤ 3) : freeB r (nextSpot x k) = true ↔ ∃ j, j < (beside r x).length ∧ (beside r x)[j]? = some (nextSpot x k) := by
  rw [mem_get, mem_beside, freeB_iff]
  constructor
  · intro h
    refine ⟨k.toNat, by omega, ?_, h⟩
    rw [show ((k.toNat : Nat) : Int) = k by omega]
  · rintro ⟨_, _, _, h⟩; exact h
/-- Two rooms in which the same stands are equal. -/
theorem eqWallsT {P : Program} (d : Nat) {t e : TypeId} {i : TypeInfo} (hu : P.underlying t = some (.array 10 e)) (hi : P.info? e = some i) (he : P.underlying e = some (.int .u16)) (hc : P.cellsOf e = 1) (f : Nat → Nat) :
    ∀ w, (Op.equalIn (d + 2) t (.agg (wallsC f).toArray) (.agg (wallsC f).toArray)).run P w = .ok true w := by
  have key : ∀ is : List Nat, (∀ j ∈ is, j < 10) → ∀ w, (Op.eqItems (d + 1) e 1 (wallsC f).toArray (wallsC f).toArray is).run P w = .ok true w := by
    intro is
    induction is with
    | nil => exact fun _ w => by simp [Op.eqItems]
    | cons j is ih =>
      intro hj w
      have hb := ih (fun k hk => hj k (List.mem_cons_of_mem _ hk)) w
      have h1 := wallsC_at f j (hj j List.mem_cons_self)
      have px : ∀ w, (part e (wallsC f).toArray (j * 1)).run P w = .ok (.int .u16 (f j : Nat)) w := by
        intro w
        simp [part, isAgg, run_underlying he, h1]
      simp only [Op.eqItems, Sem.run_bind, px w, Result.andThen_ok, run_equalIn_int w d e .u16 .u16 _ _ he]
      simp_all
  intro w
  rw [run_equalIn_array w (d + 1) _ _ hu hi, hc]; exact key (List.range 10) (fun j hj => List.mem_range.mp hj) w
theorem sum_le (out : List (List Spot)) (i : Nat) : (out.take i).flatten.length ≤ out.flatten.length := by
  have h := congrArg (fun l : List (List Spot) => l.flatten.length) (List.take_append_drop i out)
  simp only [List.flatten_append, List.length_append] at h
  omega
theorem textR_size {r : Room} (h : okRoom r) : (textR r).size ≤ 120 := by
  have ⟨h1, h2, h3, h4, _⟩ := h
  unfold textR; rw [strOf_size]
  exact textTo_bnd _ (by omega) (by omega) (by omega)
theorem stood_it {r : Room} {a : Spot} (hr : okRoom r) (ha : isFree r a) : stoodC r a true 0 := .inr (.inr (.inr ⟨hr, ha.1, rfl, ha, rfl⟩))
/-- What the law of rooms holds while it goes on. -/
structure RAt (H G : AHeap) (r : Room) (pb : Nat) (u v w : Value) : Prop where
  same : Same H.next H G
  nx : H.next ≤ G.next
  b : G.blk pb = some (.cells (roomC r) 1)
  ss : SS G u (partsL r)
  f : Sl G spot 2 v (freeL r)
  n : Sl G spot 2 w (narrowL r)
theorem RAt.mono {H G K : AHeap} {r : Room} {pb : Nat} {u v w : Value} (h : RAt H G r pb u v w) (hs : Same G.next G K) (hn : G.next ≤ K.next) : RAt H K r pb u v w :=
  ⟨h.same.trans hs h.nx, Nat.le_trans h.nx hn, (hs pb (AHeap.lt h.b)).trans h.b, h.ss.mono hs, h.f.mono hs, h.n.mono hs⟩
theorem has_wall {r : Room} {x : Spot} {n : Nat} (hx : isFree r x) (hn : n = (partsL r).length) : decide (x ∈ narrowL r) = decide ((n : Int) < ((partsL (wallR r x true)).length : Int)) := by
  subst hn
  exact Bool.eq_iff_iff.mpr (by rw [has_narrow hx, mem_get, decide_eq_true_iff])
theorem has_side {r : Room} {x : Spot} {k : Int} (h0 : 0 ≤ k) (h3 : k ≤ 3) : decide (nextSpot x k ∈ beside r x) = freeB r (nextSpot x k) :=
  Bool.eq_iff_iff.mpr (by rw [has_beside h0 h3, mem_get, decide_eq_true_iff])
theorem u8_wf {n : Int} (h : (Lit.int .u8 n).wf = true) : 0 ≤ n ∧ n ≤ 255 := by
  simp [Lit.wf, IntKind.min, IntKind.max, IntKind.signed, IntKind.bits] at h
  omega
end Go.AW
