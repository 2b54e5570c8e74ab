/- Rooms in blocks: reading and writing their rows. -/
import Derived.Test.YtlcfmbaeaieomaaDoorStr
import Derived.ChangeKeysEq
namespace Go.AW
open Go
set_option linter.unusedVariables false

section
variable {P : Program} {ρ : Operand → Value} {H : AHeap} {d : Option Tmp} {ty : TypeId} {pos : String} {aft : Array Edge} {g : Option (Nat × Bool)}
theorem ao_loadp {t : TypeId} {x : Operand} {b o n : Nat} {k : ABlk} {cs ds : List Value} (ht : ∀ w, (isAgg t).run P w = .ok true w) (hn : ∀ w, (sizeOf t).run P w = .ok n w)
    (hx : ρ x = .pointer (some ⟨b, o, none⟩)) (hk : H.blk b = some k) (hr : k.rd = some cs) (hl : o + n ≤ cs.length) (hd : (cs.drop o).take n = ds) :
    AOd P ⟨d, .load t x, ty, pos, aft, g⟩ ρ H (.agg ds.toArray) H := by
  subst hd; exact ao_loads ht hn hx hk hr hl
end

theorem roomL (r : Room) (y : Nat) (hy : y < 10) : (roomC r)[0 + 2 + ((y : Nat) : Int).toNat * 1]? = some (.int .u16 (r.f y : Nat)) := by
  rw [Int.toNat_natCast, Nat.mul_one, Nat.zero_add]; exact roomC_at r y hy
theorem roomLI (r : Room) (y : Int) (hy : y.toNat < 10) : (roomC r)[0 + 2 + y.toNat * 1]? = some (.int .u16 (r.f y.toNat : Nat)) := by
  rw [Nat.mul_one, Nat.zero_add]; exact roomC_at r _ hy
theorem wallsL (f : Nat → Nat) (y : Nat) (hy : y < 10) : (wallsC f)[0 + ((y : Nat) : Int).toNat * 1]? = some (.int .u16 (f y : Nat)) := by
  rw [Int.toNat_natCast, Nat.mul_one, Nat.zero_add]; exact wallsC_at f y hy
theorem wallsA (f : Nat → Nat) (y : Nat) (hy : y < 10) : (wallsC f).toArray[y]? = some (.int .u16 (f y : Nat)) := by
  rw [List.getElem?_toArray]; exact wallsC_at f y hy
/-- The first i rows. -/
def upto (f : Nat → Nat) (i : Nat) : Nat → Nat := fun j => if j < i then f j else 0
theorem upto_put (f : Nat → Nat) (i : Nat) (hi : i < 10) : (wallsC (upto f i)).set (0 + ((i : Nat) : Int).toNat * 1) (.int .u16 (f i : Nat)) = wallsC (upto f (i + 1)) := by
  rw [Int.toNat_natCast, Nat.mul_one, Nat.zero_add, wallsC_put _ _ _ hi]
  refine wallsC_congr fun y _ => ?_
  unfold putF upto
  by_cases h : y = i
  · rw [if_pos h, if_pos (by omega), h]
  · rw [if_neg h]
    by_cases h2 : y < i
    · rw [if_pos h2, if_pos (by omega)]
    · rw [if_neg h2, if_neg (by omega)]
theorem upto_all (f : Nat → Nat) : wallsC (upto f 10) = wallsC f := wallsC_congr fun y hy => if_pos hy
def sameRoom (r s : Room) : Prop := roomC r = roomC s
instance (r s : Room) : Decidable (sameRoom r s) := by
  have : sameRoom r s ↔ r.w = s.w ∧ r.h = s.h ∧ ∀ y, y < 10 → r.f y = s.f y := ⟨roomC_ext, fun ⟨a, b, c⟩ => roomC_congr a b c⟩
  exact decidable_of_iff _ this.symm
theorem walls_step {f g : Nat → Nat} {i : Nat} (h : ∀ j, j < i → f j = g j) (e : f i = g i) : ∀ j, j < i + 1 → f j = g j := by
  intro j hj
  rcases Nat.lt_or_ge j i with h1 | h1
  · exact h j h1
  · rw [show j = i by omega]; exact e
theorem roomC_walls {r s : Room} (h1 : r.w = s.w) (h2 : r.h = s.h) (h3 : wallsC r.f = wallsC s.f) : roomC r = roomC s := by
  refine roomC_congr h1 h2 ?_
  unfold wallsC at h3
  simp only [List.cons.injEq, Value.int.injEq, true_and, and_true, Int.ofNat_inj] at h3
  obtain ⟨a0, a1, a2, a3, a4, a5, a6, a7, a8, a9⟩ := h3
  exact ten (p := fun y => r.f y = s.f y) a0 a1 a2 a3 a4 a5 a6 a7 a8 a9
/-- Rows that are compared: some answer. -/
theorem eqWallsB {P : Program} (d : Nat) {t e : TypeId} {i : TypeInfo} (hu : P.underlying t = some (.array 10 e)) (hi : P.info? e = some i) (he : P.underlying e = some (.int .u16)) (hc : P.cellsOf e = 1) (f g : Nat → Nat) :
    ∃ b, ∀ w, (Op.equalIn (d + 2) t (.agg (wallsC f).toArray) (.agg (wallsC g).toArray)).run P w = .ok b w := by
  have key : ∀ is : List Nat, (∀ j ∈ is, j < 10) → ∃ b, ∀ w, (Op.eqItems (d + 1) e 1 (wallsC f).toArray (wallsC g).toArray is).run P w = .ok b w := by
    intro is
    induction is with
    | nil => exact fun _ => ⟨true, fun w => by simp [Op.eqItems]⟩
    | cons j is ih =>
      intro hj
      obtain ⟨b, hb⟩ := ih fun k hk => hj k (List.mem_cons_of_mem _ hk)
      have h1 := wallsC_at f j (hj j List.mem_cons_self)
      have h2 := wallsC_at g j (hj j List.mem_cons_self)
      have px : ∀ (f : Nat → Nat) w, (wallsC f)[j]? = some (.int .u16 (f j : Nat)) → (part e (wallsC f).toArray (j * 1)).run P w = .ok (.int .u16 (f j : Nat)) w := by
        intro f w h
        simp [part, isAgg, run_underlying he, h]
      refine ⟨((f j : Int) == (g j : Int)) && b, fun w => ?_⟩
      simp only [Op.eqItems, Sem.run_bind, px f w h1, px g w h2, Result.andThen_ok, run_equalIn_int w d e .u16 .u16 _ _ he]
      cases hq : ((f j : Int) == (g j : Int))
      · simp_all
      · simp_all
  obtain ⟨b, hb⟩ := key (List.range 10) fun j hj => List.mem_range.mp hj
  exact ⟨b, fun w => by rw [run_equalIn_array w (d + 1) _ _ hu hi, hc]; exact hb w⟩

/-! Bits that are set and cleared. -/
theorem bitsNV (op : BinOp) (a b : Int) : Value.int .u16 (bitsOf op .u16 a b) = .int .u16 (((bitsOf op .u16 a b).toNat : Nat) : Int) := by
  have : 0 ≤ bitsOf op .u16 a b := by
    have h : ∀ n : Nat, 0 ≤ IntKind.u16.wrap (n : Int) := fun n => by show (0 : Int) ≤ (n : Int) % 65536; omega
    unfold bitsOf
    cases op <;> exact h _
  congr 1; omega
theorem bitsNLt (op : BinOp) (a b : Int) : (bitsOf op .u16 a b).toNat < 65536 := by
  have h : ∀ n : Nat, (IntKind.u16.wrap (n : Int)).toNat < 65536 := fun n => by show ((n : Int) % 65536).toNat < 65536; omega
  unfold bitsOf
  cases op <;> exact h _
theorem shl16 (n : Int) (h0 : 0 ≤ n) (h1 : n < 16) : Value.int .u16 (IntKind.u16.wrap ((1 : Int) * 2 ^ (min n.toNat IntKind.u16.bits))) = .int .u16 ((2 ^ n.toNat : Nat) : Int) := by
  have e : min n.toNat IntKind.u16.bits = n.toNat := by show min n.toNat 16 = _; omega
  have h2 : 2 ^ n.toNat < 65536 := by
    calc 2 ^ n.toNat < 2 ^ 16 := Nat.pow_lt_pow_right (by decide) (by omega)
      _ = 65536 := by decide
  rw [e, Int.one_mul]
  have e2 : ((2 : Int) ^ n.toNat) = ((2 ^ n.toNat : Nat) : Int) := by norm_cast
  rw [e2]
  congr 1
  exact nw (Int.natCast_nonneg _) (by show ((2 ^ n.toNat : Nat) : Int) ≤ (65535 : Int); omega)
def clr (a x : Nat) : Nat := (bitsOf .andNot .u16 (a : Int) ((2 ^ x : Nat) : Int)).toNat
def setb (a x : Nat) : Nat := (bitsOf .or .u16 (a : Int) ((2 ^ x : Nat) : Int)).toNat
def wallR (r : Room) (s : Spot) (on : Bool) : Room :=
  let r1 := r.put s.y.toNat (clr (r.f s.y.toNat) s.x.toNat)
  if on then r1.put s.y.toNat (setb (r1.f s.y.toNat) s.x.toNat) else r1
theorem roomC_putI (r : Room) (y : Int) (v : Nat) (hy : y.toNat < 10) : (roomC r).set (0 + 2 + y.toNat * 1) (.int .u16 (v : Int)) = roomC (r.put y.toNat v) := by
  rw [Nat.mul_one, Nat.zero_add]; exact roomC_put r _ v hy
theorem rows_put {r : Room} (h : rowsOk r.f) {y v : Nat} (hv : v < 65536) : rowsOk (r.put y v).f := by
  intro j
  show (if j = y then v else r.f j) < 65536
  split
  · exact hv
  · exact h j
theorem wallR_wf {r : Room} {s : Spot} {on : Bool} (h : wfRoom r) : wfRoom (wallR r s on) := by
  unfold wallR
  cases on
  · exact ⟨h.1, h.2.1, rows_put h.2.2 (bitsNLt _ _ _)⟩
  · exact ⟨h.1, h.2.1, rows_put (rows_put h.2.2 (bitsNLt _ _ _)) (bitsNLt _ _ _)⟩
theorem bit_or (a x j : Nat) (ha : a < 65536) (hx : x < 16) : (setb a x).testBit j = (a.testBit j || decide (j = x)) := by
  have h2 : 2 ^ x < 65536 := by
    calc 2 ^ x < 2 ^ 16 := Nat.pow_lt_pow_right (by decide) hx
      _ = 65536 := by decide
  have e : setb a x = a ||| 2 ^ x := by
    unfold setb bitsOf
    show (IntKind.u16.wrap ((BitVec.ofInt 16 (a : Int) ||| BitVec.ofInt 16 ((2 ^ x : Nat) : Int)).toNat : Int)).toNat = _
    have e1 : (BitVec.ofInt 16 (a : Int) ||| BitVec.ofInt 16 ((2 ^ x : Nat) : Int)).toNat = a ||| 2 ^ x := by
      rw [BitVec.toNat_or]
      have q1 : (BitVec.ofInt 16 (a : Int)).toNat = a := by simp; omega
      have q2 : (BitVec.ofInt 16 ((2 ^ x : Nat) : Int)).toNat = 2 ^ x := by rw [BitVec.ofInt_natCast, BitVec.toNat_ofNat, Nat.mod_eq_of_lt h2]
      rw [q1, q2]
    have hlt : a ||| 2 ^ x < 2 ^ 16 := Nat.or_lt_two_pow (by omega) (by omega)
    rw [e1, nw (by show (0 : Int) ≤ _; omega) (by show _ ≤ (65535 : Int); omega), Int.toNat_natCast]
  rw [e, Nat.testBit_or, Nat.testBit_two_pow]
  congr 1
  exact decide_eq_decide.mpr eq_comm
theorem bit_clr (a x j : Nat) (ha : a < 65536) (hx : x < 16) : (clr a x).testBit j = (a.testBit j && !decide (j = x)) := by
  have h2 : 2 ^ x < 65536 := by
    calc 2 ^ x < 2 ^ 16 := Nat.pow_lt_pow_right (by decide) hx
      _ = 65536 := by decide
  have q1 : (BitVec.ofInt 16 (a : Int)).toNat = a := by simp; omega
  have q2 : (BitVec.ofInt 16 ((2 ^ x : Nat) : Int)).toNat = 2 ^ x := by rw [BitVec.ofInt_natCast, BitVec.toNat_ofNat, Nat.mod_eq_of_lt h2]
  have e : clr a x = (BitVec.ofInt 16 (a : Int) &&& ~~~ (BitVec.ofInt 16 ((2 ^ x : Nat) : Int))).toNat := by
    unfold clr bitsOf
    show (IntKind.u16.wrap ((BitVec.ofInt 16 (a : Int) &&& ~~~ (BitVec.ofInt 16 ((2 ^ x : Nat) : Int))).toNat : Int)).toNat = _
    have := (BitVec.ofInt 16 (a : Int) &&& ~~~ (BitVec.ofInt 16 ((2 ^ x : Nat) : Int))).isLt
    rw [nw (by show (0 : Int) ≤ _; omega) (by show _ ≤ (65535 : Int); omega), Int.toNat_natCast]
  rw [e, BitVec.testBit_toNat, BitVec.getLsbD_and, BitVec.getLsbD_not]
  have g1 : (BitVec.ofInt 16 (a : Int)).getLsbD j = a.testBit j := by rw [← BitVec.testBit_toNat, q1]
  have g2 : (BitVec.ofInt 16 ((2 ^ x : Nat) : Int)).getLsbD j = decide (j = x) := by
    rw [← BitVec.testBit_toNat, q2, Nat.testBit_two_pow]
    exact decide_eq_decide.mpr eq_comm
  rw [g1, g2]
  by_cases hj : j < 16
  · simp [hj]
  · have : a.testBit j = false := Nat.testBit_lt_two_pow (Nat.lt_of_lt_of_le (show a < 2 ^ 16 by omega) (Nat.pow_le_pow_right (by decide) (by omega)))
    simp [this]

theorem minV (w : Int) : Value.int .i64 (if (10 : Int) < w then 10 else w) = .int .i64 (min w 10) := by
  congr 1
  rw [Int.min_def]
  split <;> split <;> omega
theorem ends0n {P : Program} {fn : Func} {R : Value → AHeap → Prop} {fr : AFr} {H : AHeap} (hr : fn.results = #[]) (hR : R (.tuple #[]) H) : Ends P fn R .normal fr H := by
  have := ends0 (P := P) (fr := fr) hr hR
  exact this
theorem ACd.val {P : Program} {f : FuncId} {args : List Value} {H H' : AHeap} {v v' : Value} (h : ACd P f args H v H') (e : v = v') : ACd P f args H v' H' := e ▸ h
theorem vrl_room (r : Room) (β : Bt) : VRL β (roomC r) (roomC r) := vrl_plain (z := .agg (roomC r).toArray) rfl
instance (r : Room) (s : Spot) : Decidable (isCell r s) := by unfold isCell; exact inferInstance
instance (r : Room) (s : Spot) : Decidable (isFree r s) := by unfold isFree; exact inferInstance
def freeB (r : Room) (s : Spot) : Bool := decide (isFree r s)
theorem freeB_iff (r : Room) (s : Spot) : freeB r s = true ↔ isFree r s := decide_eq_true_iff
def freeL (r : Room) : List Spot := (allCells r).filter (freeB r)
theorem filter_len (r : Room) (p : Spot → Bool) (h1 : r.w ≤ 10) (h2 : r.h ≤ 10) : ((allCells r).filter p).length ≤ 100 := by
  refine Nat.le_trans (List.length_filter_le _ _) ?_
  unfold allCells
  rw [cellsTo_len]
  have : r.w.toNat * r.h.toNat ≤ 10 * 10 := Nat.mul_le_mul (by omega) (by omega)
  omega
theorem filter_lenTo (w y x : Nat) (p : Spot → Bool) (h1 : w ≤ 10) (h2 : y ≤ 10) (h3 : x ≤ 10) : ((cellsTo w y x).filter p).length ≤ 110 := by
  refine Nat.le_trans (List.length_filter_le _ _) ?_
  rw [cellsTo_len]
  have : w * y ≤ 10 * 10 := Nat.mul_le_mul h1 h2
  omega
theorem filter_yes {w y x : Nat} {p : Spot → Bool} (h : p ⟨(x : Nat), (y : Nat)⟩ = true) : (cellsTo w y (x + 1)).filter p = (cellsTo w y x).filter p ++ [⟨(x : Nat), (y : Nat)⟩] := by
  rw [cellsTo_succ, List.filter_append, List.filter_cons_of_pos h]; rfl
theorem filter_no {w y x : Nat} {p : Spot → Bool} (h : p ⟨(x : Nat), (y : Nat)⟩ = false) : (cellsTo w y (x + 1)).filter p = (cellsTo w y x).filter p := by
  rw [cellsTo_succ, List.filter_append, List.filter_cons_of_neg (by rw [h]; simp), List.filter_nil, List.append_nil]

/-! Codes. -/
def firstNZ : List Int → Int
  | [] => 0
  | x :: t => if x = 0 then firstNZ t else x
theorem firstNZ_hit {l : List Int} {i : Nat} {x : Int} (h : firstNZ l = firstNZ (l.drop i)) (hx : l[i]? = some x) (h0 : x ≠ 0) : x = firstNZ l := by
  obtain ⟨hi, e⟩ := List.getElem?_eq_some_iff.mp hx
  rw [h, List.drop_eq_getElem_cons hi, e]
  show x = if x = 0 then _ else x
  rw [if_neg h0]
theorem firstNZ_step {l : List Int} {i : Nat} {x : Int} (h : firstNZ l = firstNZ (l.drop i)) (hx : l[i]? = some x) (h0 : x = 0) : firstNZ l = firstNZ (l.drop (i + 1)) := by
  obtain ⟨hi, e⟩ := List.getElem?_eq_some_iff.mp hx
  rw [h, List.drop_eq_getElem_cons hi, e]
  show (if x = 0 then _ else x) = _
  rw [if_pos h0]
theorem firstNZ_end {l : List Int} {i : Nat} (h : firstNZ l = firstNZ (l.drop i)) (hi : l.length ≤ i) : 0 = firstNZ l := by
  rw [h, List.drop_eq_nil_of_le hi]; rfl
/-- The code of a room and cells. -/
def cellC (r : Room) (l : List Spot) (c : Int) : Prop := (¬ okRoom r ∧ c = 1) ∨ (okRoom r ∧ (∃ j : Nat, j < l.length ∧ ∃ s, l[j]? = some s ∧ ¬ isCell r s) ∧ c = 2) ∨ (okRoom r ∧ (¬ ∃ j : Nat, j < l.length ∧ ∃ s, l[j]? = some s ∧ ¬ isCell r s) ∧ c = 0)
def stateC (r : Room) (l : List Spot) (c : Int) : Prop := ((∃ j : Nat, j < l.length ∧ ∃ s, l[j]? = some s ∧ ¬ isFree r s) ∧ c = 4) ∨ ((¬ ∃ j : Nat, j < l.length ∧ ∃ s, l[j]? = some s ∧ ¬ isFree r s) ∧ c = 0)
def askC (r : Room) (s : Spot) (fine : Bool) (c : Int) : Prop := (¬ okRoom r ∧ c = 1) ∨ (okRoom r ∧ ¬ (isCell r s ∧ fine = true) ∧ c = 2) ∨ (okRoom r ∧ isCell r s ∧ fine = true ∧ c = 0)
def stoodC (r : Room) (s : Spot) (fine : Bool) (c : Int) : Prop := (¬ okRoom r ∧ c = 1) ∨ (okRoom r ∧ ¬ (isCell r s ∧ fine = true) ∧ c = 2) ∨ (okRoom r ∧ isCell r s ∧ fine = true ∧ ¬ isFree r s ∧ c = 4) ∨ (okRoom r ∧ isCell r s ∧ fine = true ∧ isFree r s ∧ c = 0)
open Classical in
theorem exists_cellC (r : Room) (l : List Spot) : ∃ c, cellC r l c := by
  unfold cellC
  by_cases h : okRoom r
  · by_cases h2 : ∃ j : Nat, j < l.length ∧ ∃ s, l[j]? = some s ∧ ¬ isCell r s
    · exact ⟨2, .inr (.inl ⟨h, h2, rfl⟩)⟩
    · exact ⟨0, .inr (.inr ⟨h, h2, rfl⟩)⟩
  · exact ⟨1, .inl ⟨h, rfl⟩⟩
open Classical in
theorem exists_stateC (r : Room) (l : List Spot) : ∃ c, stateC r l c := by
  unfold stateC
  by_cases h2 : ∃ j : Nat, j < l.length ∧ ∃ s, l[j]? = some s ∧ ¬ isFree r s
  · exact ⟨4, .inl ⟨h2, rfl⟩⟩
  · exact ⟨0, .inr ⟨h2, rfl⟩⟩
open Classical in
theorem exists_askC (r : Room) (s : Spot) (fine : Bool) : ∃ c, askC r s fine c := by
  unfold askC
  by_cases h : okRoom r
  · by_cases h2 : isCell r s ∧ fine = true
    · exact ⟨0, .inr (.inr ⟨h, h2.1, h2.2, rfl⟩)⟩
    · exact ⟨2, .inr (.inl ⟨h, h2, rfl⟩)⟩
  · exact ⟨1, .inl ⟨h, rfl⟩⟩
open Classical in
theorem exists_stoodC (r : Room) (s : Spot) (fine : Bool) : ∃ c, stoodC r s fine c := by
  unfold stoodC
  by_cases h : okRoom r
  · by_cases h2 : isCell r s ∧ fine = true
    · by_cases h3 : isFree r s
      · exact ⟨0, .inr (.inr (.inr ⟨h, h2.1, h2.2, h3, rfl⟩))⟩
      · exact ⟨4, .inr (.inr (.inl ⟨h, h2.1, h2.2, h3, rfl⟩))⟩
    · exact ⟨2, .inr (.inl ⟨h, h2, rfl⟩)⟩
  · exact ⟨1, .inl ⟨h, rfl⟩⟩
theorem one_spot {s : Spot} {p : Spot → Prop} : (∃ j : Nat, j < [s].length ∧ ∃ x, [s][j]? = some x ∧ p x) ↔ p s := by
  constructor
  · rintro ⟨j, hj, x, hx, hp⟩
    obtain rfl : j = 0 := by simp at hj; omega
    simp at hx; subst hx; exact hp
  · exact fun h => ⟨0, by simp, s, rfl, h⟩
theorem ask_cell {r : Room} {s : Spot} {c : Int} (h : askC r s true c) : cellC r [s] c := by
  unfold cellC
  rw [one_spot (p := fun x => ¬ isCell r x)]
  rcases h with h | ⟨h1, h2, h3⟩ | ⟨h1, h2, _, h3⟩
  · exact .inl h
  · exact .inr (.inl ⟨h1, fun e => h2 ⟨e, rfl⟩, h3⟩)
  · exact .inr (.inr ⟨h1, fun e => e h2, h3⟩)
/-- What the program asks, one behind the other, is what the reference asks. -/
theorem stood_first {r : Room} {s : Spot} {fine : Bool} {c c1 c2 c3 : Int} (h : stoodC r s fine c) (h1 : cellC r [s] c1) (h2 : c2 = if fine = true then 0 else 2) (h3 : stateC r [s] c3) : firstNZ [c1, c2, c3] = c := by
  unfold cellC at h1
  unfold stateC at h3
  rw [one_spot (p := fun x => ¬ isCell r x)] at h1
  rw [one_spot (p := fun x => ¬ isFree r x)] at h3
  rcases h with ⟨a, e⟩ | ⟨a, b, e⟩ | ⟨a, b, f, g, e⟩ | ⟨a, b, f, g, e⟩ <;> subst e
  · rcases h1 with ⟨_, e⟩ | ⟨q, _⟩ | ⟨q, _⟩
    · subst e; rfl
    · exact absurd q a
    · exact absurd q a
  · rcases h1 with ⟨q, _⟩ | ⟨_, _, e⟩ | ⟨_, q, e⟩
    · exact absurd a q
    · subst e; rfl
    · subst e
      have : ¬ fine = true := fun hf => b ⟨Classical.not_not.mp q, hf⟩
      rw [if_neg this] at h2; subst h2; rfl
  · rcases h1 with ⟨q, _⟩ | ⟨_, q, e⟩ | ⟨_, q, e⟩
    · exact absurd a q
    · exact absurd b q
    · subst e
      rw [if_pos f] at h2; subst h2
      rcases h3 with ⟨_, e⟩ | ⟨q, _⟩
      · subst e; rfl
      · exact absurd g q
  · rcases h1 with ⟨q, _⟩ | ⟨_, q, e⟩ | ⟨_, q, e⟩
    · exact absurd a q
    · exact absurd b q
    · subst e
      rw [if_pos f] at h2; subst h2
      rcases h3 with ⟨q, _⟩ | ⟨_, e⟩
      · exact absurd g q
      · subst e; rfl
theorem stood_first2 {r : Room} {s : Spot} {c c1 c3 : Int} (h : stoodC r s true c) (h1 : cellC r [s] c1) (h3 : stateC r [s] c3) : firstNZ [c1, c3] = c := by
  have := stood_first h h1 (c2 := 0) rfl h3
  rw [← this]
  show (if c1 = 0 then (if c3 = 0 then 0 else c3) else c1) = (if c1 = 0 then (if (0 : Int) = 0 then (if c3 = 0 then 0 else c3) else 0) else c1)
  rw [if_pos (rfl : (0 : Int) = 0)]

def mkSpot (k : Int) (n : Nat) : List Spot := (List.range n).map fun (j : Nat) => ⟨IntKind.i8.wrap (k + 2 * j), IntKind.i8.wrap (k + 2 * j + 1)⟩
theorem mkSpot_at {k : Int} {n i : Nat} (h : i < n) : (mkSpot k n)[i]? = some ⟨IntKind.i8.wrap (k + 2 * i), IntKind.i8.wrap (k + 2 * i + 1)⟩ := by
  simp [mkSpot, List.getElem?_range h]
theorem mkSpot_get {k : Int} {n i : Nat} {x : Spot} (h : (mkSpot k n)[i]? = some x) : x = ⟨IntKind.i8.wrap (k + 2 * i), IntKind.i8.wrap (k + 2 * i + 1)⟩ := by
  have hi := (List.getElem?_eq_some_iff.mp h).1
  rw [mkSpot_at (by simpa [mkSpot] using hi)] at h
  cases h; rfl
theorem mkSpot_len (k : Int) (n : Nat) : (mkSpot k n).length = n := by simp [mkSpot]
theorem spot_set2 {z : List Spot} {i : Nat} {a b : Int} (h : i < z.length) :
    ((fl spot z).set (0 + ((i : Nat) : Int).toNat * 2 + 0) (.int .i8 a)).set (0 + ((i : Nat) : Int).toNat * 2 + 1) (.int .i8 b) = fl spot (z.set i ⟨a, b⟩) := by
  rw [fl_setz spot_len ⟨a, z[i].y⟩ (get_some h) (by decide) rfl, fl_setz spot_len ⟨a, b⟩ (x := ⟨a, z[i].y⟩) (by rw [List.getElem?_set_self h]) (by decide) rfl, List.set_set]
end Go.AW
