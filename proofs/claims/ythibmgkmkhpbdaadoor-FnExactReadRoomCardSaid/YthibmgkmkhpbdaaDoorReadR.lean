/- Rooms that are read from texts. -/
import Derived.Test.YthibmgkmkhpbdaaDoorRoom3
import Derived.Test.YthibmgkmkhpbdaaDoorCut
namespace Go.AW
open Go
set_option linter.unusedVariables false

def tb (n : Int) : UInt8 := UInt8.ofNat n.toNat
theorem strOf_data (ns : List Int) : (strOf ns).data.toList = ns.map tb := by
  have : ∀ (l : List Int) (s : ByteArray), (l.foldl (fun r n => r.push (UInt8.ofNat n.toNat)) s).data.toList = s.data.toList ++ l.map tb := by
    intro l
    induction l with
    | nil => intro s; simp
    | cons a l ih => intro s; rw [List.foldl_cons, ih, ByteArray.data_push, Array.toList_push, List.append_assoc]; rfl
  exact this ns ByteArray.empty
def lineR (r : Room) (y : Nat) : List UInt8 := (rowCells y r.w.toNat).map fun s => tb (signB r s)
theorem textTo_split (sg : Spot → Int) (w y x : Nat) : textTo sg w y x = textTo sg w y 0 ++ (rowCells y x).map sg := by
  cases y with
  | zero => rfl
  | succ y => show _ ++ _ = (_ ++ List.map sg (rowCells (y + 1) 0)) ++ _; rw [show rowCells (y + 1) 0 = [] from rfl, List.map_nil, List.append_nil]
theorem textTo_rows (r : Room) (y : Nat) : (textTo (signB r) r.w.toNat y 0).map tb = (List.range y).flatMap fun k => lineR r k ++ [10] := by
  induction y with
  | zero => rfl
  | succ y ih =>
    rw [textTo_row, textTo_split, List.map_append, List.map_append, ih, List.range_succ, List.flatMap_append, List.flatMap_singleton, List.append_assoc, List.map_map]
    rfl
theorem textR_data (r : Room) : (textR r).data.toList = (List.range r.h.toNat).flatMap fun k => lineR r k ++ [10] := by
  unfold textR; rw [strOf_data, textTo_rows]
theorem sign_cases (r : Room) (s : Spot) : (freeB r s = true ∧ tb (signB r s) = 46) ∨ (freeB r s = false ∧ tb (signB r s) = 35) := by
  unfold signB
  cases h : freeB r s
  · exact .inr ⟨rfl, rfl⟩
  · exact .inl ⟨rfl, rfl⟩
theorem line_no (r : Room) (y : Nat) : (10 : UInt8) ∉ lineR r y := by
  intro h
  obtain ⟨s, _, e⟩ := List.mem_map.mp h
  rcases sign_cases r s with ⟨_, q⟩ | ⟨_, q⟩ <;> rw [q] at e <;> exact absurd e (by decide)
theorem line_len (r : Room) (y : Nat) : (lineR r y).length = r.w.toNat := by simp [lineR, rowCells]
theorem line_at (r : Room) (y : Nat) {x : Nat} (hx : x < r.w.toNat) : (lineR r y)[x]? = some (tb (signB r ⟨(x : Int), (y : Int)⟩)) := by
  unfold lineR rowCells
  rw [List.map_map, List.getElem?_map, List.getElem?_range hx]; rfl
/-- The pieces of a room's text. -/
def linesR (r : Room) : List ByteArray := (List.range r.h.toNat).map (fun k => ofL (lineR r k)) ++ [ofL []]
theorem pcs_text (r : Room) : pcs 10 (textR r) = linesR r := by
  unfold pcs linesR
  have h := cutL_rows (c := 10) (L := lineR r) (last := []) (by simp) (List.range r.h.toNat) fun k _ => line_no r k
  rw [List.append_nil] at h
  rw [textR_data, h, List.map_append, List.map_map]; rfl
theorem lines_len (r : Room) : (linesR r).length = r.h.toNat + 1 := by simp [linesR]
theorem lines_at (r : Room) {y : Nat} (hy : y < r.h.toNat) : (linesR r)[y]? = some (ofL (lineR r y)) := by
  unfold linesR
  rw [List.getElem?_append_left (by rw [List.length_map, List.length_range]; exact hy), List.getElem?_map, List.getElem?_range hy]; rfl
theorem lines_last (r : Room) : (linesR r)[r.h.toNat]? = some (ofL []) := by
  unfold linesR
  rw [List.getElem?_append_right (by simp)]; simp
theorem ofL_size (l : List UInt8) : (ofL l).size = l.length := by rw [ba_size, ofL_data]

/-- The byte of a piece. -/
def byteP (P : List ByteArray) (x y : Nat) : Option UInt8 := P[y]?.bind fun p => p[x]?
theorem byteP_of {P : List ByteArray} {x y : Nat} {p : ByteArray} (hp : P[y]? = some p) : byteP P x y = p[x]? := by unfold byteP; rw [hp]; rfl
def sharpB (P : List ByteArray) (x y : Nat) : Bool := byteP P x y == some 35
theorem byteP_lines (r : Room) {x y : Nat} (hx : x < r.w.toNat) (hy : y < r.h.toNat) : byteP (linesR r) x y = some (tb (signB r ⟨(x : Int), (y : Int)⟩)) := by
  rw [byteP_of (lines_at r hy), ba_get, ofL_data, line_at r y hx]
/-- The walls that are put by the pieces' bytes ahead of (x, y). -/
def bitsTo (P : List ByteArray) (w y x : Nat) (R : Room) : Prop :=
  rowsOk R.f ∧ ∀ y' j, (R.f y').testBit j = (decide (j < w ∧ (y' < y ∨ (y' = y ∧ j < x))) && sharpB P j y')
theorem bitsTo_init (P : List ByteArray) (w : Nat) (a b : Int) : bitsTo P w 0 0 ⟨a, b, fun _ => 0⟩ :=
  ⟨fun _ => (by decide : (0 : Nat) < 65536), fun y' j => by
    show (0 : Nat).testBit j = _
    rw [Nat.zero_testBit, decide_eq_false (by omega)]; rfl⟩
theorem bitsTo_yes {P : List ByteArray} {w y x : Nat} {R : Room} (h : bitsTo P w y x R) (hb : byteP P x y = some 35) (hx : x < w) (hw : w ≤ 10) : bitsTo P w y (x + 1) (wallR R ⟨(x : Int), (y : Int)⟩ true) := by
  refine ⟨wallR_rows h.1, fun y' j => ?_⟩
  rw [wallR_bit h.1 (by show 0 ≤ (x : Int) ∧ (x : Int) < 10; omega)]
  show (if y' = ((y : Nat) : Int).toNat ∧ j = ((x : Nat) : Int).toNat then true else _) = _
  rw [Int.toNat_natCast, Int.toNat_natCast]
  by_cases e : y' = y ∧ j = x
  · obtain ⟨rfl, rfl⟩ := e
    rw [if_pos ⟨rfl, rfl⟩, decide_eq_true (by omega)]
    unfold sharpB; rw [hb]; rfl
  · rw [if_neg e, h.2]
    congr 1
    exact decide_eq_decide.mpr (by omega)
theorem bitsTo_no {P : List ByteArray} {w y x : Nat} {R : Room} (h : bitsTo P w y x R) (hb : byteP P x y ≠ some 35) : bitsTo P w y (x + 1) R := by
  refine ⟨h.1, fun y' j => ?_⟩
  rw [h.2]
  by_cases e : y' = y ∧ j = x
  · obtain ⟨rfl, rfl⟩ := e
    have : sharpB P j y' = false := by unfold sharpB; exact beq_eq_false_iff_ne.mpr hb
    rw [this, Bool.and_false, Bool.and_false]
  · congr 1
    exact decide_eq_decide.mpr (by omega)
theorem bitsTo_row {P : List ByteArray} {w y x : Nat} {R : Room} (h : bitsTo P w y x R) (hx : ∀ j, x ≤ j → j < w → byteP P j y ≠ some 35) : bitsTo P w (y + 1) 0 R := by
  refine ⟨h.1, fun y' j => ?_⟩
  rw [h.2]
  by_cases e : y' = y ∧ x ≤ j ∧ j < w
  · obtain ⟨rfl, e1, e2⟩ := e
    have : sharpB P j y' = false := by unfold sharpB; exact beq_eq_false_iff_ne.mpr (hx j e1 e2)
    rw [this, Bool.and_false, Bool.and_false]
  · congr 1
    exact decide_eq_decide.mpr (by omega)
theorem bitsTo_ok {P : List ByteArray} {w h : Nat} {R : Room} (hb : bitsTo P w h 0 R) (e1 : R.w = w) (e2 : R.h = h) (h1 : 1 ≤ w) (h2 : w ≤ 10) (h3 : 1 ≤ h) (h4 : h ≤ 10) : okRoom R := by
  refine ⟨by omega, by omega, by omega, by omega, fun y _ => ⟨?_, fun hy => ?_⟩⟩
  · rw [e1, Int.toNat_natCast]
    refine Nat.lt_pow_two_of_testBit _ fun i hi => ?_
    rw [hb.2, decide_eq_false (by omega)]; rfl
  · refine Nat.eq_of_testBit_eq fun j => ?_
    rw [hb.2, decide_eq_false (by omega), Nat.zero_testBit]; rfl
theorem bitsTo_wf {P : List ByteArray} {w h y x : Nat} {R : Room} (hb : bitsTo P w y x R) (e1 : R.w = w) (e2 : R.h = h) (h2 : w ≤ 10) (h4 : h ≤ 10) : wfRoom R := ⟨⟨by omega, by omega⟩, ⟨by omega, by omega⟩, hb.1⟩
theorem free_bit {r : Room} (hr : okRoom r) {x y : Nat} (hx : x < r.w.toNat) (hy : y < r.h.toNat) : freeB r ⟨(x : Int), (y : Int)⟩ = !((r.f y).testBit x) := by
  obtain ⟨r1, r2, r3, r4, _⟩ := hr
  have hc : isCell r ⟨(x : Int), (y : Int)⟩ := by
    show 0 ≤ (x : Int) ∧ (x : Int) < r.w ∧ (x : Int) < 10 ∧ 0 ≤ (y : Int) ∧ (y : Int) < r.h ∧ (y : Int) < 10
    omega
  have hb : bitAt r.f ⟨(x : Int), (y : Int)⟩ = (r.f y).testBit x := by
    show (r.f ((y : Nat) : Int).toNat).testBit ((x : Nat) : Int).toNat = _
    rw [Int.toNat_natCast, Int.toNat_natCast]
  cases hq : (r.f y).testBit x
  · exact (freeB_iff _ _).mpr ⟨hc, by rw [hb, hq]⟩
  · cases hf : freeB r ⟨(x : Int), (y : Int)⟩
    · rfl
    · have := ((freeB_iff _ _).mp hf).2
      rw [hb, hq] at this; cases this
/-- What is read from a room's text is the room. -/
theorem bitsTo_back {r R : Room} (hr : okRoom r) (hb : bitsTo (linesR r) r.w.toNat r.h.toNat 0 R) (e1 : R.w = r.w) (e2 : R.h = r.h) : roomC R = roomC r := by
  refine roomC_congr e1 e2 fun y hy => Nat.eq_of_testBit_eq fun j => ?_
  rw [hb.2]
  have hrow := hr.2.2.2.2 y hy
  by_cases h : j < r.w.toNat ∧ y < r.h.toNat
  · rw [decide_eq_true (by omega), Bool.true_and]
    have hf := free_bit hr h.1 h.2
    unfold sharpB
    rw [byteP_lines r h.1 h.2]
    rcases sign_cases r ⟨(j : Int), (y : Int)⟩ with ⟨q1, q2⟩ | ⟨q1, q2⟩
    · rw [q2]; rw [q1] at hf
      cases hk : (r.f y).testBit j
      · rfl
      · rw [hk] at hf; cases hf
    · rw [q2]; rw [q1] at hf
      cases hk : (r.f y).testBit j
      · rw [hk] at hf; cases hf
      · rfl
  · rw [decide_eq_false (by omega), Bool.false_and]
    by_cases h2 : y < r.h.toNat
    · exact (Nat.testBit_lt_two_pow (Nat.lt_of_lt_of_le hrow.1 (Nat.pow_le_pow_right (by decide) (by omega)))).symm
    · rw [hrow.2 (by have := hr.2.2.1; omega), Nat.zero_testBit]
/-- Pieces that are fine ahead of (x, y). -/
def fineTo (P : List ByteArray) (w y x : Nat) : Prop :=
  (∀ y', y' < y → ∃ p, P[y']? = some p ∧ p.size = w) ∧ ∀ y' j, (y' < y ∧ j < w) ∨ (y' = y ∧ j < x) → byteP P j y' = some 46 ∨ byteP P j y' = some 35
theorem fineTo_init (P : List ByteArray) (w : Nat) : fineTo P w 0 0 := ⟨fun y' h => by omega, fun y' j h => by omega⟩
theorem fineTo_step {P : List ByteArray} {w y x : Nat} (h : fineTo P w y x) (hb : byteP P x y = some 46 ∨ byteP P x y = some 35) : fineTo P w y (x + 1) := by
  refine ⟨h.1, fun y' j hj => ?_⟩
  by_cases e : y' = y ∧ j = x
  · obtain ⟨rfl, rfl⟩ := e; exact hb
  · exact h.2 y' j (by omega)
theorem fineTo_row {P : List ByteArray} {w y : Nat} {p : ByteArray} (h : fineTo P w y w) (hp : P[y]? = some p) (hs : p.size = w) : fineTo P w (y + 1) 0 := by
  refine ⟨fun y' hy => ?_, fun y' j hj => h.2 y' j (by omega)⟩
  by_cases e : y' = y
  · subst e; exact ⟨p, hp, hs⟩
  · exact h.1 y' (by omega)
/-- A text whose pieces are fine is the text of the room that is read from it. -/
theorem fine_text {t : ByteArray} {w h : Nat} {R : Room} {last : ByteArray} (hb : bitsTo (pcs 10 t) w h 0 R) (hf : fineTo (pcs 10 t) w h 0) (e1 : R.w = w) (e2 : R.h = h) (h1 : 1 ≤ w) (h2 : w ≤ 10) (h3 : 1 ≤ h) (h4 : h ≤ 10)
    (hl : (pcs 10 t).length = h + 1) (hz : (pcs 10 t)[h]? = some last) (h0 : last.size = 0) : textR R = t := by
  have hr := bitsTo_ok hb e1 e2 h1 h2 h3 h4
  have ew : R.w.toNat = w := by omega
  have eh : R.h.toNat = h := by omega
  have key : pcs 10 t = linesR R := by
    refine List.ext_getElem? fun y => ?_
    rcases Nat.lt_trichotomy y h with hy | rfl | hy
    · obtain ⟨p, hp, hs⟩ := hf.1 y hy
      rw [hp, lines_at R (by omega)]
      congr 1
      rw [← ofL_of p]
      congr 1
      refine List.ext_getElem? fun j => ?_
      by_cases hj : j < w
      · have hq := hf.2 y j (.inl ⟨hy, hj⟩)
        have hsg : ∀ b, byteP (pcs 10 t) j y = some b → p.data.toList[j]? = some b := fun b hb => by rw [← ba_get, ← byteP_of hp]; exact hb
        rw [line_at R y (by omega)]
        have hbit := hb.2 y j
        rw [decide_eq_true (by omega), Bool.true_and] at hbit
        have hfr := free_bit hr (x := j) (y := y) (by omega) (by omega)
        rcases hq with hq | hq
        · rw [hsg _ hq]
          have : sharpB (pcs 10 t) j y = false := by unfold sharpB; rw [hq]; rfl
          rw [hbit, this] at hfr
          rcases sign_cases R ⟨(j : Int), (y : Int)⟩ with ⟨_, q2⟩ | ⟨q1, _⟩
          · rw [q2]
          · rw [q1] at hfr; cases hfr
        · rw [hsg _ hq]
          have : sharpB (pcs 10 t) j y = true := by unfold sharpB; rw [hq]; rfl
          rw [hbit, this] at hfr
          rcases sign_cases R ⟨(j : Int), (y : Int)⟩ with ⟨q1, _⟩ | ⟨_, q2⟩
          · rw [q1] at hfr; cases hfr
          · rw [q2]
      · rw [List.getElem?_eq_none (by rw [← ba_size]; omega), List.getElem?_eq_none (by rw [line_len]; omega)]
    · rw [hz, ← eh, lines_last]
      congr 1
      rw [← ofL_of last]
      congr 1
      exact List.eq_nil_of_length_eq_zero (by rw [← ba_size]; exact h0)
    · rw [List.getElem?_eq_none (by omega), List.getElem?_eq_none (by rw [lines_len]; omega)]
  obtain ⟨ps, p, k1, k2, _⟩ := cutL_join 10 t.data.toList
  have hcut : cutL 10 t.data.toList = (List.range R.h.toNat).map (lineR R) ++ [[]] := by
    have : (cutL 10 t.data.toList).map ofL = ((List.range R.h.toNat).map (lineR R) ++ [[]]).map ofL := by
      rw [List.map_append, List.map_map]; exact key
    have := congrArg (List.map fun b : ByteArray => b.data.toList) this
    rw [List.map_map, List.map_map] at this
    have hid : ∀ z : List (List UInt8), z.map ((fun b : ByteArray => b.data.toList) ∘ ofL) = z := fun z => List.map_id'' (f := (fun b : ByteArray => b.data.toList) ∘ ofL) (fun x => rfl) z
    rw [hid, hid] at this
    exact this
  rw [hcut] at k1
  obtain ⟨k3, k4⟩ := List.append_inj' k1 rfl
  simp only [List.cons.injEq, and_true] at k4
  subst k4
  rw [← ofL_of t, ← ofL_of (textR R), textR_data, k2, ← k3, List.append_nil, List.flatMap_map]
def hasR (t : ByteArray) : Prop := ∃ r, okRoom r ∧ wfRoom r ∧ textR r = t
end Go.AW
