/- Files out of texts. -/
import Derived.Test.YtlcfmbaeaieomaaDoorNum
namespace Go.AW
open Go
set_option linter.unusedVariables false

/-- The place of a letter among n, e, s, w, or -1. -/
def lt4 (b : UInt8) : Int := if b = 110 then 0 else if b = 101 then 1 else if b = 115 then 2 else if b = 119 then 3 else -1
def lt4At (b : UInt8) (j : Nat) : Prop := neswB[j]? = some b
theorem lt4_at {b c : UInt8} {j : Nat} (h : neswB[j]? = some c) : lt4At b j ↔ c = b := by unfold lt4At; rw [h]; simp
theorem lt4_cases (b : UInt8) : b = 110 ∨ b = 101 ∨ b = 115 ∨ b = 119 ∨ (b ≠ 110 ∧ b ≠ 101 ∧ b ≠ 115 ∧ b ≠ 119) := by
  by_cases h0 : b = 110
  · exact .inl h0
  by_cases h1 : b = 101
  · exact .inr (.inl h1)
  by_cases h2 : b = 115
  · exact .inr (.inr (.inl h2))
  by_cases h3 : b = 119
  · exact .inr (.inr (.inr (.inl h3)))
  exact .inr (.inr (.inr (.inr ⟨h0, h1, h2, h3⟩)))
theorem lt4_none {b : UInt8} (h : b ≠ 110 ∧ b ≠ 101 ∧ b ≠ 115 ∧ b ≠ 119) : lt4 b = -1 := by
  obtain ⟨h0, h1, h2, h3⟩ := h
  unfold lt4; rw [if_neg h0, if_neg h1, if_neg h2, if_neg h3]
theorem at4_lt {j : Nat} (h : j < 4) : ∃ c, neswB[j]? = some c ∧ (c = 110 ∨ c = 101 ∨ c = 115 ∨ c = 119) := by
  match j, h with
  | 0, _ => exact ⟨110, rfl, by simp⟩
  | 1, _ => exact ⟨101, rfl, by simp⟩
  | 2, _ => exact ⟨115, rfl, by simp⟩
  | 3, _ => exact ⟨119, rfl, by simp⟩
theorem lt4_first (b : UInt8) : firstAt (lt4At b) 4 (lt4 b) := by
  rcases lt4_cases b with rfl | rfl | rfl | rfl | h
  · exact .inr ⟨0, by omega, rfl, rfl, fun j hj => by omega⟩
  · exact .inr ⟨1, by omega, rfl, rfl, fun j hj => by match j, hj with | 0, _ => exact fun e => absurd ((lt4_at (c := 110) rfl).mp e) (by decide)⟩
  · exact .inr ⟨2, by omega, rfl, rfl, fun j hj => by match j, hj with | 0, _ => exact fun e => absurd ((lt4_at (c := 110) rfl).mp e) (by decide) | 1, _ => exact fun e => absurd ((lt4_at (c := 101) rfl).mp e) (by decide)⟩
  · exact .inr ⟨3, by omega, rfl, rfl, fun j hj => by match j, hj with | 0, _ => exact fun e => absurd ((lt4_at (c := 110) rfl).mp e) (by decide) | 1, _ => exact fun e => absurd ((lt4_at (c := 101) rfl).mp e) (by decide) | 2, _ => exact fun e => absurd ((lt4_at (c := 115) rfl).mp e) (by decide)⟩
  · refine .inl ⟨lt4_none h, fun j hj e => ?_⟩
    obtain ⟨c, hc, hcs⟩ := at4_lt hj
    have := (lt4_at hc).mp e
    subst this
    obtain ⟨h0, h1, h2, h3⟩ := h
    rcases hcs with e | e | e | e <;> contradiction
theorem firstIdx_lt4 (b : UInt8) : firstIdx neswB b = lt4 b := by
  rcases lt4_cases b with rfl | rfl | rfl | rfl | h
  · decide
  · decide
  · decide
  · decide
  · rw [lt4_none h]
    unfold firstIdx
    have : ((List.range neswB.size).find? fun i => neswB[i]! == b) = none := by
      rw [List.find?_eq_none]
      intro j hj
      have hj' : j < 4 := List.mem_range.mp hj
      obtain ⟨h0, h1, h2, h3⟩ := h
      match j, hj' with
      | 0, _ => exact fun e => h0 (eq_of_beq e).symm
      | 1, _ => exact fun e => h1 (eq_of_beq e).symm
      | 2, _ => exact fun e => h2 (eq_of_beq e).symm
      | 3, _ => exact fun e => h3 (eq_of_beq e).symm
    rw [this]
theorem ofL_size (l : List UInt8) : (ofL l).size = l.length := by rw [ba_size, ofL_data]
theorem lt4_bnd (b : UInt8) : -1 ≤ lt4 b ∧ lt4 b ≤ 3 := by
  rcases lt4_first b with ⟨h, _⟩ | ⟨k, h1, h2, _⟩ <;> omega
/-- The letter of a place. -/
theorem lt4_ltr {b : UInt8} (h : 0 ≤ lt4 b) : UInt8.ofNat (ltr4 (lt4 b)).toNat = b := by
  rcases lt4_cases b with rfl | rfl | rfl | rfl | q
  · rfl
  · rfl
  · rfl
  · rfl
  · rw [lt4_none q] at h; omega
theorem ltr_lt4 {k : Int} (h0 : 0 ≤ k) (h3 : k ≤ 3) : lt4 (UInt8.ofNat (ltr4 k).toNat) = k := by
  obtain rfl | rfl | rfl | rfl : k = 0 ∨ k = 1 ∨ k = 2 ∨ k = 3 := by omega
  all_goals rfl

/-- Where one stands behind i steps that a text tells. -/
def posTo (s0 : Spot) (w : ByteArray) : Nat → Spot
  | 0 => s0
  | i + 1 => nextSpot (posTo s0 w i) (lt4 ((w[i]?).getD 0))
def pathTo (s0 : Spot) (w : ByteArray) (n : Nat) : List Spot := (List.range (n + 1)).map (posTo s0 w)
theorem path_len (s0 : Spot) (w : ByteArray) (n : Nat) : (pathTo s0 w n).length = n + 1 := by simp [pathTo]
theorem path_at (s0 : Spot) (w : ByteArray) {n i : Nat} (h : i ≤ n) : (pathTo s0 w n)[i]? = some (posTo s0 w i) := by
  unfold pathTo; rw [List.getElem?_map, List.getElem?_range (by omega)]; rfl
theorem path_succ (s0 : Spot) (w : ByteArray) (n : Nat) : pathTo s0 w (n + 1) = pathTo s0 w n ++ [posTo s0 w (n + 1)] := by
  unfold pathTo; rw [List.range_succ, List.map_append]; rfl
theorem pos_succ {s0 : Spot} {w : ByteArray} {i : Nat} {b : UInt8} (h : w[i]? = some b) : posTo s0 w (i + 1) = nextSpot (posTo s0 w i) (lt4 b) := by
  show nextSpot _ (lt4 ((w[i]?).getD 0)) = _; rw [h]; rfl
theorem wrapB8 (n : Int) : -128 ≤ IntKind.i8.wrap n ∧ IntKind.i8.wrap n ≤ 127 := by
  unfold IntKind.wrap
  simp [IntKind.bits, IntKind.signed]
  split <;> omega
theorem wf_next' {s : Spot} (h : wfSpot s) (k : Int) : wfSpot (nextSpot s k) := by
  unfold nextSpot
  split
  · exact ⟨h.1, wrapB8 _⟩
  · split
    · exact ⟨wrapB8 _, h.2⟩
    · split
      · exact ⟨h.1, wrapB8 _⟩
      · split
        · exact ⟨wrapB8 _, h.2⟩
        · exact h
theorem pos_wf {s0 : Spot} (h : wfSpot s0) (w : ByteArray) (i : Nat) : wfSpot (posTo s0 w i) := by
  induction i with
  | zero => exact h
  | succ i ih => exact wf_next' ih _
theorem path_wf {s0 : Spot} (h : wfSpot s0) (w : ByteArray) (n : Nat) : wfSpots (pathTo s0 w n) := by
  intro i x hx
  have hi : i ≤ n := by have := (List.getElem?_eq_some_iff.mp hx).1; rw [path_len] at this; omega
  rw [path_at s0 w hi] at hx; cases hx; exact pos_wf h w i
theorem next_side {s : Spot} {k : Int} (h : wfSpot s) (h0 : 0 ≤ k) (h3 : k ≤ 3) : sideOf s (nextSpot s k) = k := by
  have inc : ∀ n : Int, -128 ≤ n → n ≤ 127 → IntKind.i8.wrap (n + 1) ≠ n ∧ IntKind.i8.wrap (n - 1) ≠ n ∧ IntKind.i8.wrap (n + 1) ≠ IntKind.i8.wrap (n - 1) := by
    intro n a b
    unfold IntKind.wrap
    simp [IntKind.bits, IntKind.signed]
    split <;> split <;> omega
  obtain ⟨x1, x2, x3⟩ := inc s.x h.1.1 h.1.2
  obtain ⟨y1, y2, y3⟩ := inc s.y h.2.1 h.2.2
  have e0 : nextSpot s 0 = ⟨s.x, IntKind.i8.wrap (s.y - 1)⟩ := rfl
  have e1 : nextSpot s 1 = ⟨IntKind.i8.wrap (s.x + 1), s.y⟩ := rfl
  have e2 : nextSpot s 2 = ⟨s.x, IntKind.i8.wrap (s.y + 1)⟩ := rfl
  have e3 : nextSpot s 3 = ⟨IntKind.i8.wrap (s.x - 1), s.y⟩ := rfl
  unfold sideOf
  obtain rfl | rfl | rfl | rfl : k = 0 ∨ k = 1 ∨ k = 2 ∨ k = 3 := by omega
  · rw [if_pos rfl]
  · rw [if_neg (by rw [e0, e1]; intro e; injection e with e _; exact x1 e.symm), if_pos rfl]
  · rw [if_neg (by rw [e0, e2]; intro e; injection e with _ e; exact y3 e.symm), if_neg (by rw [e1, e2]; intro e; injection e with e _; exact x1 e), if_pos rfl]
  · rw [if_neg (by rw [e0, e3]; intro e; injection e with e _; exact x2 e.symm), if_neg (by rw [e1, e3]; intro e; injection e with e _; exact x3 e), if_neg (by rw [e2, e3]; intro e; injection e with e _; exact x2 e.symm), if_pos rfl]
theorem side_next {a b : Spot} (h : 0 ≤ sideOf a b) : nextSpot a (sideOf a b) = b := by
  rcases sideOf_first a b with ⟨e, _⟩ | ⟨k, _, e, hk, _⟩
  · omega
  · rw [e]; exact hk

/-- The letters of the first k steps. -/
def lsF (l : List Spot) (k : Nat) : List Int := (List.range k).map fun i => ltr4 (sideOf (at_ l i) (at_ l (i + 1)))
def hdF (l : List Spot) : List Int := [48 + (at_ l 0).x, 44, 48 + (at_ l 0).y]
theorem ftx_form (l : List Spot) (k : Nat) : ftx l k = hdF l ++ (if k = 0 then [] else 32 :: lsF l k) := by
  induction k with
  | zero => show _ = hdF l ++ []; rw [List.append_nil]; rfl
  | succ k ih =>
    show ftx l k ++ (if k = 0 then [32] else []) ++ [ltr4 (sideOf (at_ l k) (at_ l (k + 1)))] = _
    rw [ih, if_neg (Nat.succ_ne_zero k)]
    unfold lsF
    rw [List.range_succ, List.map_append]
    by_cases h : k = 0
    · subst h; simp
    · rw [if_neg h, if_neg h]; simp
def ls8 (l : List Spot) : List UInt8 := (lsF l (l.length - 1)).map fun n => UInt8.ofNat n.toNat
def hd8 (l : List Spot) : List UInt8 := (strOf [48 + (at_ l 0).x]).data.toList ++ 44 :: (strOf [48 + (at_ l 0).y]).data.toList
theorem strOf_data' (ns : List Int) : (strOf ns).data.toList = ns.map (fun n => UInt8.ofNat n.toNat) := by
  have : ∀ (l : List Int) (s : ByteArray), (l.foldl (fun r n => r.push (UInt8.ofNat n.toNat)) s).data.toList = s.data.toList ++ l.map (fun n => UInt8.ofNat n.toNat) := by
    intro l
    induction l with
    | nil => intro s; simp
    | cons a l ih => intro s; rw [List.foldl_cons, ih, ByteArray.data_push, Array.toList_push, List.append_assoc]; rfl
  exact this ns ByteArray.empty
theorem fileTx_data (l : List Spot) : (fileTx l).data.toList = hd8 l ++ (if l.length - 1 = 0 then [] else 32 :: ls8 l) := by
  unfold fileTx hd8 ls8
  rw [strOf_data', ftx_form, List.map_append, strOf_data', strOf_data']
  by_cases h : l.length - 1 = 0
  · rw [if_pos h, if_pos h]; rfl
  · rw [if_neg h, if_neg h]; rfl
theorem dig_ne {n : Int} (h0 : 0 ≤ n) (h9 : n ≤ 9) : ∃ b : UInt8, (strOf [48 + n]).data.toList = [b] ∧ b ≠ 32 ∧ b ≠ 44 := by
  rcases ten_cases h0 h9 with rfl | rfl | rfl | rfl | rfl | rfl | rfl | rfl | rfl | rfl
  · exact ⟨48, rfl, by decide, by decide⟩
  · exact ⟨49, rfl, by decide, by decide⟩
  · exact ⟨50, rfl, by decide, by decide⟩
  · exact ⟨51, rfl, by decide, by decide⟩
  · exact ⟨52, rfl, by decide, by decide⟩
  · exact ⟨53, rfl, by decide, by decide⟩
  · exact ⟨54, rfl, by decide, by decide⟩
  · exact ⟨55, rfl, by decide, by decide⟩
  · exact ⟨56, rfl, by decide, by decide⟩
  · exact ⟨57, rfl, by decide, by decide⟩
theorem hd_no {l : List Spot} (h : inB (at_ l 0)) : (32 : UInt8) ∉ hd8 l ∧ (44 : UInt8) ∉ (strOf [48 + (at_ l 0).x]).data.toList ∧ (44 : UInt8) ∉ (strOf [48 + (at_ l 0).y]).data.toList := by
  obtain ⟨b, e1, n1, n2⟩ := dig_ne h.1.1 h.1.2
  obtain ⟨c, e2, n3, n4⟩ := dig_ne h.2.1 h.2.2
  unfold hd8
  rw [e1, e2]
  simp only [List.mem_append, List.mem_cons, List.not_mem_nil, or_false]
  exact ⟨fun q => by rcases q with q | q | q; exact n1 q.symm; exact absurd q (by decide); exact n3 q.symm, fun q => n2 q.symm, fun q => n4 q.symm⟩
theorem ls_no (l : List Spot) : (32 : UInt8) ∉ ls8 l := by
  intro h
  obtain ⟨n, hn, e⟩ := List.mem_map.mp h
  obtain ⟨i, _, rfl⟩ := List.mem_map.mp hn
  have key : ∀ k : Int, UInt8.ofNat (ltr4 k).toNat ≠ 32 := by
    intro k
    unfold ltr4
    split
    · decide
    · split
      · decide
      · split <;> decide
  exact key _ e
theorem ls8_len (l : List Spot) : (ls8 l).length = l.length - 1 := by simp [ls8, lsF]
theorem ls8_at {l : List Spot} {i : Nat} (h : i < l.length - 1) : (ls8 l)[i]? = some (UInt8.ofNat (ltr4 (sideOf (at_ l i) (at_ l (i + 1)))).toNat) := by
  unfold ls8 lsF
  rw [List.map_map, List.getElem?_map, List.getElem?_range h]; rfl
/-- A file is the path that its text tells. -/
theorem path_back {l : List Spot} (h : plainF l) {w : ByteArray} (hw : w.data.toList = ls8 l) : pathTo (at_ l 0) w (l.length - 1) = l := by
  have h1 := h.1.2.1
  have key : ∀ i, i < l.length → posTo (at_ l 0) w i = at_ l i := by
    intro i
    induction i with
    | zero => intro _; rfl
    | succ i ih =>
      intro hi
      obtain ⟨x, hx⟩ := get_lt (show i < l.length by omega)
      obtain ⟨y, hy⟩ := get_lt hi
      obtain ⟨s0, s3⟩ := plain_step h hx hy
      have hb : w[i]? = some (UInt8.ofNat (ltr4 (sideOf x y)).toNat) := by rw [ba_get, hw, ls8_at (by omega), at_get hx, at_get hy]
      rw [pos_succ hb, ih (by omega), at_get hx, at_get hy, ltr_lt4 s0 s3]
      exact side_next s0
  refine List.ext_getElem? fun i => ?_
  by_cases hi : i < l.length
  · obtain ⟨x, hx⟩ := get_lt hi
    rw [path_at _ _ (by omega), key i hi, hx, at_get hx]
  · rw [List.getElem?_eq_none (by rw [path_len]; omega), List.getElem?_eq_none (by omega)]
/-- What a path's text is. -/
theorem path_text {s0 : Spot} (hs : wfSpot s0) {w : ByteArray} {n : Nat} (hn : n = w.size) (hv : ∀ i b, i < n → w[i]? = some b → 0 ≤ lt4 b) :
    (fileTx (pathTo s0 w n)).data.toList = (strOf [48 + s0.x]).data.toList ++ 44 :: (strOf [48 + s0.y]).data.toList ++ (if n = 0 then [] else 32 :: w.data.toList) := by
  have e0 : at_ (pathTo s0 w n) 0 = s0 := at_get (path_at s0 w (Nat.zero_le _))
  have el : (pathTo s0 w n).length - 1 = n := by rw [path_len]; omega
  have e8 : ls8 (pathTo s0 w n) = w.data.toList := by
    refine List.ext_getElem? fun i => ?_
    by_cases hi : i < n
    · obtain ⟨b, hb⟩ := strAt (t := w) (i := i) (by omega)
      rw [ls8_at (by omega), at_get (path_at s0 w (by omega)), at_get (path_at s0 w (by omega)), pos_succ hb, next_side (pos_wf hs w i) (hv i b hi hb) (lt4_bnd b).2, lt4_ltr (hv i b hi hb), ← ba_get, hb]
    · rw [List.getElem?_eq_none (by rw [ls8_len]; omega), List.getElem?_eq_none (by rw [← ba_size]; omega)]
  rw [fileTx_data, el, e8]
  unfold hd8
  rw [e0]

/-! strings.Cut at one byte. -/
def cutY (c : UInt8) (s : ByteArray) : ByteArray := if Lib.indexByte s.data.toList c = -1 then s else s.extract 0 (Lib.indexByte s.data.toList c).toNat
def cutZ (c : UInt8) (s : ByteArray) : ByteArray := if Lib.indexByte s.data.toList c = -1 then ⟨#[]⟩ else s.extract ((Lib.indexByte s.data.toList c).toNat + 1) s.size
theorem cut_miss {c : UInt8} {s : ByteArray} (h : c ∉ s.data.toList) : cutY c s = s ∧ cutZ c s = ⟨#[]⟩ := by
  have := indexByte_miss h
  exact ⟨if_pos this, if_pos this⟩
theorem ofL_eq {t : ByteArray} {l : List UInt8} (h : t.data.toList = l) : t = ofL l := by rw [← h, ofL_of]
theorem cut_hit {c : UInt8} {s : ByteArray} {p r : List UInt8} (hs : s.data.toList = p ++ c :: r) (h : c ∉ p) : cutY c s = ofL p ∧ cutZ c s = ofL r := by
  have hi := indexByte_hit (l := r) h
  rw [← hs] at hi
  have hne : ¬ Lib.indexByte s.data.toList c = -1 := by rw [hi]; omega
  refine ⟨?_, ?_⟩
  · unfold cutY; rw [if_neg hne, hi, Int.toNat_natCast]
    refine ofL_eq ?_
    rw [extract_toL, hs]; simp
  · unfold cutZ; rw [if_neg hne, hi, Int.toNat_natCast]
    refine ofL_eq ?_
    rw [extract_toL, ba_size, List.take_length, hs, show p ++ c :: r = (p ++ [c]) ++ r by simp]
    exact List.drop_left' (by simp)
theorem index_bnd (c : UInt8) (l : List UInt8) : -1 ≤ Lib.indexByte l c ∧ Lib.indexByte l c < l.length ∨ Lib.indexByte l c = -1 := by
  by_cases h : c ∈ l
  · obtain ⟨p, r, rfl, hp⟩ := List.eq_append_cons_of_mem h
    rw [indexByte_hit hp]
    exact .inl ⟨by omega, by simp; omega⟩
  · exact .inr (indexByte_miss h)
theorem cutY_size (c : UInt8) (s : ByteArray) : (cutY c s).size ≤ s.size := by
  unfold cutY
  split
  · exact Nat.le_refl _
  · rw [ByteArray.size_extract]; omega
theorem cutZ_size (c : UInt8) (s : ByteArray) : (cutZ c s).size ≤ s.size := by
  unfold cutZ
  split
  · exact Nat.zero_le _
  · rw [ByteArray.size_extract]; omega
theorem cutY_no {c : UInt8} {s : ByteArray} (h : Lib.indexByte s.data.toList c < 0) : cutY c s = s ∧ cutZ c s = ⟨#[]⟩ := by
  have : Lib.indexByte s.data.toList c = -1 := by rcases index_bnd c s.data.toList with q | q <;> omega
  exact ⟨if_pos this, if_pos this⟩
theorem cutY_yes {c : UInt8} {s : ByteArray} (h : 0 ≤ Lib.indexByte s.data.toList c) : cutY c s = s.extract 0 (Lib.indexByte s.data.toList c).toNat ∧ cutZ c s = s.extract ((Lib.indexByte s.data.toList c).toNat + 1) s.size := by
  exact ⟨if_neg (by omega), if_neg (by omega)⟩

/-! Numbers in the program. -/
def numIs (s : ByteArray) (a : Int) (one : Bool) : Prop := (one = true ∧ 0 ≤ a ∧ a ≤ 9 ∧ s = strOf [48 + a]) ∨ (one = false ∧ a = 0 ∧ noDig s)
open Classical in
theorem exists_num (s : ByteArray) : ∃ a one, numIs s a one := by
  by_cases h : ∃ n : Int, 0 ≤ n ∧ n ≤ 9 ∧ s = strOf [48 + n]
  · obtain ⟨n, h0, h9, e⟩ := h
    exact ⟨n, true, .inl ⟨rfl, h0, h9, e⟩⟩
  · exact ⟨0, false, .inr ⟨rfl, rfl, fun n h0 h9 e => h ⟨n, h0, h9, e⟩⟩⟩
theorem numIs_bnd {s : ByteArray} {a : Int} {one : Bool} (h : numIs s a one) : 0 ≤ a ∧ a ≤ 9 := by
  rcases h with ⟨_, h0, h9, _⟩ | ⟨_, rfl, _⟩
  · exact ⟨h0, h9⟩
  · exact ⟨by decide, by decide⟩
theorem numIs_size {s : ByteArray} {a : Int} (h : numIs s a true) : s.size = 1 := by
  rcases h with ⟨_, h0, h9, rfl⟩ | ⟨e, _⟩
  · rw [strOf_size]; rfl
  · cases e
theorem dig_inj {a b : Int} (h0 : 0 ≤ a) (h9 : a ≤ 9) (k0 : 0 ≤ b) (k9 : b ≤ 9) (h : strOf [48 + a] = strOf [48 + b]) : a = b := by
  rcases ten_cases h0 h9 with rfl | rfl | rfl | rfl | rfl | rfl | rfl | rfl | rfl | rfl <;> rcases ten_cases k0 k9 with rfl | rfl | rfl | rfl | rfl | rfl | rfl | rfl | rfl | rfl <;> first | rfl | exact absurd h (by decide)
/-! Numbers in the reference. -/
def dgt (s : ByteArray) (i : Nat) : Int := (((s[i]?).getD 0).toNat : Int) - 48
def numTo (s : ByteArray) : Nat → Int
  | 0 => 0
  | i + 1 => 10 * numTo s i + dgt s i
def digTo (s : ByteArray) (n : Nat) : Prop := ∀ i b, i < n → s[i]? = some b → 48 ≤ b.toNat ∧ b.toNat ≤ 57
def numOk (s : ByteArray) : Prop := 1 ≤ s.size ∧ s.size ≤ 10 ∧ (∀ b, s[0]? = some b → b.toNat = 48 → s.size = 1) ∧ digTo s s.size
theorem dgt_at {s : ByteArray} {i : Nat} {b : UInt8} (h : s[i]? = some b) : dgt s i = (b.toNat : Int) - 48 := by unfold dgt; rw [h]; rfl
theorem numTo_bnd {s : ByteArray} (n : Nat) (h : digTo s n) (hn : n ≤ s.size) (h10 : n ≤ 10) : 0 ≤ numTo s n ∧ numTo s n < 10 ^ n := by
  induction n with
  | zero => exact ⟨Int.le_refl 0, (by decide : (0 : Int) < 10 ^ 0)⟩
  | succ n ih =>
    obtain ⟨a, b⟩ := ih (fun i c hi hc => h i c (by omega) hc) (by omega) (by omega)
    obtain ⟨c, hc⟩ := strAt (t := s) (i := n) (by omega)
    obtain ⟨d1, d2⟩ := h n c (by omega) hc
    show 0 ≤ 10 * numTo s n + dgt s n ∧ 10 * numTo s n + dgt s n < 10 ^ (n + 1)
    rw [dgt_at hc, Int.pow_succ]
    omega
theorem numTo_le {s : ByteArray} {n : Nat} (h : digTo s n) (hn : n ≤ s.size) (h10 : n ≤ 10) : 0 ≤ numTo s n ∧ numTo s n ≤ 9999999999 := by
  obtain ⟨a, b⟩ := numTo_bnd n h hn h10
  have h1 : 10 ^ n ≤ 10 ^ 10 := Nat.pow_le_pow_right (by decide) h10
  have e : (10 : Nat) ^ 10 = 10000000000 := by decide
  have e2 : ((10 : Int) ^ n) = ((10 ^ n : Nat) : Int) := by norm_cast
  rw [e2] at b
  omega
theorem numTo_dig {s : ByteArray} (h : numOk s) (h10 : numTo s s.size < 10) : s = strOf [48 + numTo s s.size] ∧ 0 ≤ numTo s s.size := by
  obtain ⟨h1, h2, h3, h4⟩ := h
  have hge := (numTo_bnd s.size h4 (Nat.le_refl _) h2).1
  refine ⟨?_, hge⟩
  have hs : s.size = 1 := by
    rcases Nat.lt_or_ge 1 s.size with h | h
    · exfalso
      obtain ⟨b, hb⟩ := strAt (t := s) (i := 0) (by omega)
      have hb1 : 49 ≤ b.toNat := by
        have := (h4 0 b (by omega) hb).1
        have := h3 b hb
        omega
      have key : ∀ k, k + 1 ≤ s.size → 1 ≤ numTo s (k + 1) ∧ (1 ≤ k → 10 ≤ numTo s (k + 1)) := by
        intro k
        induction k with
        | zero =>
          intro _
          have : numTo s 1 = 10 * 0 + dgt s 0 := rfl
          rw [this, dgt_at hb]
          exact ⟨by omega, fun q => by omega⟩
        | succ k ih =>
          intro hk
          obtain ⟨c, hc⟩ := strAt (t := s) (i := k + 1) (by omega)
          have hd := (h4 (k + 1) c (by omega) hc).1
          have := (ih (by omega)).1
          have e : numTo s (k + 1 + 1) = 10 * numTo s (k + 1) + dgt s (k + 1) := rfl
          rw [e, dgt_at hc]
          exact ⟨by omega, fun _ => by omega⟩
      have := (key (s.size - 1) (by omega)).2 (by omega)
      rw [show s.size - 1 + 1 = s.size by omega] at this
      omega
    · omega
  obtain ⟨b, hb⟩ := strAt (t := s) (i := 0) (by omega)
  have hn : numTo s s.size = (b.toNat : Int) - 48 := by
    rw [hs]
    show 10 * 0 + dgt s 0 = _
    rw [dgt_at hb]; omega
  have hd := h4 0 b (by omega) hb
  have : s = ofL [b] := by
    refine ofL_eq (List.ext_getElem? fun i => ?_)
    match i with
    | 0 => rw [← ba_get, hb]; rfl
    | i + 1 => rw [List.getElem?_eq_none (by rw [← ba_size]; omega)]; rfl
  rw [hn, this]
  show _ = ByteArray.empty.push (UInt8.ofNat (48 + ((b.toNat : Int) - 48)).toNat)
  rw [show (48 + ((b.toNat : Int) - 48)).toNat = b.toNat by omega, UInt8.ofNat_toNat]
  rfl
theorem numOk_dig {n : Int} (h0 : 0 ≤ n) (h9 : n ≤ 9) : numOk (strOf [48 + n]) ∧ numTo (strOf [48 + n]) (strOf [48 + n]).size = n := by
  have key : ∀ b : UInt8, 48 ≤ b.toNat → b.toNat ≤ 57 → numOk (ofL [b]) ∧ numTo (ofL [b]) (ofL [b]).size = (b.toNat : Int) - 48 := by
    intro b h1 h2
    have hg : (ofL [b])[0]? = some b := by rw [ba_get]; rfl
    refine ⟨⟨by rw [ofL_size]; exact Nat.le_refl 1, by rw [ofL_size]; show 1 ≤ 10; omega, fun _ _ _ => by rw [ofL_size]; rfl, fun i c hi hc => ?_⟩, ?_⟩
    · have : i = 0 := by rw [ofL_size] at hi; simp at hi; exact hi
      subst this
      rw [hg] at hc; cases hc; exact ⟨h1, h2⟩
    · rw [ofL_size]
      show 10 * 0 + dgt (ofL [b]) 0 = _
      rw [dgt_at hg]; omega
  have e : strOf [48 + n] = ofL [UInt8.ofNat (48 + n).toNat] := ofL_eq (strOf_data' _)
  rw [e]
  have hb : (UInt8.ofNat (48 + n).toNat).toNat = (48 + n).toNat := by simp; omega
  obtain ⟨k1, k2⟩ := key (UInt8.ofNat (48 + n).toNat) (by rw [hb]; omega) (by rw [hb]; omega)
  refine ⟨k1, ?_⟩
  rw [k2, hb]; omega
end Go.AW
